/-
  Parts of a proof, joined. No statement is proved here.
-/
import Derived.WalkKit
import Derived.Below
import Derived.Lib.Hide
import Derived.Laws.MakeOwn
import Derived.Laws.Append
import Derived.Deep.AppendSrc
import Derived.Maps.Keyed
import Derived.Laws.BytesString
import Derived.Carry
namespace Go.Proofs.YtolilnhippapaaaGreat
set_option linter.unusedSimpArgs false
set_option linter.unusedVariables false
set_option maxRecDepth 100000
set_option linter.unusedSectionVars false
theorem aE : type_of% @List.getD_eq_getElem?_getD := @List.getD_eq_getElem?_getD
theorem aJ : type_of% @List.getElem?_eq_getElem := @List.getElem?_eq_getElem
theorem ab : type_of% @if_neg := @if_neg
theorem ae : type_of% @if_pos := @if_pos
theorem aK : type_of% @List.length_map := @List.length_map
theorem aT : type_of% @Nat.le_refl := @Nat.le_refl
theorem bH : type_of% @List.length_cons := @List.length_cons
theorem bQ : type_of% @Int.toNat_natCast := @Int.toNat_natCast
theorem bU : type_of% @List.length_nil := @List.length_nil
theorem cq : type_of% @List.length_append := @List.length_append
theorem cY : type_of% @List.getElem?_eq_none := @List.getElem?_eq_none
theorem cB : type_of% @List.mem_singleton := @List.mem_singleton
theorem df : type_of% @ByteArray.size_append := @ByteArray.size_append
theorem cU : type_of% @List.getElem?_map := @List.getElem?_map
theorem fv : type_of% @List.getElem?_append_left := @List.getElem?_append_left
theorem dh : type_of% @List.size_toArray := @List.size_toArray
theorem gJ : type_of% @List.getElem?_append_right := @List.getElem?_append_right
theorem dt : type_of% @List.mem_append := @List.mem_append
theorem bJ : type_of% @congrArg := @congrArg
theorem eZ : type_of% @List.take_length := @List.take_length
theorem dq : type_of% @List.mem_map := @List.mem_map
theorem jd : type_of% @List.take_of_length_le := @List.take_of_length_le
theorem gy : type_of% @List.append_assoc := @List.append_assoc
theorem dZ : type_of% @List.mem_cons := @List.mem_cons
theorem fY : type_of% @Bool.and_eq_true := @Bool.and_eq_true
theorem gf : type_of% @IntKind.wrap_i64 := @IntKind.wrap_i64
theorem gA : type_of% @List.length_take := @List.length_take
theorem dY : type_of% @Nat.lt_or_ge := @Nat.lt_or_ge
theorem fi : type_of% @List.map_cons := @List.map_cons
theorem jA : type_of% @List.length_singleton := @List.length_singleton
theorem fQ : type_of% @List.drop_zero := @List.drop_zero
theorem fX : type_of% @List.mem_range := @List.mem_range
theorem ib : type_of% @List.getElem_mem := @List.getElem_mem
theorem jN : type_of% @List.mem_iff_getElem := @List.mem_iff_getElem
theorem gM : type_of% @decide_eq_false := @decide_eq_false
theorem ja : type_of% @decide_eq_true_eq := @decide_eq_true_eq
theorem ia : type_of% @decide_eq_true := @decide_eq_true
theorem gm : type_of% @List.map_nil := @List.map_nil
theorem iv : type_of% @Nat.le_trans := @Nat.le_trans
theorem ki : type_of% @List.all_eq_true := @List.all_eq_true
theorem n8 : type_of% @List.length_eq_zero_iff := @List.length_eq_zero_iff
theorem kb : type_of% @Bool.eq_iff_iff := @Bool.eq_iff_iff
theorem kJ : type_of% @List.any_eq_true := @List.any_eq_true
theorem lI : type_of% @List.take_add_one := @List.take_add_one
theorem gG : type_of% @beq_iff_eq := @beq_iff_eq
theorem nB : type_of% @List.mem_of_getElem? := @List.mem_of_getElem?
theorem kM : type_of% @List.append_nil := @List.append_nil
theorem lL : type_of% @List.length_drop := @List.length_drop
theorem jr : type_of% @Nat.zero_le := @Nat.zero_le
theorem lW : type_of% @List.nil_append := @List.nil_append
theorem po : type_of% @List.contains_iff_mem := @List.contains_iff_mem
theorem jw : type_of% @Nat.add_mul := @Nat.add_mul
theorem kP : type_of% @Bool.true_and := @Bool.true_and
theorem rF : type_of% @Array.getElem?_eq_getElem := @Array.getElem?_eq_getElem
theorem tG : type_of% @List.pairwise_iff_getElem := @List.pairwise_iff_getElem
theorem nR : type_of% @Option.getD_some := @Option.getD_some
theorem ov : type_of% @List.cons_append := @List.cons_append
theorem nZ : type_of% @List.map_append := @List.map_append
theorem td : type_of% @List.getElem?_replicate := @List.getElem?_replicate
theorem vx : type_of% @Array.getD_eq_getD_getElem? := @Array.getD_eq_getD_getElem?
theorem pd : type_of% @List.any_eq_false := @List.any_eq_false
theorem oL : type_of% @Bool.not_eq_true := @Bool.not_eq_true
theorem lZ : type_of% @Nat.zero_add := @Nat.zero_add
theorem qI : type_of% @List.getElem?_range := @List.getElem?_range
theorem qY : type_of% @List.map_congr_left := @List.map_congr_left
theorem tl : type_of% @Nat.mul_le_mul_right := @Nat.mul_le_mul_right
theorem qC : type_of% @List.ext_getElem? := @List.ext_getElem?
theorem qL : type_of% @of_decide_eq_true := @of_decide_eq_true
theorem pt : type_of% @Bool.false_and := @Bool.false_and
theorem u4 : type_of% @List.take_succ_cons := @List.take_succ_cons
theorem ui : type_of% @Int.toNat_of_nonneg := @Int.toNat_of_nonneg
theorem qX : type_of% @Bool.or_eq_true := @Bool.or_eq_true
theorem qy : type_of% @List.range_succ := @List.range_succ
theorem rH : type_of% @List.not_mem_nil := @List.not_mem_nil
theorem sq : type_of% @Nat.min_eq_left := @Nat.min_eq_left
theorem rP : type_of% @List.mem_filter := @List.mem_filter
theorem tf : type_of% @List.drop_length := @List.drop_length
theorem zf : type_of% @decide_eq_false_iff_not := @decide_eq_false_iff_not
theorem zZ : type_of% @List.drop_eq_getElem_cons := @List.drop_eq_getElem_cons
theorem vh : type_of% @Nat.lt_of_lt_of_le := @Nat.lt_of_lt_of_le
theorem yI : type_of% @Array.getElem?_eq_none := @Array.getElem?_eq_none
theorem r7 : type_of% @List.take_zero := @List.take_zero
theorem tK : type_of% @Option.some.inj := @Option.some.inj
theorem tD : type_of% @List.length_set := @List.length_set
theorem xj : type_of% @List.getD_cons_succ := @List.getD_cons_succ
theorem yN : type_of% @List.mem_append_right := @List.mem_append_right
theorem vo : type_of% @List.getElem?_set := @List.getElem?_set
theorem xA : type_of% @Bool.false_eq_true := @Bool.false_eq_true
theorem xb : type_of% @List.getElem?_drop := @List.getElem?_drop
theorem yw : type_of% @List.getElem?_set_ne := @List.getElem?_set_ne
theorem rm : type_of% @Nat.sub_self := @Nat.sub_self
theorem xp : type_of% @Nat.eq_zero_or_pos := @Nat.eq_zero_or_pos
theorem A8 : type_of% @List.length_replicate := @List.length_replicate
theorem Aw : type_of% @List.length_filter_le := @List.length_filter_le
theorem HR : type_of% @List.findIdx?_eq_some_iff_getElem := @List.findIdx?_eq_some_iff_getElem
theorem y9 : type_of% @List.getElem?_take := @List.getElem?_take
theorem Cz : type_of% @Nat.add_sub_cancel_left := @Nat.add_sub_cancel_left
theorem Ae : type_of% @Nat.pow_le_pow_right := @Nat.pow_le_pow_right
theorem AP : type_of% @List.mem_of_mem_take := @List.mem_of_mem_take
theorem uW : type_of% @Bool.false_or := @Bool.false_or
theorem HE : type_of% @Array.getElem?_setIfInBounds_ne := @Array.getElem?_setIfInBounds_ne
theorem Ci : type_of% @List.drop_eq_nil_of_le := @List.drop_eq_nil_of_le
theorem yJ : type_of% @List.nodup_append := @List.nodup_append
theorem yR : type_of% @Nat.lt_trichotomy := @Nat.lt_trichotomy
theorem x5 : type_of% @Option.map_some := @Option.map_some
theorem wW : type_of% @List.any_append := @List.any_append
theorem CA : type_of% @Nat.eq_of_beq_eq_true := @Nat.eq_of_beq_eq_true
theorem uL : type_of% @Nat.add_zero := @Nat.add_zero
theorem Bj : type_of% @Option.toList_some := @Option.toList_some
theorem vV : type_of% @Bool.or_false := @Bool.or_false
theorem JC : type_of% @Array.getElem?_setIfInBounds := @Array.getElem?_setIfInBounds
theorem E9 : type_of% @List.getElem?_cons_succ := @List.getElem?_cons_succ
theorem Gm : type_of% @List.getElem?_set_self := @List.getElem?_set_self
theorem BD : type_of% @List.filter_cons := @List.filter_cons
theorem E4 : type_of% @Array.getElem?_toList := @Array.getElem?_toList
theorem wJ : type_of% @List.map_map := @List.map_map
theorem Ep : type_of% @List.mem_append_left := @List.mem_append_left
theorem xG : type_of% @Nat.sub_zero := @Nat.sub_zero
theorem B9 : type_of% @Bool.not_eq_true' := @Bool.not_eq_true'
theorem N9 : type_of% @List.drop_append_of_le_length := @List.drop_append_of_le_length
theorem Eg : type_of% @List.drop_succ_cons := @List.drop_succ_cons
theorem Fk : type_of% @List.length_pos_iff := @List.length_pos_iff
theorem Du : type_of% @List.ext_getElem := @List.ext_getElem
theorem Cq : type_of% @Option.bind_some := @Option.bind_some
theorem Ak : type_of% @Nat.mul_le_mul := @Nat.mul_le_mul
theorem zj : type_of% @Bool.true_or := @Bool.true_or
theorem KN : type_of% @List.idxOf_lt_length_of_mem := @List.idxOf_lt_length_of_mem
theorem Fh : type_of% @List.filter_append := @List.filter_append
theorem IT : type_of% @Bool.and_eq_false_iff := @Bool.and_eq_false_iff
theorem FJ : type_of% @Bool.eq_false_iff := @Bool.eq_false_iff
theorem Bc : type_of% @Nat.mul_comm := @Nat.mul_comm
theorem Gs : type_of% @List.map_toArray := @List.map_toArray
theorem Fp : type_of% @Nat.le_of_not_lt := @Nat.le_of_not_lt
theorem D0 : type_of% @List.getElem_map := @List.getElem_map
theorem I2 : type_of% @List.getD_cons_zero := @List.getD_cons_zero
theorem Cw : type_of% @Bool.and_true := @Bool.and_true
theorem DN : type_of% @Nat.add_assoc := @Nat.add_assoc
theorem C6 : type_of% @List.any_cons := @List.any_cons
theorem Eo : type_of% @Int.natCast_mul := @Int.natCast_mul
abbrev aj := List (List Int)
abbrev ah := List Int
abbrev ay := Nat → Bool
abbrev aX:=ByteArray
abbrev a8:=Operand
abbrev bI:=Program
abbrev bl:=TypeId
abbrev aP:=Value
abbrev ba:=World
open Go.RowKit
theorem oo:(∀{α:Type} [BEq α] [LawfulBEq α] {a b:α},(a != b)↔a≠b)/\(∀{α:Type} (a b:α),(a≠b)=¬a=b)/\(∀{α:Type} [BEq α] [LawfulBEq α] {a b:α},(a != b)=false↔a=b) /\
  (∀{α:Type} [BEq α] [LawfulBEq α] {a b:α},(a==b)↔a=b)/\(∀{α:Type} [BEq α] [LawfulBEq α] {a b:α},(a==b)=false↔a≠b)/\(∀{p:Prop} [Decidable p],(decide p=true)=p)/\(∀{p:Prop} [Decidable p],decide p=false↔¬p) /\
  (∀{α β:Type} {as:List α} (f:α->β),(List.map f as).length=as.length)/\(∀b:Bool,(¬b)=(b=false))/\(∀b:Bool,(¬b=false)=(b=true))/\(∀a b:Bool,((a&&b)=true)=(a=true/\b))/\(∀a b:Bool,((a||b)=true)=(a=true\/b)) /\
  (∀{x y:Bool},(x&&y)=false↔x=false\/y=false)/\(∀{x y:Bool},(x||y)=false↔x=false/\y=false)/\(∀b:Bool,((!b)=true)=(b=false))/\(∀b:Bool,((!b)=false)=(b=true))/\(!true)=false/\(!false)=true /\
  (∀{a b:Bool},(!a)=b↔a=!b)/\(¬True)=False/\(¬False)=True/\(∀b:Bool,(true||b))/\(∀b:Bool,(false||b)=b)/\(∀b:Bool,(b||true))/\(∀b:Bool,(b||false)=b)/\(∀b:Bool,(true&&b)=b)/\(∀b:Bool,(b&&true)=b) /\
  (∀b:Bool,(false&&b)=false)/\(∀b:Bool,(b&&false)=false)/\(∀p:Prop,(True/\p)=p)/\(∀p:Prop,(p/\True)=p)/\(∀p:Prop,(p\/False)=p)/\(∀p:Prop,(False\/p)=p)/\(∀p:Prop,(True\/p)=True)/\(∀p:Prop,(p\/True)=True) /\
  (∀p:Prop,(False/\p)=False)/\(∀p:Prop,(p/\False)=False)/\(true=false)=False/\(false=true)=False :=
 ⟨bne_iff_ne,ne_eq,bne_eq_false_iff_eq,gG,beq_eq_false_iff_ne,ja,zf,aK,oL,Bool.not_eq_false,fY,qX,IT,Bool.or_eq_false_iff,B9,Bool.not_eq_false',Bool.not_true,Bool.not_false,
  Bool.not_eq_eq_eq_not,not_true_eq_false,not_false_eq_true,zj,uW,Bool.or_true,vV,kP,Cw,pt,Bool.and_false,true_and,and_true,or_false,false_or,true_or,or_true,false_and,and_false,Bool.true_eq_false,xA⟩
theorem ll:(∀{α β:Type} {as:List α} (f:α->β),(List.map f as).length=as.length)/\(∀{α:Type} {a:α} {as:List α},(a::as).length=as.length+1)/\(∀{α:Type},([]:List α).length=0)/\(∀{α:Type} {as bs:List α},(as++bs).length=as.length+bs.length) /\
  (∀{α:Type} {i:Nat} {l:List α},(l.take i).length=min i l.length)/\(∀{α:Type} {i:Nat} {l:List α},(l.drop i).length=l.length-i)/\(∀{α:Type} {l:List α},l.drop 0=l)/\(∀{α:Type} {a:α} {as:List α} {i:Nat},(a::as).take (i+1)=a::as.take i)/\(∀{α:Type} {l:List α},l.take 0=[]) :=
 ⟨aK,bH,bU,cq,gA,lL,fQ,u4,r7⟩
inductive D where
 |dW
 |sc (v:aP)
 |loc (id off:Nat)
 |elt (id aw i off:Nat)
 |aB (cs:List D)
 |aM (ak:Nat) (xs:List (List D))
 |own (id aw lo hi:Nat)
 |fn (f:Fn) (first cap:List D)
 |ifc (t:bl) (d:D)
 |agg (cs:List D)
 |aI (cs:List D)
 |mp (id:Nat)
 |gv (g:Nat)
 deriving Inhabited
inductive ao where
 |row (m:Bool) (cs:List D)
 |vec (m:Bool) (aw ak:Nat) (xs:List (List D))
 |eU (m:Bool) (I:Array MapEntry->Prop)
 deriving Inhabited
structure Site where
 row:Bool
 aw:Nat
 ad:Option Addr
 ak:Nat
 cap:Nat
 len:Nat
def Site.c9(s:Site):Option Nat:=if s.row=false/\s.cap=0 then none else s.ad.map (·.block)
abbrev bf:=Nat->Option Site
def gE:aP->Bool
 | .agg _|.tuple _=>false
 |_=>true
section
variable(J:bf)(F:Nat->Prop)(w:ba)
mutual
def rep:D->aP->Prop
 | .dW,_=>True
 | .sc u,v=>v=u
 | .loc id off,v=>∃s b,J id=some s/\s.row=true/\s.ad=some ⟨b,0,none⟩/\v=.pointer (some ⟨b,off,none⟩)
 | .elt id aw i off,v=>∃s a,J id=some s/\v=.pointer (some a)/\aw<=s.aw/\(aw=s.aw->∃b o,s.row=false/\s.ad=some ⟨b,o,none⟩/\i<s.len/\a=⟨b,o+i*s.ak+off,none⟩)
 | .aB cs,v=>∃b o,v=.pointer (some ⟨b,o,none⟩)/\F b/\eY b cs o
 | .aM ak xs,v=>∃A n c,v=.slice A n c/\n=xs.length/\n<=c/\(n=0\/∃b o,A=some ⟨b,o,none⟩/\F b/\fD b ak xs o)
 | .own id aw lo hi,v=>∃s A n c,J id=some s/\v=.slice A n c/\aw<=s.aw/\(aw=s.aw->s.row=false/\lo<=hi/\hi<=s.len/\n=hi-lo/\c=s.cap-lo/\(s.cap=lo\/∃b o,s.ad=some ⟨b,o,none⟩/\A=some ⟨b,o+lo*s.ak,none⟩))
 | .fn f first cap,v=>∃vs us,v=.func f vs.toArray us.toArray/\bB first vs/\bB cap us
 | .ifc t d,v=>∃u,v=.iface t u/\rep d u
 | .agg cs,v=>∃vs,v=.agg vs.toArray/\bB cs vs
 | .aI cs,v=>∃vs,v=.tuple vs.toArray/\bB cs vs
 | .mp id,v=>∃s b,J id=some s/\s.row=true/\s.ad=some ⟨b,0,none⟩/\v=.map (some b)
 | .gv g,v=>F g/\w.cell? ⟨g,0,none⟩=some v/\gE v=true
def bB:List D->List aP->Prop
 |[],vs=>vs=[]
 |d::ds,vs=>∃v us,vs=v::us/\rep d v/\bB ds us
def eY(b:Nat):List D->Nat->Prop
 |[],_=>True
 |c::r,o=>(∃u,w.cell? ⟨b,o,none⟩=some u/\gE u=true/\rep c u)/\eY b r (o+1)
def fD(b ak:Nat):List (List D)->Nat->Prop
 |[],_=>True
 |x::r,o=>x.length=ak/\eY b x o/\fD b ak r (o+ak)
end
end
def bf.le(J J':bf):Prop:=∀id s,J id=some s->∃s',J' id=some s'/\s.aw<=s'.aw/\(s.aw=s'.aw\/s.row->s'=s)
variable(J:bf)
theorem bf.le_refl:J.le J:=λ_ s h=>⟨s,h,aT _,λ_=>rfl⟩
variable{J':bf}
theorem bf.le_trans{J J'':bf}(h:J.le J')(k:J'.le J''):J.le J'':=λid s e=>by
 obtain⟨s1,e1,l1,q1⟩:=h id s e;obtain⟨s2,e2,l2,q2⟩:=k id s1 e1;refine⟨s2,e2,iv l1 l2,λq=>?_⟩;rcases q with q|q
 ·rw[q2 (.inl<|by omega),q1 (.inl<|by omega)]
 have h1:=q1 (.inr q);subst h1;exact q2 (.inr q)
variable{w w':ba}
theorem AG{b:Nat}(h:w'.heap[b]? = w.heap[b]?)(o:Nat):w'.cell? ⟨b,o,none⟩=w.cell? ⟨b,o,none⟩:=by
 simp only[World.cell?,h]
section
variable{J J':bf}{F F':Nat->Prop}{w w':ba}
mutual
theorem kq(hJ:J.le J')(hF:∀b,F b->F' b)(hw:∀b,F b->w'.heap[b]? = w.heap[b]?):∀(d:D) (v:aP),rep J F w d v->rep J' F' w' d v
 | .dW,v,_=>by simp only[rep]
 | .sc u,v,h=>by simpa only[rep] using h
 | .loc id off,v,h=>by
  simp only[rep] at h⊢;obtain⟨s,b,h1,h2,h3,h4⟩:=h;obtain⟨s',e,_,q⟩:=hJ id s h1;rw[q (.inr h2)] at e;exact⟨s,b,e,h2,h3,h4⟩
 | .elt id aw i off,v,h=>by
  simp only[rep] at h⊢;obtain⟨s,a,h1,h4,h2,h3⟩:=h;obtain⟨s',e,l,q⟩:=hJ id s h1;refine⟨s',a,e,h4,by omega,λq'=>?_⟩;rw[q (.inl (by omega))];exact h3 (by omega)
 | .aB cs,v,h=>by
  simp only[rep] at h⊢;obtain⟨b,o,h1,h2,h3⟩:=h;exact⟨b,o,h1,hF b h2,EN hJ hF hw b (AG (hw b h2)) cs o h3⟩
 | .aM ak xs,v,h=>by
  simp only[rep] at h⊢;obtain⟨A,n,c,h1,h2,hc,h3⟩:=h;refine⟨A,n,c,h1,h2,hc,h3.imp id λ⟨b,o,h4,h5,h6⟩=>⟨b,o,h4,hF b h5,Js hJ hF hw b ak (AG (hw b h5)) xs o h6⟩⟩
 | .own id aw lo hi,v,h=>by
  simp only[rep] at h⊢;obtain⟨s,A,n,c,h1,h4,h2,h3⟩:=h;obtain⟨s',e,l,q⟩:=hJ id s h1;refine⟨s',A,n,c,e,h4,by omega,λq'=>?_⟩;rw[q (.inl (by omega))];exact h3 (by omega)
 | .fn f first cap,v,h=>by
  simp only[rep] at h⊢;obtain⟨vs,us,h1,h2,h3⟩:=h;exact⟨vs,us,h1,zY hJ hF hw first vs h2,zY hJ hF hw cap us h3⟩
 | .ifc t d,v,h=>by
  simp only[rep] at h⊢;obtain⟨u,h1,h2⟩:=h;exact⟨u,h1,kq hJ hF hw d u h2⟩
 | .agg cs,v,h=>by
  simp only[rep] at h⊢;obtain⟨vs,h1,h2⟩:=h;exact⟨vs,h1,zY hJ hF hw cs vs h2⟩
 | .aI cs,v,h=>by
  simp only[rep] at h⊢;obtain⟨vs,h1,h2⟩:=h;exact⟨vs,h1,zY hJ hF hw cs vs h2⟩
 | .gv g,v,h=>by
  simp only[rep] at h⊢;exact⟨hF g h.1,(AG (hw g h.1) 0).trans h.2.1,h.2.2⟩
 | .mp id,v,h=>by
  simp only[rep] at h⊢;obtain⟨s,b,h1,h2,h3,h4⟩:=h;obtain⟨s',e,_,q⟩:=hJ id s h1;rw[q (.inr h2)] at e;exact⟨s,b,e,h2,h3,h4⟩
theorem zY(hJ:J.le J')(hF:∀b,F b->F' b)(hw:∀b,F b->w'.heap[b]? = w.heap[b]?):∀(ds:List D) (vs:List aP),bB J F w ds vs->bB J' F' w' ds vs
 |[],vs,h=>by simpa only[bB] using h
 |d::ds,vs,h=>by
  simp only[bB] at h⊢;obtain⟨v,us,h1,h2,h3⟩:=h;exact⟨v,us,h1,kq hJ hF hw d v h2,zY hJ hF hw ds us h3⟩
theorem EN(hJ:J.le J')(hF:∀b,F b->F' b)(hw:∀b,F b->w'.heap[b]? = w.heap[b]?)(b:Nat)(hb:∀o,w'.cell? ⟨b,o,none⟩=w.cell? ⟨b,o,none⟩):∀(ds:List D) (o:Nat),eY J F w b ds o->eY J' F' w' b ds o
 |[],o,h=>by simp only[eY]
 |c::r,o,h=>by
  simp only[eY] at h⊢;obtain⟨⟨u,h1,h0,h2⟩,h3⟩:=h;exact⟨⟨u,by rw[hb];exact h1,h0,kq hJ hF hw c u h2⟩,EN hJ hF hw b hb r (o+1) h3⟩
theorem Js(hJ:J.le J')(hF:∀b,F b->F' b)(hw:∀b,F b->w'.heap[b]? = w.heap[b]?)(b ak:Nat)(hb:∀o,w'.cell? ⟨b,o,none⟩=w.cell? ⟨b,o,none⟩):∀(xs:List<|List D) (o:Nat),fD J F w b ak xs o->fD J' F' w' b ak xs o
 |[],o,h=>by simp only[fD]
 |x::r,o,h=>by
  simp only[fD] at h⊢;obtain⟨h1,h2,h3⟩:=h;exact⟨h1,EN hJ hF hw b hb x o h2,Js hJ hF hw b ak hb r (o+ak) h3⟩
end
theorem uj{b:Nat}:∀(cs:List D) (o j:Nat) (c:D),cs[j]? = some c->eY J F w b cs o->∃u,w.cell? ⟨b,o+j,none⟩=some u/\gE u/\rep J F w c u
 |[],_,_,_,h,_=>by simp at h
 |c::r,o,0,_,h,k=>by
  simp only[eY] at k;simp at h;subst h;exact k.1
 |c::r,o,j+1,d,h,k=>by
  simp only[eY] at k;have:=uj r (o+1) j d (by simpa using h) k.2;rwa [show o+1+j=o+(j+1) by omega] at this
theorem vm{b ak:Nat}:∀(xs:List<|List D) (o j:Nat) (x:List D),xs[j]? = some x->fD J F w b ak xs o->x.length=ak/\eY J F w b x (o+j*ak)
 |[],_,_,_,h,_=>by simp at h
 |x::r,o,0,_,h,k=>by
  simp only[fD] at k;simp at h;subst h;exact⟨k.1,by simpa using k.2.1⟩
 |x::r,o,j+1,d,h,k=>by
  simp only[fD] at k;have:=vm r (o+ak) j d (by simpa using h) k.2.2;rwa [show o+ak+j*ak=o+(j+1)*ak by rw[jw];omega] at this
theorem rv{b:Nat}:∀(cs:List D) (o:Nat),(∀(j:Nat) (c:D),cs[j]? = some c->∃u,w.cell? ⟨b,o+j,none⟩=some u/\gE u/\rep J F w c u)->eY J F w b cs o
 |[],_,_=>by simp only[eY]
 |c::r,o,h=>by
  simp only[eY];refine⟨by simpa using h 0 c rfl,rv r (o+1) λj d hd=>?_⟩;have:=h (j+1) d (by simpa using hd);rwa [show o+(j+1)=o+1+j by omega] at this
theorem vg{b ak:Nat}:∀(xs:List<|List D) (o:Nat),(∀(j:Nat) (x:List D),xs[j]? = some x->x.length=ak/\eY J F w b x (o+j*ak))->fD J F w b ak xs o
 |[],_,_=>by simp only[fD]
 |x::r,o,h=>by
  simp only[fD];refine⟨(h 0 x rfl).1,by simpa using (h 0 x rfl).2,vg r (o+ak) λj d hd=>?_⟩;have:=h (j+1) d (by simpa using hd);rwa [show o+(j+1)*ak=o+ak+j*ak by rw[jw];omega] at this
theorem nh:∀(ds:List D) (vs:List aP),bB J F w ds vs->vs.length=ds.length
 |[],vs,h=>by simp only[bB] at h;simp[h]
 |d::ds,vs,h=>by
  simp only[bB] at h;obtain⟨v,us,rfl,_,h3⟩:=h;simp[nh ds us h3]
theorem rN:∀(ds:List D) (vs:List aP) (j:Nat) (d:D),ds[j]? = some d->bB J F w ds vs->∃v,vs[j]? = some v/\rep J F w d v
 |[],_,_,_,h,_=>by simp at h
 |d::ds,vs,0,_,h,k=>by
  simp only[bB] at k;obtain⟨v,us,rfl,h2,_⟩:=k;simp at h;subst h;exact⟨v,rfl,h2⟩
 |d::ds,vs,j+1,e,h,k=>by
  simp only[bB] at k;obtain⟨v,us,rfl,_,h3⟩:=k;simpa using rN ds us j e (by simpa using h) h3
theorem Ec:∀(ds:List D) (vs:List aP),vs.length=ds.length->(∀(j:Nat) (d:D) (v:aP),ds[j]? = some d->vs[j]? = some v->rep J F w d v)->bB J F w ds vs
 |[],vs,h,_=>by simp only[bB];exact n8.1 h
 |d::ds,[],h,_=>by simp at h
 |d::ds,v::vs,h,k=>by
  simp only[bB];exact⟨v,vs,rfl,k 0 d v rfl rfl,Ec ds vs (by simpa using h) λj e u he hu=>k (j+1) e u (by simpa using he)<|by simpa using hu⟩
theorem Gu{a b:List D}:∀{va vb:List aP},bB J F w a va->bB J F w b vb->bB J F w (a++b) (va++vb):=by
 induction a with
 |nil=>intro va vb h k;simp only[bB] at h;subst h;simpa using k
 |cons d ds ih =>
  intro va vb h k;simp only[bB] at h;obtain⟨v,us,rfl,h2,h3⟩:=h;simp only[ov,bB];exact⟨v,us++vb,rfl,h2,ih h3 k⟩
end
def ao.mut:ao->Bool|.row m _=>m|.vec m _ _ _=>m|.eU m _=>m
def AU:List<|Nat×List D:=[]
def Vx:List<|Nat×Nat×aX:=[]
structure FOK(F:Nat->Prop)(w:ba):Prop where
 lt:∀b,F b->b<w.heap.size
 gl:∀g cs,(g,cs)∈AU->F g/\eY (λ_=>none) F w g cs 0
 se:∀g t s,(g,t,s)∈Vx->F g/\∃b o vals te,w.cell? ⟨g,0,none⟩=some (.iface t (.pointer<|some ⟨b,o,none⟩))/\F b/\w.heap[b]? = some (.cells vals te (0,0))/\w.cell? ⟨b,o,none⟩=some (.string s)
instance {F:Nat->Prop} {w:ba}:CoeFun (FOK F w) λ_=>∀b,F b->b<w.heap.size:=⟨FOK.lt⟩
variable{F F':Nat->Prop}
theorem FOK.mono(h:FOK F w)(hF:∀b,F b->F' b)(hw:∀b,F b->w'.heap[b]? = w.heap[b]?)(ck:∀b,F' b->b<w'.heap.size):FOK F' w' where
 lt:=ck
 se g t s hg:=by
  obtain⟨h1,b,o,vals,te,h2,h3,h4,h5⟩:=h.se g t s hg;exact⟨hF g h1,b,o,vals,te,(AG (hw g h1) 0).trans h2,hF b h3,(hw b h3).trans h4,(AG (hw b h3) o).trans h5⟩
 gl g cs hg:=by
  obtain⟨h1,h2⟩:=h.gl g cs hg;have k:=kq (J:=λ_=>none) (J':=λ_=>none) (bf.le_refl _) hF hw (.aB cs) (.pointer<|some ⟨g,0,none⟩) (by simp only[rep];exact⟨g,0,rfl,h1,h2⟩);simp only[rep] at k;obtain⟨b,o,e,k1,k2⟩:=k;cases e;exact⟨k1,k2⟩
theorem FOK.rep{F:Nat->Prop}{w:ba}(h:FOK F w)(J:bf){g:Nat}{cs:List D}(hg:(g,cs)∈AU):rep J F w (.aB cs) (.pointer<|some ⟨g,0,none⟩):=by
 obtain⟨h1,h2⟩:=h.gl g cs hg;exact kq (J:=λ_=>none) (J':=J) (λ_ _ q=>by cases q) (λ_ q=>q) (λ_ _=>rfl) (.aB cs) (.pointer<|some ⟨g,0,none⟩)<|by simp only[_root_.Go.Proofs.YtolilnhippapaaaGreat.rep];exact⟨g,0,rfl,h1,h2⟩
section
variable(J:bf)(F:Nat->Prop)(w:ba)
def oW(s:Site):ao->Prop
 | .row m cs=>s.row=true/\s.aw=0/\s.ak=1/\s.len=cs.length/\s.cap=cs.length/\∃b vals te,s.ad=some ⟨b,0,none⟩/\w.heap[b]? = some (.cells vals te (0,0))/\vals.size=cs.length/\eY J F w b cs 0/\(m=false->F b)
 | .vec m aw ak xs=>s.row=false/\s.aw=aw/\s.ak=ak/\s.len=xs.length/\s.len<=s.cap/\(s.cap=0\/∃b o vals te,s.ad=some ⟨b,o,none⟩/\w.heap[b]? = some (.cells vals te (0,0))/\o+s.cap*ak<=vals.size/\fD J F w b ak xs o/\(m=false->F b))
 | .eU _ I=>s.row=true/\∃b es clock,s.ad=some ⟨b,0,none⟩/\w.heap[b]? = some (.map es clock)/\I es
structure cH(H:Nat->Option ao):Prop where
 obj:∀id s,J id=some s->∃o,H id=some o/\oW J F w s o
 one:∀id jn s s' b,J id=some s->J jn=some s'->s.c9=some b->s'.c9=some b->id=jn
 apart:∀id s b o,J id=some s->s.c9=some b->H id=some o->o.mut->¬F b
 lt:FOK F w
def jU(b:Nat):Prop:=∃id s,J id=some s/\s.c9=some b
end
structure Ext(J:bf)(F:Nat->Prop)(w:ba)(J':bf)(F':Nat->Prop)(w':ba):Prop where
 os:w'.os=w.os
 tape:w'.tape=w.tape
 output:w'.output=w.output
 size:w.heap.size<=w'.heap.size
 block:∀b,b<w.heap.size->¬jU J b->w'.heap[b]? = w.heap[b]?
 frozen:∀b,F b->w'.heap[b]? = w.heap[b]?
 le:J.le J'
 grow:∀b,F b->F' b
 oQ:∀b,jU J' b->jU J b\/w.heap.size<=b
 pc:∀b,F' b->F b\/jU J b\/w.heap.size<=b
theorem Ext.refl(F:Nat->Prop)(w:ba):Ext J F w J F w:=⟨rfl,rfl,rfl,aT _,λ_ _ _=>rfl,λ_ _=>rfl,bf.le_refl J,λ_ h=>h,λ_ h=>.inl h,λ_ h=>.inl h⟩
theorem Ext.trans{J J' J'':bf}{F F' F'':Nat->Prop}{w w' w'':ba}(h:Ext J F w J' F' w')(k:Ext J' F' w' J'' F'' w''):Ext J F w J'' F'' w'' where
 os:=k.os.trans h.os
 tape:=k.tape.trans h.tape
 output:=k.output.trans h.output
 size:=iv h.size k.size
 block b hb ho:=by
  have h1:¬jU J' b:=λh'=>(h.oQ b h').elim ho (λh''=>by omega);rw[k.block b (by have:=h.size;omega) h1,h.block b hb ho]
 frozen b hb:=(k.frozen b<|h.grow b hb).trans<|h.frozen b hb
 le:=bf.le_trans h.le k.le
 grow b hb:=k.grow b<|h.grow b hb
 oQ b hb:=(k.oQ b hb).elim (h.oQ b) λh'=>.inr<|iv h.size h'
 pc b hb:=by
  rcases k.pc b hb with h1|h1|h1
  ·exact h.pc b h1
  ·exact(h.oQ b h1).elim (λh2=>.inr (.inl h2)) (λh2=>.inr (.inr h2))
  exact .inr (.inr<|iv h.size h1)
variable{J:bf}
theorem Jb(h:Ext J F w J' F' w'){d:D}{v:aP}(k:rep J F w d v):rep J' F' w' d v:=kq h.le h.grow h.frozen d v k
inductive POp where
 |move (x:a8)
 |pick (c a b:a8)
 |alloc (z:List aP)
 |box (x:a8)
 |build (z:List aP) (parts:List (Nat×Nat×a8))
 |oP (ak n:Nat) (parts:List a8)
 |cg (a:a8)
 |mF (n:Nat) (a:a8)
 |store (n:Nat) (a v:a8)
 |jR (x:a8)
 |bin (op:BinOp) (x y:a8)
 |eqb (neq:Bool) (x y:a8)
 |eqa (neq:Bool) (ks:List Nat) (x y:a8)
 |EH (kind:Nat) (neq:Bool) (x:a8)
 |un (op:UnOp) (x:a8)
 |ext (i:Nat) (x:a8)
 |dO (off:Nat) (x:a8)
 |field (off n:Nat) (agg:Bool) (x:a8)
 |gZ (ak:Nat) (x i:a8)
 |OF (len ak:Nat) (x i:a8)
 |Ai (x i:a8)
 |Cf (len ak:Nat) (agg:Bool) (x i:a8)
 |jD (f:Fn) (first cap:List a8)
 |sM (ak bytes:Nat) (z:List aP) (l c:a8)
 |slc (ak:Nat) (x:a8) (lo hi mx:Option a8)
 |Kq (x:a8) (lo hi:Option a8)
 |len (x:a8)
 |zF (x:a8)
 |append (ak bytes:Nat) (x y:a8)
 |clr (u:aP) (x:a8)
 |mx (big:Bool) (x y:a8)
 |call (f:FuncId) (args:List a8)
 |dN (x:a8) (args:List a8)
 |Nf (t:bl) (x:a8)
 |conv (k:IntKind) (x:a8)
 |Kh (x:a8)
 |FH (kt:bl)
 |look (kt:bl) (z:aP) (m x:a8)
 |Mr (kt:bl) (m x:a8)
 |OD (kt:bl) (m x v:a8)
structure cV where
 dst:Option Tmp
 op:POp
 guard:Option<|Tmp×Bool
 mask:Nat
def qm(d s:Nat):cV:=⟨some d,.move (.tmp s),none,0⟩
def qw(d s m:Nat):cV:=⟨some d,.move (.tmp s),none,m⟩
def q(d:Nat)(o:POp):cV:=⟨some d,o,none,0⟩
def qd(d:Nat)(o:POp)(m:Nat):cV:=⟨some d,o,none,m⟩
def qn(o:POp):cV:=⟨none,o,none,0⟩
def qk(o:POp)(m:Nat):cV:=⟨none,o,none,m⟩
inductive PC where
 |skip
 |ops (l:List cV) (draw:Bool)
 |seq (a b:PC)
 |cond (c:a8) (a b:PC)
 |block (id:Nat) (c:PC)
 |loop (c:PC)
 |exit (id:Nat)
 |ret
 |stop (c:PC)
def PC.bare:PC->PC
 | .seq a b=>.seq a.bare b.bare
 | .cond c a b=>.cond c a.bare b.bare
 | .block id c=>.block id c.bare
 | .loop c=>.loop c.bare
 | .stop c=>c.bare
 |c=>c
abbrev Env:=List<|Nat×D
def lift:aP->D
 | .agg cs=>.agg<|cs.toList.map .sc
 |v=>.sc v
def iA(t:Nat):Env->D
 |[]=>.dW
 |(k,d)::r=>match Nat.beq t k with|true=>d|false=>iA t r
def zW(g:Nat):List (Nat×List D)->D
 |[]=>.sc (.pointer<|some ⟨g,0,none⟩)
 |(k,cs)::r=>match Nat.beq g k with|true=>.aB cs|false=>zW g r
theorem Uw(h:FOK F w)(g:Nat):rep J F w (zW g AU) (.pointer<|some ⟨g,0,none⟩):=by
 have key:∀l:List<|Nat×List D,(∀x∈l,x∈AU)->rep J F w (zW g l) (.pointer<|some ⟨g,0,none⟩):=λl=>by
  induction l with
  |nil=>intro _;simp only[zW,rep]
  |cons x r ih =>
   intro hl;obtain⟨k,cs⟩:=x;simp only[zW]
   cases e:Nat.beq g k with
   |true =>
    have:=CA e;subst this;exact h.rep J<|hl _<|by simp
   |false=>exact ih λy hy=>hl y<|by simp[hy]
 exact key _ λ_ h=>h
def fU(env:Env):a8->D
 | .tmp t=>iA t env
 | .const v=>lift v
 | .global g=>zW g AU
 | .func f=>.fn (.func f) [] []
def tN(t:Nat)(K:D->Prop):Env->Prop
 |[]=>K .dW
 |(k,d)::r=>match Nat.beq t k with|true=>K d|false=>tN t K r
def scK:List aP->(List D->Prop)->Prop
 |[],K=>K []
 |v::r,K=>scK r λcs=>K (.sc v::cs)
def dK(env:Env)(x:a8)(K:D->Prop):Prop :=
 match x with
 | .tmp t=>tN t K env
 | .const v=>match v with
  | .agg cs=>scK cs.toList λl=>K (.agg l)
  |v=>K (.sc v)
 | .global g=>K<|zW g AU
 | .func f=>K (.fn (.func f) [] [])
def AZ(env:Env):List a8->(List D->Prop)->Prop
 |[],K=>K []
 |x::r,K=>dK env x λd=>AZ env r λds=>K<|d::ds
def atK:List D->Nat->(D->Prop)->Prop
 |[],_,_=>False
 |c::_,0,K=>K c
 |_::r,n+1,K=>atK r n K
def uH:List D->Nat->(List D->Prop)->Prop
 |_,0,K=>K []
 |[],_+1,_=>False
 |c::r,n+1,K=>uH r n λcs=>K<|c::cs
def rU:List D->Nat->(List D->Prop)->Prop
 |cs,0,K=>K cs
 |[],_+1,_=>False
 |_::r,n+1,K=>rU r n K
def wj:D->Bool
 | .agg _|.aI _|.dW=>false
 | .sc (.agg _)|.sc (.tuple _)=>false
 |_=>true
def Dq:List D->Bool
 |[]=>true
 |c::r=>match wj c with|true=>Dq r|false=>false
def Cg(d:D)(K:List D->Prop):Prop :=
 match d with
 | .agg cs=>match Dq cs with|true=>K cs|false=>False
 |d=>match wj d with|true=>K [d]|false=>False
def rL:List D->Nat->List D->(List D->Prop)->Prop
 |r,0,[],K=>K r
 |_::r,0,c::cs,K=>rL r 0 cs λr'=>K<|c::r'
 |[],0,_::_,_=>False
 |[],_+1,_,_=>False
 |x::r,n+1,cs,K=>rL r n cs λr'=>K<|x::r'
def pN:List ao->Nat->ao->(List ao->Prop)->Prop
 |[],_,_,_=>False
 |_::r,0,o,K=>K<|o::r
 |x::r,n+1,o,K=>pN r n o λr'=>K<|x::r'
def tU:List ao->ao->(List ao->Nat->Prop)->Prop
 |[],o,K=>K [o] 0
 |x::r,o,K=>tU r o λr' n=>K (x::r')<|n+1
def ky:List ao->Nat->(ao->Prop)->Prop
 |[],_,_=>False
 |o::_,0,K=>K o
 |_::r,n+1,K=>ky r n K
def ifK(c:Bool)(A B:Prop):Prop:=match c with
 |true=>A
 |false=>B
theorem ub{c:Bool}{A B:Prop}(h:c->A)(k:c=false->B):ifK c A B:=by
 cases c
 ·exact k rfl
 exact h rfl
def py(a b:Nat)(A:Prop):Prop:=match Nat.beq a b with
 |true=>A
 |false=>False
abbrev pQ:=D->List ao->List Nat->List Nat->Prop
def dQ(k:IntKind)(z:Int):Prop:=k.wrap z=z
def yU(k:IntKind)(z:Int)(K:D->Prop):Prop:=(dQ k z/\K (.sc (.int k z)))\/∀u,u=k.wrap z->K (.sc (.int k u))
def jv(op:BinOp)(k:IntKind)(x y:Int):Int :=
 let a:=BitVec.ofInt k.bits x
 let b:=BitVec.ofInt k.bits y
 match op with
 | .and=>k.wrap (a &&& b).toNat
 | .or=>k.wrap (a ||| b).toNat
 | .xor=>k.wrap (a ^^^ b).toNat
 |_=>k.wrap (a &&& ~~~b).toNat
def DR:IntKind->Nat
 | .i8=>0|.i16=>1|.i32=>2|.i64=>3|.u8=>4|.u16=>5|.u32=>6|.u64=>7
def LK(op:BinOp)(x y:D)(K:D->Prop):Prop :=
 match x,y with
 | .sc (.int k a),.sc (.int k' b) =>
  match op with
  | .shl=>0<=b/\yU k (a*2^min b.toNat k.bits) K
  | .shr=>0<=b/\K (.sc (.int k<|a.fdiv<|2^min b.toNat k.bits))
  |op=>match Nat.beq (DR k) (DR k') with
   |false=>False
   |true =>
    match op with
    | .add=>yU k (a+b) K
    | .sub=>yU k (a-b) K
    | .mul=>yU k (a*b) K
    | .quo=>b≠0/\yU k (a.tdiv b) K
    | .rem=>b≠0/\K (.sc (.int k<|a.tmod b))
    | .eql=>K (.sc (.bool<|a==b))
    | .neq=>K (.sc (.bool<|a != b))
    | .lss=>K (.sc (.bool<|decide (a<b)))
    | .leq=>K (.sc (.bool<|decide (a<=b)))
    | .gtr=>K (.sc (.bool<|decide (a>b)))
    | .geq=>K (.sc (.bool<|decide (a>=b)))
    | .and=>K (.sc (.int k<|jv .and k a b))
    | .or=>K (.sc (.int k<|jv .or k a b))
    | .xor=>K (.sc (.int k<|jv .xor k a b))
    | .andNot=>K (.sc (.int k<|jv .andNot k a b))
    |_=>False
 | .sc (.string a),.sc (.string b) =>
  match op with
  | .add=>(((a.size+b.size:Nat):Int)<=9223372036854775807)/\K (.sc (.string<|a++b))
  | .eql=>K (.sc (.bool<|a.toList==b.toList))
  | .neq=>K (.sc (.bool<|!(a.toList==b.toList)))
  | .lss=>K (.sc (.bool<|Op.bytesLess a.toList b.toList))
  | .leq=>K (.sc (.bool<|Op.bytesLess a.toList b.toList||a.toList==b.toList))
  | .gtr=>K (.sc (.bool<|!(Op.bytesLess a.toList b.toList||a.toList==b.toList)))
  | .geq=>K (.sc (.bool<|!Op.bytesLess a.toList b.toList))
  |_=>False
 |_,_=>False
def eqbK(neq:Bool)(x y:D)(K:D->Prop):Prop :=
 match x,y with
 | .sc (.bool a),.sc (.bool b)=>match neq with
  |false=>K (.sc (.bool<|a==b))
  |true=>K (.sc (.bool<|!(a==b)))
 |_,_=>False
def tQ(neq b:Bool):Bool:=match neq with
 |true=>!b
 |false=>b
def Kp(c:Nat)(x y:D)(K:Bool->Prop):Prop :=
 match c,x,y with
 |0,.sc (.int k a),.sc (.int k' b)=>py (DR k) (DR k')<|K<|a==b
 |1,.sc (.bool a),.sc (.bool b)=>K<|a==b
 |2,.sc (.string a),.sc (.string b)=>K<|a.toList==b.toList
 |_,_,_=>False
def yD:List Nat->List D->List D->(Bool->Prop)->Prop
 |[],[],[],K=>K true
 |c::cs,x::xs,y::ys,K=>Kp c x y λr=>yD cs xs ys λq=>K<|r&&q
 |_,_,_,_=>False
def N6(neq:Bool)(ks:List Nat)(x y:D)(K:D->Prop):Prop :=
 match x,y with
 | .agg xs,.agg ys=>yD ks xs ys λb=>K (.sc (.bool<|tQ neq b))
 |_,_=>False
def D1(seq:Bool)(kind:Nat)(neq:Bool)(x:D)(K:D->Prop):Prop :=
 match kind with
 |0=>match x with
  | .sc (.pointer none)=>K (.sc (.bool<|!neq))
  | .loc ..|.aB ..|.elt ..=>K (.sc (.bool neq))
  |_=>False
 |1=>match x with
  | .sc .nilIface=>K (.sc (.bool<|!neq))
  | .ifc ..=>K (.sc (.bool neq))
  |_=>False
 |2=>match x with
  | .sc .nilFunc=>K (.sc (.bool<|!neq))
  | .fn ..=>K (.sc (.bool neq))
  |_=>False
 |3=>match x with
  | .sc (.slice none 0 0)=>K (.sc (.bool<|!neq))
  | .aM _ xs=>seq=true/\∀b:Bool,(b=true->xs=[])->K (.sc (.bool<|tQ neq b))
  |_=>False
 |_=>False
def unK(op:UnOp)(x:D)(K:D->Prop):Prop :=
 match op,x with
 | .not,.sc (.bool b)=>K (.sc (.bool<|!b))
 | .neg,.sc (.int k n)=>yU k (0-n) K
 |_,_=>False
def uh(env:Env)(x:Option a8)(dflt:Nat)(K:Nat->Prop):Prop :=
 match x with
 |none=>K dflt
 |some x=>dK env x λd=>match d with
  | .sc (.int _ i)=>0<=i/\K i.toNat
  |_=>False
def Ik(env:Env):List (Nat×Nat×a8)->List D->(List D->Prop)->Prop
 |[],cs,K=>K cs
 |(off,n,x)::r,cs,K=>dK env x λd=>Cg d λxs=>py n xs.length<|rL cs off xs λgH=>Ik env r gH K
def GM(env:Env)(ak:Nat):List a8->(List (List D)->Prop)->Prop
 |[],K=>K []
 |x::r,K=>dK env x λd=>Cg d λxs=>py ak xs.length<|GM env ak r λrows=>K<|xs::rows
def Az (P : Program) (f : FuncId) : Prop := ∃ fn, P.funcs[f]? = some fn ∧ (fn.name == "runtime.NumGoroutine") = false ∧ fn.body.isNone = false
structure cp(P:bI)(f:FuncId)(args:List D)(H:List ao)(d:D)(H2:List ao):Prop where
 ok:Az P f
 len:H.length<=H2.length
 run:∀(J:bf) (F:Nat->Prop) (w:ba) (vs:List aP),cH J F w (λi=>H[i]?)->(∀id,J id≠none->id<H.length)->bB J F w args vs ->
  Calls P f vs.toArray w λe w'=>∃v J' F',e=.returned v/\cH J' F' w' (λi=>H2[i]?)/\(∀id,J' id≠none->id<H2.length)/\rep J' F' w' d v/\Ext J F w J' F' w'
structure pJ(P:bI)(f:FuncId)(args:List D)(H:List ao)(d:D)(H2:List ao)(L:List Nat):Prop where
 ok:Az P f
 len:H.length<=H2.length
 frame:∀id,id ∉ L->H2[id]? = H[id]?
 lt:∀id∈L,id<H2.length
 run:∀(J:bf) (F:Nat->Prop) (w:ba) (vs:List aP) (G:Nat->Option ao),cH J F w G->(∀id∈L,G id=H[id]?)->(∀id∈L,H.length<=id->J id=none)->bB J F w args vs ->
  Calls P f vs.toArray w λe w'=>∃v J' F',e=.returned v/\cH J' F' w' (λid=>if id∈L then H2[id]? else G id)/\(∀id,J' id≠none->J id≠none\/id∈L)/\rep J' F' w' d v/\Ext J F w J' F' w'
structure Br(P:bI)(f:FuncId)(args:List D)(H:List ao)(d:D)(L:List Nat):Prop where
 ok:Az P f
 run:∀(J:bf) (F:Nat->Prop) (w:ba) (vs:List aP) (G:Nat->Option ao),cH J F w G->(∀id∈L,G id=H[id]?)->bB J F w args vs ->
  Calls P f vs.toArray w λe w'=>∃v J' F',e=.returned v/\cH J' F' w' G/\(∀id,J' id≠none->J id≠none)/\rep J' F' w' d v/\Ext J F w J' F' w'
def jP:bf:=λ_=>none
structure ar(P:bI)(f:FuncId)(args:List D)(d:D):Prop where
 ok:Az P f
 run:∀(J:bf) (F:Nat->Prop) (w:ba) (vs:List aP),FOK F w->bB J F w args vs ->
  Calls P f vs.toArray w λe w'=>∃v F',e=.returned v/\(∀b,F' b->b<w'.heap.size)/\rep jP F' w' d v/\Ext jP F w jP F' w'
mutual
inductive Deep(H:List ao):D->D->Prop
 |refl (d:D):Deep H d d
 |dW (d:D):Deep H d .dW
 |none (ak:Nat):Deep H (.sc (.slice none 0 0)) (.aM ak [])
 |loc (id off:Nat) (m:Bool) (cs ds:List D) (h:H[id]? = some (.row m cs)) (k:jg H (cs.drop off) ds):Deep H (.loc id off) (.aB ds)
 |own (id aw lo hi ak:Nat) (m:Bool) (xs ys:List (List D)) (h:H[id]? = some (.vec m aw ak xs)) (k:n4 H ((xs.take hi).drop lo) ys):Deep H (.own id aw lo hi) (.aM ak ys)
 |fn (f:Fn) (a b c e:List D) (h:jg H a b) (k:jg H c e):Deep H (.fn f a c) (.fn f b e)
 |ifc (t:bl) (d e:D) (h:Deep H d e):Deep H (.ifc t d) (.ifc t e)
 |agg (a b:List D) (h:jg H a b):Deep H (.agg a) (.agg b)
 |aI (a b:List D) (h:jg H a b):Deep H (.aI a) (.aI b)
inductive jg(H:List ao):List D->List D->Prop
 |nil:jg H [] []
 |cons (d e:D) (a b:List D) (h:Deep H d e) (k:jg H a b):jg H (d::a) (e::b)
inductive n4(H:List ao):List (List D)->List (List D)->Prop
 |nil:n4 H [] []
 |cons (x y:List D) (a b:List (List D)) (h:jg H x y) (k:n4 H a b):n4 H (x::a) (y::b)
end
def isScalar:D->Bool
 | .sc _=>true
 |_=>false
def AW:List D->Bool
 |[]=>true
 |d::r=>match isScalar d with|true=>AW r|false=>false
def Gq:D->Bool
 | .sc _=>true
 | .aI ds|.agg ds=>AW ds
 |_=>false
mutual
def aq(m:Nat):D->Prop
 | .dW|.sc _|.gv _=>True
 | .loc id _|.elt id _ _ _|.own id _ _ _|.mp id=>id<m
 | .aB cs|.agg cs|.aI cs=>au m cs
 | .aM _ xs=>bg m xs
 | .fn _ a b=>au m a/\au m b
 | .ifc _ d=>aq m d
def au(m:Nat):List D->Prop
 |[]=>True
 |d::r=>aq m d/\au m r
def bg(m:Nat):List (List D)->Prop
 |[]=>True
 |d::r=>au m d/\bg m r
end
def ao.under(m:Nat):ao->Prop
 | .row _ cs=>au m cs
 | .vec _ _ _ xs=>bg m xs
 | .eU _ _=>True
def fo(m:Nat):List ao->Prop
 |[]=>True
 |o::r=>o.under m/\fo m r
def xQ:Nat->List Nat
 |0=>[]
 |n+1=>n::xQ n
def ao.frozen:ao->ao
 | .row _ cs=>.row false cs
 | .vec _ v e xs=>.vec false v e xs
 | .eU _ I=>.eU false I
def yH:List ao->List ao
 |[]=>[]
 |o::r=>o.frozen::yH r
def Nr(P:bI)(seq:Bool)(f:FuncId)(args:List D)(H:List ao)(K:pQ):Prop :=
 (∃d,ar P f args d/\K d H [] [])\/(∃args' d,jg H args args'/\ar P f args' d/\Gq d/\K d H (List.range H.length) []) \/
  (seq=true/\∃d H2,cp P f args H d H2/\K d H2 [] []) \/
  (∃d H2,au H.length args/\fo H.length H/\cp P f args H d H2/\K d H2 (xQ H2.length) (xQ H2.length)) \/
  (∃d H2 L,pJ P f args H d H2 L/\K d H2 L L) \/
  (seq=true/\∃args' d,jg H args args'/\ar P f args' d/\K d (yH H) [] []) \/
  (∃d L,Br P f args H d L/\K d H L [])
def je(k:Nat)(bytes:Nat)(m:Nat):Prop:=(k+m)*bytes<=140737488355328
def Io(H:List ao)(ak:Nat)(dy:D)(K:List (List D)->List Nat->Prop):Prop :=
 match dy with
 | .aM lU ys=>py ak lU<|K ys []
 | .own id aw lo hi=>ky H id λo=>match o with
  | .vec _ cf lU zs=>aw=cf/\py ak lU (K ((zs.take hi).drop lo) [id])
  |_=>False
 | .sc (.slice none 0 0)=>K [] []
 |_=>False
def lK(P:bI)(kt:bl)(f:aP->Option aP):Array MapEntry->Prop:=λes =>
 (∀e∈es.toList,∃l,keyOf P kt e.key=some l)/\(∀e∈es.toList,f e.key=some e.val)/\∀key v,f key=some v->∃e∈es.toList,e.key=key
noncomputable def pO(f:aP->Option aP)(key v:aP):aP->Option aP:=λk=>open Classical in if k=key then some v else f k
def scV:D->aP
 | .sc v=>v
 |_=>undef
def Ft(d:D)(K:aP->Prop):Prop:=match d with
 | .sc v=>K v
 | .agg cs=>AW cs=true/\K (.agg (cs.map scV).toArray)
 |_=>False
def step(P:bI)(seq:Bool)(p:POp)(env:Env)(H:List ao)(K:pQ):Prop :=
 match p with
 | .move x=>dK env x λd=>K d H [] []
 | .pick c a b=>dK env c λdc=>match dc with
  | .sc (.bool t)=>ifK t (dK env a λd=>K d H [] [])<|dK env b λd=>K d H [] []
  |_=>False
 | .alloc z=>scK z λcs=>tU H (.row true cs) λH' id=>K (.loc id 0) H' [] [id]
 | .box x=>dK env x λd=>Cg d λcs=>tU H (.row true cs) λH' id=>K (.loc id 0) H' [] [id]
 | .build z parts=>scK z λzs=>Ik env parts zs λcs=>K (.agg cs) H [] []
 | .oP ak n parts=>GM env ak parts λrows=>py n rows.length<|tU H (.vec true 0 ak rows) λH' id=>K (.own id 0 0 n) H' [] [id]
 | .cg a=>dK env a λd=>match d with
  | .loc id off=>ky H id λo=>match o with
   | .row _ cs=>atK cs off λc=>K c H [id] []
   |_=>False
  | .aB cs=>atK cs 0 λc=>K c H [] []
  | .elt id aw i off=>ky H id λo=>match o with
   | .vec _ cf _ xs=>aw=cf/\∃row,xs[i]? = some row/\atK row off λc=>K c H [id] []
   |_=>False
  |_=>False
 | .mF n a=>dK env a λd=>match d with
  | .loc id off=>ky H id λo=>match o with
   | .row _ cs=>rU cs off λr=>uH r n λc=>K (.agg c) H [id] []
   |_=>False
  | .aB cs=>uH cs n λc=>K (.agg c) H [] []
  | .elt id aw i off=>ky H id λo=>match o with
   | .vec _ cf _ xs=>aw=cf/\∃row,xs[i]? = some row/\rU row off λr=>uH r n λc=>K (.agg c) H [id] []
   |_=>False
  |_=>False
 | .store n a x=>dK env a λd=>dK env x λdx=>Cg dx λxs=>py n xs.length (match d with
  | .loc id off=>ky H id λo=>match o with
   | .row true cs=>rL cs off xs λgH=>pN H id (.row true gH) λH'=>K (.sc undef) H' [] [id]
   |_=>False
  | .elt id aw i off=>ky H id λo=>match o with
   | .vec true cf ak ys=>aw=cf/\∃row,ys[i]? = some row/\rL row off xs λzz4=>pN H id (.vec true cf ak<|ys.set i zz4) λH'=>K (.sc undef) H' [] [id]
   |_=>False
  |_=>False)
 | .jR x=>dK env x λd=>match d with
  | .loc ..|.aB ..|.elt ..|.fn (.func _) ..=>K d H [] []
  |_=>False
 | .bin op x y=>dK env x λdx=>dK env y λdy=>LK op dx dy λd=>K d H [] []
 | .eqb neq x y=>dK env x λdx=>dK env y λdy=>eqbK neq dx dy λd=>K d H [] []
 | .eqa neq ks x y=>dK env x λdx=>dK env y λdy=>N6 neq ks dx dy λd=>K d H [] []
 | .EH kind neq x=>dK env x λdx=>D1 seq kind neq dx λd=>K d H [] []
 | .un op x=>dK env x λdx=>unK op dx λd=>K d H [] []
 | .ext i x=>dK env x λd=>match d with
  | .aI cs=>atK cs i λc=>K c H [] []
  |_=>False
 | .dO off x=>dK env x λd=>match d with
  | .loc id o=>K (.loc id<|o+off) H [] []
  | .elt id aw i o=>K (.elt id aw i<|o+off) H [] []
  | .aB cs=>rU cs off λr=>K (.aB r) H [] []
  |_=>False
 | .field off n agg x=>dK env x λd=>match d with
  | .agg cs=>match agg with
   |true=>rU cs off λr=>uH r n λc=>K (.agg c) H [] []
   |false=>atK cs off λc=>K c H [] []
  |_=>False
 | .gZ ak x i=>dK env x λdx=>dK env i λdi=>match di with
  | .sc (.int _ z)=>match dx with
   | .aM lU xs=>py ak lU (0<=z/\∃row,xs[z.toNat]? = some row/\K (.aB row) H [] [])
   | .own id aw lo hi=>ky H id λo=>match o with
    | .vec _ cf lU _=>aw=cf/\py ak lU (0<=z/\z<(hi-lo:Nat)/\K (.elt id aw (lo+z.toNat) 0) H [id] [])
    |_=>False
   |_=>False
  |_=>False
 | .OF len ak x i=>dK env x λdx=>dK env i λdi=>match di with
  | .sc (.int _ z)=>0<=z/\z<(len:Nat)/\match dx with
   | .loc id o=>K (.loc id<|o+z.toNat * ak) H [] []
   | .elt id aw i o=>K (.elt id aw i<|o+z.toNat * ak) H [] []
   | .aB cs=>rU cs (z.toNat * ak) λr=>K (.aB r) H [] []
   |_=>False
  |_=>False
 | .Cf len ak agg x i=>dK env x λdx=>dK env i λdi=>match di with
  | .sc (.int _ z)=>match dx with
   | .agg cs=>0<=z/\z<(len:Nat)/\match agg with
    |true=>rU cs (z.toNat * ak) λr=>uH r ak λc=>K (.agg c) H [] []
    |false=>∃c,cs[z.toNat * ak]? = some c/\K c H [] []
   |_=>False
  |_=>False
 | .Ai x i=>dK env x λdx=>dK env i λdi=>match dx,di with
  | .sc (.string s),.sc (.int _ z)=>0<=z/\∃b,s[z.toNat]? = some b/\K (.sc (.int .u8 b.toNat)) H [] []
  |_,_=>False
 | .jD f first cap=>AZ env first λds=>AZ env cap λcs=>K (.fn f ds cs) H [] []
 | .sM ak bytes z l c=>dK env l λdl=>dK env c λdc=>match dl,dc with
  | .sc (.int .i64 nl),.sc (.int .i64 nc)=>0<=nl/\nl<=nc/\nc*bytes<=140737488355328 /\
   tU H (.vec true 0 ak<|List.replicate nl.toNat<|z.map .sc) λH' id=>K (.own id 0 0 nl.toNat) H' [] [id]
  |_,_=>False
 | .slc ak x lo hi mx=>dK env x λdx=>match dx,mx with
  | .aM lU xs,none=>py ak lU<|uh env hi xs.length λh=>uh env lo 0 λl=>l<=h/\h<=xs.length/\K (.aM lU<|(xs.take h).drop l) H [] []
  | .aM lU xs,some m=>match hi with
   |none=>False
   |some aW=>py ak lU<|uh env (some aW) 0 λh=>uh env lo 0 λl=>uh env (some m) 0 λmm=>l<=h/\h<=mm/\mm<=xs.length/\K (.aM lU<|(xs.take h).drop l) H [] []
  | .own id aw a b,none=>ky H id λo=>match o with
   | .vec _ cf lU _=>aw=cf/\py ak lU (uh env hi (b-a) λh=>uh env lo 0 λl=>l<=h/\h<=b-a/\K (.own id aw (a+l)<|a+h) H [id] [])
   |_=>False
  |_,_=>False
 | .Kq x lo hi=>dK env x λdx=>match dx with
  | .sc (.string s)=>uh env hi s.size λh=>uh env lo 0 λl=>l<=h/\h<=s.size/\K (.sc (.string<|s.extract l h)) H [] []
  |_=>False
 | .len x=>dK env x λdx=>match dx with
  | .aM _ xs=>K (.sc (.int .i64 xs.length)) H [] []
  | .own id aw lo hi=>ky H id λo=>match o with
   | .vec _ cf _ _=>aw=cf/\K (.sc (.int .i64 (hi-lo:Nat))) H [id] []
   |_=>False
  | .sc (.slice none 0 0)=>K (.sc (.int .i64 0)) H [] []
  |_=>False
 | .zF x=>dK env x λdx=>match dx with
  | .sc (.string s)=>K (.sc (.int .i64 s.size)) H [] []
  |_=>False
 | .append ak bytes x y=>dK env x λdx=>dK env y λdy=>Io H ak dy λys rd =>
  match dx with
   | .sc (.slice none 0 0)=>je 0 bytes ys.length/\tU H (.vec true 0 ak ys) λH' id=>K (.own id 0 0 ys.length) H' rd [id]
   | .own id aw lo hi=>ky H id λo=>match o with
    | .vec true cf lU zs=>aw=cf/\py ak lU (je (hi-lo) bytes ys.length /\
     pN H id (.vec true (aw+1) ak<|(zs.take hi).drop lo++ys) λH'=>K (.own id (aw+1) 0<|hi-lo+ys.length) H' rd [id])
    |_=>False
   |_=>False
 | .clr u x=>dK env x λdx=>match dx with
  | .own id aw lo hi=>ky H id λo=>match o with
   | .vec true cf ak zs=>aw=cf/\py ak 1 (pN H id (.vec true aw 1<|zs.take lo++List.replicate (hi-lo) [.sc u]++zs.drop hi) λH'=>K (.aI []) H' [] [id])
   |_=>False
  |_=>False
 | .mx big x y=>dK env x λdx=>dK env y λdy=>match dx with
  | .sc (.int k n)=>match dy with
   | .sc (.int _ m)=>match big with
    |true=>K (.sc (.int k<|max n m)) H [] []
    |false=>K (.sc (.int k<|min n m)) H [] []
   |_=>False
  |_=>False
 | .call f args=>AZ env args λds=>Nr P seq f ds H K
 | .dN x args=>dK env x λdx=>match dx with
  | .fn (.func f) first cap=>AZ env args λds=>Nr P seq f (first++ds++cap) H K
  |_=>False
 | .Nf t x=>dK env x λd=>K (.ifc t d) H [] []
 | .conv k x=>dK env x λd=>match d with
  | .sc (.int _ n)=>yU k n λd=>K d H [] []
  |_=>False
 | .Kh x=>dK env x λdx=>Io H 1 dx λys rd=>∃ns:ah,ys=(ns.map λn=>[.sc (.int .u8 n)])/\K (.sc (.string<|ns.foldl (λr n=>r.push<|UInt8.ofNat n.toNat) ByteArray.empty)) H rd []
 | .FH kt=>tU H (.eU true<|lK P kt λ_=>none) λH' id=>K (.mp id) H' [] [id]
 | .look kt z m x=>dK env m λdm=>dK env x λdx=>match dm with
  | .mp id=>ky H id λo=>match o with
   | .eU _ I=>Ft dx λkey=>∃f,I=lK P kt f/\Maps.Keyed P kt/\(∃l,keyOf P kt key=some l)/\(∀v,f key=some v->K (.aI [.sc v,.sc (.bool true)]) H [id] [])/\(f key=none->K (.aI [.sc z,.sc (.bool false)]) H [id] [])
   |_=>False
  |_=>False
 | .Mr kt m x=>dK env m λdm=>dK env x λdx=>match dm with
  | .mp id=>ky H id λo=>match o with
   | .eU _ I=>Ft dx λkey=>∃f,I=lK P kt f/\Maps.Keyed P kt/\(∃l,keyOf P kt key=some l)/\∃v,f key=some v/\K (.sc v) H [id] []
   |_=>False
  |_=>False
 | .OD kt m x v=>dK env m λdm=>dK env x λdx=>dK env v λdv=>match dm with
  | .mp id=>ky H id λo=>match o with
   | .eU true I=>Ft dx λkey=>match dv with
    | .sc u=>∃f,I=lK P kt f/\Maps.Keyed P kt/\(∃l,keyOf P kt key=some l)/\f key=none/\pN H id (.eU true<|lK P kt<|pO f key u) λH'=>K (.sc undef) H' [] [id]
    |_=>False
   |_=>False
  |_=>False
def mE(P:bI):List cV->Env->List ao->(Env->List ao->Prop)->Prop
 |[],env,H,K=>K env H
 |o::r,env,H,K =>
  match o.guard with
  |none=>step P true o.op env H λd H' _ _=>match o.dst with
   |some t=>mE P r ((t,d)::env) H' K
   |none=>mE P r env H' K
  |some (t,b)=>tN t (λg=>match g with
   | .sc (.bool c)=>match b with
    |true=>ifK c
     (step P true o.op env H λd H' _ _=>match o.dst with
      |some u=>mE P r ((u,d)::env) H' K
      |none=>mE P r env H' K)
     (match o.dst with
      |some u=>mE P r ((u,.sc undef)::env) H K
      |none=>mE P r env H K)
    |false=>ifK c
     (match o.dst with
      |some u=>mE P r ((u,.sc undef)::env) H K
      |none=>mE P r env H K)
     (step P true o.op env H λd H' _ _=>match o.dst with
      |some u=>mE P r ((u,d)::env) H' K
      |none=>mE P r env H' K)
   | .sc (.tuple _)=>match o.dst with
    |some u=>mE P r ((u,.sc undef)::env) H K
    |none=>mE P r env H K
   |_=>False) env
def Ac(p:POp)(env:Env):Option<|Nat×Nat:=match p with
 | .cg a=>match fU env a with
  | .loc id k=>some (id,k)
  |_=>none
 |_=>none
abbrev Trace:=List<|(List Nat×List Nat)×(Option (Nat×Nat)×D×List ao)
def nO(P:bI):List cV->Env->List ao->(Env->List ao->Trace->Prop)->Prop
 |[],env,H,K=>K env H []
 |o::r,env,H,K =>
  match o.guard with
  |none=>step P false o.op env H λd H' rd wr=>match o.dst with
   |some t=>nO P r ((t,d)::env) H' λe h tr=>K e h<|((rd,wr),(Ac o.op env,d,H'))::tr
   |none=>nO P r env H' λe h tr=>K e h<|((rd,wr),(Ac o.op env,d,H'))::tr
  |some (t,b)=>tN t (λg=>match g with
   | .sc (.bool c)=>match b with
    |true=>ifK c
     (step P false o.op env H λd H' rd wr=>match o.dst with
      |some u=>nO P r ((u,d)::env) H' λe h tr=>K e h<|((rd,wr),(none,d,H'))::tr
      |none=>nO P r env H' λe h tr=>K e h<|((rd,wr),(none,d,H'))::tr)
     (match o.dst with
      |some u=>nO P r ((u,.sc undef)::env) H λe h tr=>K e h<|(([],[]),(none,.sc undef,H))::tr
      |none=>nO P r env H λe h tr=>K e h<|(([],[]),(none,.sc undef,H))::tr)
    |false=>ifK c
     (match o.dst with
      |some u=>nO P r ((u,.sc undef)::env) H λe h tr=>K e h<|(([],[]),(none,.sc undef,H))::tr
      |none=>nO P r env H λe h tr=>K e h<|(([],[]),(none,.sc undef,H))::tr)
     (step P false o.op env H λd H' rd wr=>match o.dst with
      |some u=>nO P r ((u,d)::env) H' λe h tr=>K e h<|((rd,wr),(none,d,H'))::tr
      |none=>nO P r env H' λe h tr=>K e h<|((rd,wr),(none,d,H'))::tr)
   | .sc (.tuple _)=>match o.dst with
    |some u=>nO P r ((u,.sc undef)::env) H λe h tr=>K e h<|(([],[]),(none,.sc undef,H))::tr
    |none=>nO P r env H λe h tr=>K e h<|(([],[]),(none,.sc undef,H))::tr
   |_=>False) env
def rD(x:Nat):List Nat->Bool
 |[]=>false
 |y::r=>match Nat.beq x y with|true=>true|false=>rD x r
def meets:List Nat->List Nat->Bool
 |[],_=>false
 |x::r,l=>match rD x l with|true=>true|false=>meets r l
def u6(a b:List Nat×List Nat):Bool:=meets a.2 b.1||meets a.2 b.2||meets b.2 a.1
def vz(m i:Nat):Bool:=match Nat.beq ((m/2^i)%2) 1 with|true=>true|false=>false
def B7(m:Nat)(b:List Nat×List Nat):Nat->List (List Nat×List Nat)->Bool
 |_,[]=>true
 |i,a::r=>match (vz m i||!u6 a b) with|true=>B7 m b (i+1) r|false=>false
def DA(pre:List<|List Nat×List Nat):List cV->Trace->Bool
 |o::r,(b,_)::tr=>match B7 o.mask b 0 pre with|true=>DA (pre++[b]) r tr|false=>false
 |_,_=>true
def DL(pre:List<|List Nat×List Nat):List cV->Trace->Bool
 |o::r,(b,(q,_))::tr=>match B7 o.mask b 0 pre with
  |true=>match q with
   |some _=>DL (pre++[([],b.2)]) r tr
   |none=>DL (pre++[b]) r tr
  |false=>false
 |_,_=>true
def QD(H:List ao)(id k:Nat)(d:D)(K:Prop):Prop:=ky H id λo=>match o with
 | .row _ cs=>atK cs k λc=>c=d/\K
 |_=>False
def Fg(m:Nat)(wr:List Nat)(H:List ao)(K:Prop):List (Nat×(Nat×Nat)×D)->Prop
 |[]=>K
 |(i,(id,k),d)::r=>match (vz m i||!rD id wr) with
  |true=>Fg m wr H K r
  |false=>QD H id k d<|Fg m wr H K r
def Dd(K:Prop):Nat->List (Nat×(Nat×Nat)×D)->List cV->Trace->Prop
 |i,ws,o::r,(b,(q,d,H))::tr=>Fg o.mask b.2 H (match q with
  |some l=>Dd K (i+1) (ws++[(i,l,d)]) r tr
  |none=>Dd K (i+1) ws r tr) ws
 |_,_,_,_=>K
def Hx(P:bI)(l:List cV)(env:Env)(H:List ao)(K:Env->List ao->Prop):Prop:=nO P l env H λe h tr=>match DA [] l tr with
 |true=>K e h
 |false=>match DL [] l tr with
  |true=>Dd (K e h) 0 [] l tr
  |false=>False
def zyI(P:bI)(t:bl):Bool:=match P.underlying t with|some (.int _)=>true|_=>false
def zy5(P:bI)(t:bl):Bool:=match P.underlying t with|some .string=>true|_=>false
def IJ(P:bI)(t:bl):Bool:=match P.underlying t with|some .bool=>true|_=>false
def An(P:bI)(t:bl)(y:a8):Option Nat :=
 match P.underlying t,y with
 |some (.pointer _),.const (.pointer none)=>some 0
 |some (.interface _),.const .nilIface=>some 1
 |some (.func _ _ _),.const .nilFunc=>some 2
 |some (.slice _),.const (.slice none 0 0)=>some 3
 |_,_=>none
def yK(P:bI)(t:bl):Option Nat:=match P.underlying t with
 |some (.int _)=>some 0
 |some .bool=>some 1
 |some .string=>some 2
 |_=>none
def FU(P:bI):Nat->List Field->Option (List Nat)
 |_,[]=>some []
 | i, f :: r => if f.name ≠ "_" ∧ f.offset = i then match yK P f.type, FU P (i + 1) r with
  |some c,some cs=>some<|c::cs
  |_,_=>none
  else none
def GH(P:bI)(t:bl):Option<|List Nat:=match P.underlying t with
 |some (.struct fs)=>if P.stoodInHeld t=false/\P.eqGuardType P.depth t=false then FU P 0 fs.toList else none
 |some (.array n e)=>if P.eqGuardType P.depth t=false/\P.cellsOf e=1/\(P.info? e).isSome=true then (yK P e).map (List.replicate n ·) else none
 |_=>none
def ya(place:Nat->Option (Nat×Nat)):List (Nat×a8)->Option (List<|Nat×Nat×a8)
 |[]=>some []
 |(i,x)::r=>match place i,ya place r with
  |some (off,n),some l=>some<|(off,n,x)::l
  |_,_=>none
def xN:Nat->List (Nat×a8)->Option (List a8)
 |_,[]=>some []
 |k,(i,x)::r=>if i=k then (xN (k+1) r).map (x::·) else none
def lg(z:aP):Nat->Nat->List (Nat×a8)->Option (List a8)
 |_,0,[]=>some []
 |_,0,_::_=>none
 |k,m+1,[]=>(lg z (k+1) m []).map (.const z::·)
 |k,m+1,(i,x)::r=>if i=k then (lg z (k+1) m r).map (x::·) else (lg z (k+1) m<|(i,x)::r).map (.const z::·)
def pC(P:bI)(t:bl):Option Bool:=match P.underlying t with
 |some (.struct _)|some (.array _ _)=>some true
 |some _=>some false
 |none=>none
def cop(P:bI)(o:Oper):Option POp :=
 match o.op with
 | .move x|.assign x=>some (.move x)
 | .pick c a b=>some (.pick c a b)
 | .alloc t=>match (P.info? t).bind (·.zero) with
  |some z=>if z.cells.toList.all gE then some (.alloc z.cells.toList) else none
  |none=>none
 | .box _ x=>some (.box x)
 | .build t parts=>match (P.info? t).bind (·.zero),P.underlying t with
  |some z,some (.struct fs)=>match fs.toList.mapM (λf=>(P.info? f.type).map λi=>(f.offset,i.size)) with
   |some places=>(ya (places.toArray[·]?) parts.toList).map (.build z.cells.toList)
   |none=>none
  |some z,some (.array _ e)=>match P.info? e with
   |some ie=>(ya (λi=>some (i*ie.size,ie.size)) parts.toList).map (.build z.cells.toList)
   |none=>none
  |_,_=>none
 | .buildSlice t n parts=>match P.underlying t with
  |some (.slice e)=>match (P.info? e).bind (·.zero) with
   |some z=>if n*P.cellsOf e<=16777216/\0<P.cellsOf e then match xN 0 parts.toList with
    |some xs=>some (.oP (P.cellsOf e) n xs)
    |none=>(lg z 0 n parts.toList).map (.oP (P.cellsOf e) n)
    else none
   |none=>none
  |_=>none
 | .load t a=>match pC P t with
  |some true=>some (.mF (P.cellsOf t) a)
  |some false=>some (.cg a)
  |none=>none
 | .store t a v=>if P.cellsOf t=0 then none else some (.store (P.cellsOf t) a v)
 | .nilCheck x=>some (.jR x)
 | .binOp op t x y _ =>
  if zyI P t||zy5 P t then some (.bin op x y)
  else match op with
   | .eql=>if IJ P t then some (.eqb false x y) else match GH P t with
    |some ks=>some (.eqa false ks x y)
    |none=>(An P t y).map (.EH · false x)
   | .neq=>if IJ P t then some (.eqb true x y) else match GH P t with
    |some ks=>some (.eqa true ks x y)
    |none=>(An P t y).map (.EH · true x)
   |_=>none
 | .unOp op _ x=>some (.un op x)
 | .extract x i=>some (.ext i x)
 | .fieldAddr s x f=>match P.underlying s with
  |some (.struct fs)=>match fs[f]? with
   |some fd=>if P.cellsOf fd.type=0 then none else some (.dO fd.offset x)
   |none=>none
  |_=>none
 | .field s x f=>match P.underlying s with
  |some (.struct fs)=>match fs[f]? with
   |some fd=>match pC P fd.type with
    |some ag=>some (.field fd.offset (P.cellsOf fd.type) ag x)
    |none=>none
   |none=>none
  |_=>none
 | .indexAddr t x i=>match P.underlying t with
  |some (.slice e)=>if P.cellsOf e=0 then none else some (.gZ (P.cellsOf e) x i)
  |some (.array n e)=>if P.cellsOf e=0 then none else some (.OF n (P.cellsOf e) x i)
  |_=>none
 | .index t x i=>match P.underlying t with
  |some .string=>some (.Ai x i)
  |some (.array n e)=>match pC P e with
   |some ag=>some (.Cf n (P.cellsOf e) ag x i)
   |none=>none
  |_=>none
 | .makeFunc f first cap=>some (.jD f first.toList cap.toList)
 | .makeSlice t l c=>match P.underlying t with
  |some (.slice e)=>match (P.info? e).bind (·.zero) with
   |some z=>if z.cells.size=P.cellsOf e/\0<P.cellsOf e/\0<P.bytesOf e/\z.cells.toList.all gE=true then some (.sM (P.cellsOf e) (P.bytesOf e) z.cells.toList l c) else none
   |none=>none
  |_=>none
 | .slice t x lo hi mx=>match P.underlying t with
  |some (.slice e)=>if 0<P.cellsOf e then some (.slc (P.cellsOf e) x lo hi mx) else none
  |some .string=>match mx with
   |none=>some (.Kq x lo hi)
   |some _=>none
  |_=>none
 | .call { callee:=.builtin .len,args,argTypes }=>match args.toList,argTypes.toList with
  |[x],[t]=>match P.underlying t with
   |some (.slice _)=>some (.len x)
   |some .string=>some (.zF x)
   |_=>none
  |_,_=>none
 | .call { callee:=.builtin .append,args,argTypes }=>match args.toList,argTypes.toList with
  |[x,y],[t,u]=>match P.underlying t,P.underlying u with
   |some (.slice e),some (.slice _)=>match (P.info? e).bind (·.zero) with
    |some z=>if z.cells.size=P.cellsOf e/\0<P.cellsOf e/\0<P.bytesOf e then some (.append (P.cellsOf e) (P.bytesOf e) x y) else none
    |none=>none
   |_,_=>none
  |_,_=>none
 | .call { callee:=.builtin .clear,args,argTypes }=>match args.toList,argTypes.toList with
  |[x],[t]=>match P.underlying t with
   |some (.slice e)=>match (P.info? e).bind (·.zero) with
    |some z=>match z.cells.toList with
     |[u]=>if P.cellsOf e=1/\gE u=true then some (.clr u x) else none
     |_=>none
    |none=>none
   |_=>none
  |_,_=>none
 | .call { callee:=.builtin .max,args,.. }=>match args.toList with
  |[x,y]=>some (.mx true x y)
  |_=>none
 | .call { callee:=.builtin .min,args,.. }=>match args.toList with
  |[x,y]=>some (.mx false x y)
  |_=>none
 | .call { callee:=.value (.func f),args,.. }=>match P.funcs[f]? with
  | some fn => if fn.name == "runtime.NumGoroutine" || fn.body.isNone then none else some (.call f args.toList)
  |none=>none
 | .call { callee:=.value x,args,.. }=>some (.dN x args.toList)
 | .convert src dst x=>match P.underlying src,P.underlying dst with
  |some (.int _),some (.int k)=>some (.conv k x)
  |some (.slice e),some .string=>match P.underlying e with
   |some (.int .u8)=>some (.Kh x)
   |_=>none
  |_,_=>none
 | .makeMap t none=>match P.underlying t with
  |some (.map k _)=>some (.FH k)
  |_=>none
 | .lookup t m x true=>match P.underlying t with
  |some (.map k e)=>match (P.info? e).bind (·.zero) with
   |some z=>if gE z=true then some (.look k z m x) else none
   |none=>none
  |_=>none
 | .lookup t m x false=>match P.underlying t with
  |some (.map k _)=>some (.Mr k m x)
  |_=>none
 | .mapUpdate t m x v=>match P.underlying t with
  |some (.map k _)=>some (.OD k m x v)
  |_=>none
 | .makeInterface t x=>match P.underlying t with
  |some (.interface _)=>none
  |some _=>some (.Nf t x)
  |none=>none
 |_=>none
def Kt(n:Nat)(o:Oper):Bool:=match o.dst with
 |some d=>decide (d<n)
 |none=>true
def n7(o:Oper):List Nat:=(o.after.toList.filter<|Region.binds .any).map (·.on)
def zE(ms:List Nat):List Nat->Nat
 |[]=>0
 |i::r=>2^i ||| ms.getD i 0 ||| zE ms r
def rB:List Nat->List Oper->List Nat
 |acc,[]=>acc
 |acc,o::r=>rB (acc++[zE acc<|n7 o]) r
def IF(ops:Array Oper)(m:Nat)(o:Oper):Nat->List Oper->Bool
 |_,[]=>true
 |i,x::r=>(m.testBit i||x.apart ops o)&&IF ops m o (i+1) r
def Bq(ops:Array Oper)(ms:List Nat):List Oper->List Oper->Bool
 |_,[]=>true
 |pre,o::r=>(n7 o).all (·<pre.length)&&IF ops (ms.getD pre.length 0) o 0 pre&&Bq ops ms (pre++[o]) r
def OK(P:bI)(n:Nat)(ops:Array Oper)(mask:Nat)(o:Oper):Option cV :=
 match Kt n o,cop P o,o.guard with
 |true,some p,none=>some ⟨o.dst,p,none,mask⟩
 |true,some p,some (j,b)=>match (ops[j]?).bind (·.dst) with
  |some t=>some ⟨o.dst,p,some (t,b),mask⟩
  |none=>none
 |_,_,_=>none
def qo(P:bI)(n:Nat)(ops:Array Oper):List Nat->List Oper->Option (List cV)
 |_,[]=>some []
 |ms,o::r=>match OK P n ops (ms.headD 0) o,qo P n ops ms.tail r with
  |some p,some l=>some<|p::l
  |_,_=>none
def Gl(P:bI)(n:Nat)(ops:Array Oper)(draw:Bool):Option (List cV) :=
 match draw with
 |false=>qo P n ops [] ops.toList
 |true=>match P.follows .mixedOrders&&Bq ops (rB [] ops.toList) [] ops.toList with
  |true=>qo P n ops (rB [] ops.toList) ops.toList
  |false=>none
def comp(P:bI)(n:Nat):Code->Option PC
 | .skip=>some .skip
 | .region _ ops draw=>(Gl P n ops draw).map (.ops · draw)
 | .seq a b=>match comp P n a,comp P n b with
  |some x,some y=>some (.seq x y)
  |_,_=>none
 | .cond c a b=>match comp P n a,comp P n b with
  |some x,some y=>some (.cond c x y)
  |_,_=>none
 | .block id c=>(comp P n c).map (.block id)
 | .loop c=>(comp P n c).map .loop
 | .exit id=>some (.exit id)
 | .ret=>some .ret
 |_=>none
structure ju(n:Nat)(J:bf)(F:Nat->Prop)(env:Env)(H:List ao)(a:Act)(w:ba):Prop where
 defers:a.defers=[]
 size:a.tmps.size=n
 tmps:∀t,rep J F w (iA t env)<|a.tmps.getD t undef
 ok:cH J F w λi=>H[i]?
 dom:∀id,J id≠none->id<H.length
abbrev iZ:=Exit->Env->List ao->Prop
@[irreducible] def PWp(P:bI)(n:Nat)(p:PC)(Q:iZ)(env:Env)(H:List ao):Prop :=
 ∀c,comp P n c=some p.bare->∀(J:bf) (F:Nat->Prop) (a:Act) (w:ba),ju n J F env H a w ->
  c.wp P (λe a' w'=>∃env' H' J' F',Q e env' H'/\ju n J' F' env' H' a' w'/\Ext J F w J' F' w') a w
def pw(P:bI)(n:Nat):PC->iZ->Env->List ao->Prop
 | .skip,Q,env,H=>Q .normal env H
 | .ops l d,Q,env,H=>match d with
  |false=>mE P l env H λenv H=>Q .normal env H
  |true=>Hx P l env H λenv H=>Q .normal env H
 | .seq a b,Q,env,H=>pw P n a (λe env H=>match e with
  | .normal=>pw P n b Q env H
  |e=>Q e env H) env H
 | .cond c a b,Q,env,H=>dK env c λd=>match d with
  | .sc (.bool t)=>ifK t (pw P n a Q env H)<|pw P n b Q env H
  |_=>False
 | .block id c,Q,env,H=>pw P n c (λe env H=>match e with
  | .exit jn=>match Nat.beq jn id with
   |true=>Q .normal env H
   |false=>Q (.exit jn) env H
  |e=>Q e env H) env H
 | .loop c,Q,env,H=>PWp P n (.loop c) Q env H
 | .exit id,Q,env,H=>Q (.exit id) env H
 | .ret,Q,env,H=>Q .ret env H
 | .stop c,Q,env,H=>PWp P n c Q env H
def St.le(n:Nat)(env:Env)(H:List ao)(env':Env)(H':List ao):Prop:=∀J F a w,ju n J F env H a w->∃J' F',ju n J' F' env' H' a w/\Ext J F w J' F' w
def s9(env:Env):Env->Prop
 |[]=>True
 |(t,d)::r=>iA t env=d/\s9 env r
def Zb{ι:Type}(n:Nat)(Q:iZ)(E:ι->Env)(O:ι->List ao)(G:ι->Prop)(m:ι->Nat)(k:Nat):iZ
 | .normal,env,H=>∃j,G j/\m j<k/\St.le n env H (E j) (O j)
 |e,env,H=>Q e env H
inductive RV where
 |tmp (t:Nat)
 |agg (t n:Nat)
 |one (t:Nat)
def crv(P:bI):ResultVar->Option RV
 | .tmp t=>some (.tmp t)
 | .cell t ty=>match pC P ty with
  |some true=>some (.agg t<|P.cellsOf ty)
  |some false=>some (.one t)
  |none=>none
def wO(P:bI):List ResultVar->Option (List RV)
 |[]=>some []
 |r::l=>match crv P r,wO P l with
  |some x,some y=>some<|x::y
  |_,_=>none
structure ud(P:bI)(f:FuncId)(n:Nat)(rs:List RV)(p:PC):Prop where
 out : ∃ fn, P.funcs[f]? = some fn ∧ fn.ntmps = n ∧ (fn.name == "runtime.NumGoroutine") = false ∧ wO P fn.results.toList = some rs ∧ fn.body.bind (comp P n) = some p.bare
def vE(env:Env)(H:List ao):List RV->(List D->Prop)->Prop
 |[],K=>K []
 | .tmp t::r,K=>tN t (λd=>vE env H r λds=>K<|d::ds) env
 | .agg t n::r,K=>tN t (λd=>match d with
  | .loc id off=>ky H id λo=>match o with
   | .row _ cs=>rU cs off λgH=>uH gH n λc=>vE env H r λds=>K (.agg c::ds)
   |_=>False
  |_=>False) env
 | .one t::r,K=>tN t (λd=>match d with
  | .loc id off=>ky H id λo=>match o with
   | .row _ cs=>atK cs off λc=>vE env H r λds=>K<|c::ds
   |_=>False
  |_=>False) env
def Cv(rs:List RV)(R:D->List ao->Prop):iZ
 | .normal,env,H|.ret,env,H=>vE env H rs λds=>match ds with
  |[d]=>R d H
  |ds=>R (.aI ds) H
 |_,_,_=>False
def params:Nat->List D->Env
 |_,[]=>[]
 |k,d::r=>(k,d)::params (k+1) r
mutual
def Pure:D->Prop
 | .dW|.sc _|.gv _=>True
 | .loc ..|.elt ..|.own ..|.mp ..=>False
 | .aB cs|.agg cs|.aI cs=>an cs
 | .aM _ xs=>fc xs
 | .fn _ a b=>an a/\an b
 | .ifc _ d=>Pure d
def an:List D->Prop
 |[]=>True
 |d::r=>Pure d/\an r
def fc:List (List D)->Prop
 |[]=>True
 |d::r=>an d/\fc r
end
section
def upd(G:Nat->Option ao)(wr:List Nat)(H2:List ao):Nat->Option ao:=λid=>if id∈wr then H2[id]? else G id
theorem zN(G:Nat->Option ao)(H2:List ao):upd G [] H2=G:=by funext id;simp[upd]
structure OpS(P:bI)(o:Oper)(env:Env)(rd wr:List Nat)(H:List ao)(d:D)(H2:List ao):Prop where
 frame:∀id,id ∉ wr->H2[id]? = H[id]?
 len:H.length<=H2.length
 lt:∀id∈wr,id<H2.length
 run:∀(J:bf) (F:Nat->Prop) (w:ba) (a:Act) (G:Nat->Option ao),cH J F w G->(∀x∈o.op.operands,rep J F w (fU env x)<|a.eval x) ->
  (∀id,id∈rd\/id∈wr->G id=H[id]?)->(∀id,H.length<=id->id∈wr->J id=none) ->
  ∀(K:Act->ba->Prop) (Q:Exit->Act->ba->Prop),
   (∀v w' J' F',rep J' F' w' d v->cH J' F' w' (upd G wr H2)->Ext J F w J' F' w'->(∀id,J id=none->id ∉ wr->J' id=none)->K (a.put o.dst v) w')->o.wp P a w K Q
theorem OpS.value{P:bI}{o:Oper}{env:Env}{rd:List Nat}{H:List ao}{d:D}
  (h:∀(J:bf) (F:Nat->Prop) (w:ba) (a:Act) (G:Nat->Option ao),cH J F w G->(∀x∈o.op.operands,rep J F w (fU env x)<|a.eval x) ->
   (∀id∈rd,G id=H[id]?)->∃v,(execOp a.eval o).run P w=.ok (.value v) w/\rep J F w d v):OpS P o env rd [] H d H where
 frame _ _:=rfl
 len:=aT _
 lt _ h:=by cases h
 run J F w a G aC aU cW _ K Q hK:=by
  obtain⟨v,h1,h2⟩:=h J F w a G aC aU λid hid=>cW id (.inl hid);unfold Oper.wp;rw[h1,Oper.upon_value];exact hK v w J F h2 (by rw[zN];exact aC) (Ext.refl _ _ _) λ_ h _=>h
theorem y8(t:Nat)(K:D->Prop):∀env,tN t K env=K (iA t env)
 |[]=>rfl
 |(k,d)::r=>by
  simp only[tN,iA];cases Nat.beq t k
  ·exact y8 t K r
  rfl
theorem IA:∀(l:List aP) (K:List D->Prop),scK l K=K (l.map .sc)
 |[],K=>rfl
 |v::r,K=>by simp only[scK,IA r,fi]
theorem gB(env:Env)(x:a8)(K:D->Prop):dK env x K=K (fU env x):=by
 cases x with
 |tmp t=>exact y8 t K env
 |const v=>cases v<;>first|rfl|simp only[dK,fU,lift,IA]
 |global g=>rfl
 |func f=>rfl
theorem Jv(env:Env):∀(xs:List a8) (K:List D->Prop),AZ env xs K=K (xs.map<|fU env)
 |[],K=>rfl
 |x::r,K=>by simp only[AZ,gB,Jv env r,fi]
theorem vH:∀(cs:List D) (n:Nat) (K:D->Prop),atK cs n K↔∃c,cs[n]? = some c/\K c
 |[],n,K=>by simp[atK]
 |c::r,0,K=>by simp[atK]
 |c::r,n+1,K=>by simp only[atK,E9];exact vH r n K
theorem BB:∀(cs:List D) (n:Nat) (K:List D->Prop),uH cs n K↔n<=cs.length/\K (cs.take n)
 |cs,0,K=>by simp[uH]
 |[],n+1,K=>by simp[uH]
 |c::r,n+1,K=>by simp only[uH,BB r n,bH,u4,Nat.add_le_add_iff_right]
theorem Af:∀(cs:List D) (n:Nat) (K:List D->Prop),rU cs n K↔n<=cs.length/\K (cs.drop n)
 |cs,0,K=>by cases cs<;>simp[rU]
 |[],n+1,K=>by simp[rU]
 |c::r,n+1,K=>by simp only[rU,Af r n,bH,Eg,Nat.add_le_add_iff_right]
theorem lB:∀(H:List ao) (n:Nat) (K:ao->Prop),ky H n K↔∃c,H[n]? = some c/\K c
 |[],n,K=>by simp[ky]
 |c::r,0,K=>by simp[ky]
 |c::r,n+1,K=>by simp only[ky,E9];exact lB r n K
theorem vU:∀(H:List ao) (n:Nat) (o:ao) (K:List ao->Prop),pN H n o K↔n<H.length/\K (H.set n o)
 |[],n,o,K=>by simp[pN]
 |c::r,0,o,K=>by simp[pN]
 |c::r,n+1,o,K=>by simp only[pN,vU r n,bH,List.set_cons_succ,Nat.add_lt_add_iff_right]
theorem xX:∀(H:List ao) (o:ao) (K:List ao->Nat->Prop),tU H o K↔K (H++[o]) H.length
 |[],o,K=>by simp[tU]
 |c::r,o,K=>by simp only[tU,xX r,bH,ov]
theorem Dc:∀(r:List D) (n:Nat) (cs:List D) (K:List D->Prop),rL r n cs K↔n+cs.length<=r.length/\K (r.take n++cs++r.drop (n+cs.length))
 |[],0,[],K=>by simp[rL]
 |[],0,c::cs,K=>by simp[rL]
 |[],n+1,cs,K=>by simp[rL]
 |x::r,0,[],K=>by simp[rL]
 |x::r,0,c::cs,K=>by
  simp only[rL,Dc r 0 cs,bH,r7,lW,lZ,ov,Eg,Nat.add_le_add_iff_right]
 |x::r,n+1,cs,K=>by
  simp only[rL,Dc r n cs,bH,u4,ov];rw[show n+1+cs.length=n+cs.length+1 by omega,Eg,Nat.add_le_add_iff_right]
theorem qP(a b:Nat)(A:Prop):py a b A↔a=b/\A:=by
 unfold py;cases e:Nat.beq a b
 ·simp only[false_iff,not_and];intro h;subst h;simp at e
 simp[CA e]
def D.cells:D->List D
 | .agg cs=>cs
 |d=>[d]
def storable(d:D):Bool:=match d with
 | .agg cs=>Dq cs
 |d=>wj d
theorem G8(d:D)(K:List D->Prop):Cg d K↔storable d/\K d.cells:=by
 cases d<;>simp only[Cg,storable,D.cells]
 all_goals
  first
  |(generalize e:Dq _=b;cases b<;>simp)
  |(generalize e:wj _=b;cases b<;>simp)
section
variable{J:bf}{F:Nat->Prop}{w:ba}
theorem R3:∀(cs:List D),Dq cs->∀c∈cs,wj c=true
 |[],_,c,h=>by cases h
 |c::r,h,d,hd=>by
  simp only[Dq] at h
  cases e:wj c with
  |false=>rw[e] at h;cases h
  |true =>
   rw[e] at h;rcases dZ.1 hd with rfl|hd
   ·exact e
   exact R3 r h d hd
theorem UE{c:D}{v:aP}(h:wj c)(k:rep J F w c v):gE v:=by
 cases c<;>simp only[rep] at k
 case sc u=>subst k;cases v<;>first|rfl|simp[wj] at h
 case loc=>obtain⟨_,_,_,_,_,rfl⟩:=k;rfl
 case aB=>obtain⟨_,_,rfl,_⟩:=k;rfl
 case aM=>obtain⟨_,_,_,rfl,_⟩:=k;rfl
 case fn=>obtain⟨_,_,rfl,_⟩:=k;rfl
 case ifc=>obtain⟨_,rfl,_⟩:=k;rfl
 case elt=>obtain⟨_,_,_,rfl,_⟩:=k;rfl
 case own=>obtain⟨_,_,_,_,_,rfl,_⟩:=k;rfl
 case mp=>obtain⟨_,_,_,_,_,rfl⟩:=k;rfl
 case gv=>exact k.2.2
 all_goals simp[wj] at h
end
theorem BA(k:IntKind)(z:Int)(K:D->Prop)(h:yU k z K):K (.sc (.int k<|k.wrap z)):=by
 rcases h with⟨h1,h2⟩|h
 ·unfold dQ at h1;rw[h1];exact h2
 exact h _ rfl
variable(P:bI)
theorem oM(w:ba)(op:BinOp)(t:bl)(x y:a8)(k k':IntKind)(a b:Int):(eqGuard op t x y (.int k a) (.int k' b)).run P w=.ok () w:=by
 cases op<;>simp[eqGuard,pure,Sem.run]
theorem Xs(w:ba)(op:BinOp)(t:bl)(x y:a8)(a b:aX):(eqGuard op t x y (.string a) (.string b)).run P w=.ok () w:=by
 cases op<;>simp[eqGuard,pure,Sem.run]
theorem UU(w:ba)(op:BinOp)(t:bl)(x y:a8)(a b:Bool):(eqGuard op t x y (.bool a) (.bool b)).run P w=.ok () w:=by
 cases op<;>simp[eqGuard,pure,Sem.run]
theorem WA{k k':IntKind}(h:Nat.beq (DR k)<|DR k'):k=k':=by
 cases k<;>cases k'<;>first|rfl|cases h
theorem YQ(op:BinOp)(dx dy:D)(K:D->Prop)(h:LK op dx dy K) :
  ∃u v r,dx=.sc u/\dy=.sc v/\K (.sc r)/\∀(P:bI) (w:ba) (t:bl) (x y:a8),((do eqGuard op t x y u v;binOp op t u v:Sem aP)).run P w=.ok r w:=by
 unfold LK at h;split at h
 ·rename_i k a k' b;split at h
  ·obtain⟨h0,h⟩:=h;refine⟨_,_,_,rfl,rfl,BA _ _ _ h,λP w t x y=>?_⟩;simp[oM,binOp,Op.shift,show ¬b<0 by omega,pure,Sem.run]
  ·obtain⟨h0,h⟩:=h;refine⟨_,_,_,rfl,rfl,h,λP w t x y=>?_⟩;simp[oM,binOp,Op.shift,show ¬b<0 by omega,pure,Sem.run]
  rename_i ye zG;split at h
  ·exact h.elim
  rename_i hk;have hk:=WA hk;subst hk;cases op<;>simp only at h;all_goals try exact h.elim
  case add=>exact⟨_,_,_,rfl,rfl,BA _ _ _ h,λP w t x y=>by simp[oM,binOp,Op.intArith,pure,Sem.run]⟩
  case sub=>exact⟨_,_,_,rfl,rfl,BA _ _ _ h,λP w t x y=>by simp[oM,binOp,Op.intArith,pure,Sem.run]⟩
  case mul=>exact⟨_,_,_,rfl,rfl,BA _ _ _ h,λP w t x y=>by simp[oM,binOp,Op.intArith,pure,Sem.run]⟩
  case quo=>exact⟨_,_,_,rfl,rfl,BA _ _ _ h.2,λP w t x y=>by simp[oM,binOp,Op.intDiv,pure,Sem.run,h.1]⟩
  case rem=>exact⟨_,_,_,rfl,rfl,h.2,λP w t x y=>by simp[oM,binOp,Op.intDiv,pure,Sem.run,h.1]⟩
  case eql=>exact⟨_,_,_,rfl,rfl,h,λP w t x y=>by simp[oM,binOp,Op.intCmp,pure,Sem.run]⟩
  case neq=>exact⟨_,_,_,rfl,rfl,h,λP w t x y=>by simp[oM,binOp,Op.intCmp,pure,Sem.run]⟩
  case lss=>exact⟨_,_,_,rfl,rfl,h,λP w t x y=>by simp[oM,binOp,Op.intCmp,pure,Sem.run]⟩
  case leq=>exact⟨_,_,_,rfl,rfl,h,λP w t x y=>by simp[oM,binOp,Op.intCmp,pure,Sem.run]⟩
  case gtr=>exact⟨_,_,_,rfl,rfl,h,λP w t x y=>by simp[oM,binOp,Op.intCmp,pure,Sem.run]⟩
  case geq=>exact⟨_,_,_,rfl,rfl,h,λP w t x y=>by simp[oM,binOp,Op.intCmp,pure,Sem.run]⟩
  case and=>exact⟨_,_,_,rfl,rfl,h,λP w t x y=>by simp[oM,binOp,Op.intBits,pure,Sem.run,jv]⟩
  case or=>exact⟨_,_,_,rfl,rfl,h,λP w t x y=>by simp[oM,binOp,Op.intBits,pure,Sem.run,jv]⟩
  case xor=>exact⟨_,_,_,rfl,rfl,h,λP w t x y=>by simp[oM,binOp,Op.intBits,pure,Sem.run,jv]⟩
  case andNot=>exact⟨_,_,_,rfl,rfl,h,λP w t x y=>by simp[oM,binOp,Op.intBits,pure,Sem.run,jv]⟩
 ·rename_i a b;cases op<;>simp only at h;all_goals try exact h.elim
  case add=>exact⟨_,_,_,rfl,rfl,h.2,λP w t x y=>by
   have h1:=h.1;have h2:(a.size:Int)+(b.size:Int)<=9223372036854775807:=(by omega);simp[Xs,binOp,Op.stringOp,pure,Sem.run,h2]⟩
  all_goals exact⟨_,_,_,rfl,rfl,h,λP w t x y=>by simp[Xs,binOp,Op.stringOp,pure,Sem.run]⟩
 exact h.elim
section
variable{P:bI}{seq:Bool}{o:Oper}{env:Env}{H:List ao}{K:pQ}
def Sound(P:bI)(o:Oper)(env:Env)(H:List ao)(K:pQ):Prop:=∃d H2 rd wr,OpS P o env rd wr H d H2/\K d H2 rd wr
theorem ga{d:D}{rd:List Nat}(hK:K d H rd [])
  (h:∀(J:bf) (F:Nat->Prop) (w:ba) (a:Act) (G:Nat->Option ao),cH J F w G->(∀x∈o.op.operands,rep J F w (fU env x)<|a.eval x) ->
   (∀id∈rd,G id=H[id]?)->∃v,(execOp a.eval o).run P w=.ok (.value v) w/\rep J F w d v):Sound P o env H K:=⟨d,H,rd,[],OpS.value h,hK⟩
variable{x:a8}
theorem WW(ho:o.op=.move x\/o.op=.assign x)(h:step P seq (.move x) env H K):Sound P o env H K:=by
 simp only[step,gB] at h;refine ga h λJ F w a G _ aU _=>⟨a.eval x,?_,?_⟩
 ·rcases ho with e|e<;>simp[execOp,e,pure,Sem.run]
 rcases ho with e|e<;>exact aU x<|by simp[e,Op.operands]
theorem ztN{A B:Prop}:ifK true A B=A:=rfl
theorem XF{A B:Prop}:ifK false A B=B:=rfl
variable{y:a8}
theorem zzo{c:a8}(ho:o.op=.pick c x y)(h:step P seq (.pick c x y) env H K):Sound P o env H K:=by
 simp only[step,gB] at h
 cases hc:fU env c with
 |sc u =>
  cases u with
  |bool t =>
   rw[hc] at h
   cases t with
   |true =>
    simp only[ztN] at h;refine ga h λJ F w a G _ aU _=>⟨a.eval x,?_,aU x<|by simp[ho,Op.operands]⟩;have h1:=aU c (by simp[ho,Op.operands]);rw[hc] at h1;simp only[rep] at h1;simp[execOp,ho,pure,Sem.run,h1,asBool]
   |false =>
    simp only[XF] at h;refine ga h λJ F w a G _ aU _=>⟨a.eval y,?_,aU y<|by simp[ho,Op.operands]⟩;have h1:=aU c (by simp[ho,Op.operands]);rw[hc] at h1;simp only[rep] at h1;simp[execOp,ho,pure,Sem.run,h1,asBool]
  |_=>rw[hc] at h;exact h.elim
 |_=>rw[hc] at h;exact h.elim
theorem YN(ho:o.op=.nilCheck x)(h:step P seq (.jR x) env H K):Sound P o env H K:=by
 simp only[step,gB] at h;have key:∀v,(∃a,v=Value.pointer (some a))\/(∃f us vs,v=.func (.func f) us vs)->∀(w:ba) (ρ:a8->aP),ρ x=v->(execOp ρ o).run P w=.ok (.value v) w:=by
  rintro v (⟨a,rfl⟩|⟨f,us,vs,rfl⟩) w ρ e<;>simp[execOp,ho,e,pure,Sem.run]
 cases hx:fU env x with
 |loc id off =>
  rw[hx] at h;refine ga h λJ F w a G _ aU _=>?_;have h1:=aU x (by simp[ho,Op.operands]);rw[hx] at h1;refine⟨_,key _ (.inl ?_) w _ rfl,h1⟩;simp only[rep] at h1;obtain⟨_,_,_,_,_,e⟩:=h1;exact⟨_,e⟩
 |elt id aw i off =>
  rw[hx] at h;refine ga h λJ F w a G _ aU _=>?_;have h1:=aU x (by simp[ho,Op.operands]);rw[hx] at h1;refine⟨_,key _ (.inl ?_) w _ rfl,h1⟩;simp only[rep] at h1;obtain⟨_,_,_,e,_⟩:=h1;exact⟨_,e⟩
 |aB cs =>
  rw[hx] at h;refine ga h λJ F w a G _ aU _=>?_;have h1:=aU x (by simp[ho,Op.operands]);rw[hx] at h1;refine⟨_,key _ (.inl ?_) w _ rfl,h1⟩;simp only[rep] at h1;obtain⟨_,_,e,_⟩:=h1;exact⟨_,e⟩
 |fn f first cap =>
  rw[hx] at h
  cases f with
  |func f =>
   refine ga h λJ F w a G _ aU _=>?_;have h1:=aU x (by simp[ho,Op.operands]);rw[hx] at h1;refine⟨_,key _ (.inr ?_) w _ rfl,h1⟩;simp only[rep] at h1;obtain⟨_,_,e,_⟩:=h1;exact⟨_,_,_,e⟩
  |_=>exact h.elim
 |_=>rw[hx] at h;exact h.elim
variable{op:BinOp}{t yt:bl}
theorem zAB(ho:o.op=.binOp op t x y yt)(h:step P seq (.bin op x y) env H K):Sound P o env H K:=by
 simp only[step,gB] at h;obtain⟨u,v,r,h1,h2,h3,h4⟩:=YQ _ _ _ _ h;refine ga h3 λJ F w a G _ aU _=>⟨r,?_,by simp only[rep]⟩;have k1:=aU x (by simp[ho,Op.operands]);have k2:=aU y (by simp[ho,Op.operands]);rw[h1] at k1;rw[h2] at k2;simp only[rep] at k1 k2;simp only[execOp,ho,k1,k2];have:=h4 P w t x y;simp only[Sem.run_bind] at this⊢;rw[this];rfl
theorem run_equal_bool(ht:P.underlying t=some .bool)(a b:Bool)(w:ba):(Op.equal t (.bool a) (.bool b)).run P w=.ok (a==b) w:=by
 unfold Op.equal;rw[show Op.maxDepth=9999+1 from rfl];unfold Op.equalIn;simp[underlying,program,Sem.run,ht,pure]
variable{neq:Bool}
theorem Vb(lQ:op=if neq then .neq else .eql)(ht:P.underlying t=some .bool)(ho:o.op=.binOp op t x y yt)(h:step P seq (.eqb neq x y) env H K):Sound P o env H K:=by
 simp only[step,gB] at h;unfold eqbK at h;split at h
 ·rename_i u v e1 e2
  cases neq with
  |false =>
   simp only[xA,if_false] at lQ;refine ga h λJ F w a G _ aU _=>⟨_,?_,rfl⟩;have k1:=aU x (by simp[ho,Op.operands]);have k2:=aU y (by simp[ho,Op.operands]);rw[e1] at k1;rw[e2] at k2;simp only[rep] at k1 k2;simp[execOp,ho,k1,k2,lQ,UU,binOp,run_equal_bool ht,Sem.run,pure]
  |true =>
   simp only[if_true] at lQ;refine ga h λJ F w a G _ aU _=>⟨_,?_,rfl⟩;have k1:=aU x (by simp[ho,Op.operands]);have k2:=aU y (by simp[ho,Op.operands]);rw[e1] at k1;rw[e2] at k2;simp only[rep] at k1 k2;simp[execOp,ho,k1,k2,lQ,UU,binOp,run_equal_bool ht,Sem.run,pure]
 exact h.elim
theorem S1{c:Nat}{x y:D}{K:Bool->Prop}(h:Kp c x y K) :
  ∃u v b,x=.sc u/\y=.sc v/\K b/\∀(P:bI) (t:bl),yK P t=some c->(∀(us:Array aP) (i:Nat) (w:ba) (z:aP),us[i]? = some z->(part t us i).run P w=.ok z w)/\∀d w,(Op.equalIn (d+1) t u v).run P w=.ok b w:=by
 unfold Kp at h;split at h
 ·rename_i k a k' b;obtain⟨e1,h2⟩:=(qP _ _ _).1 h;have e1:k=k':=WA (by rw[e1];exact Nat.beq_refl _);subst e1;refine⟨_,_,_,rfl,rfl,h2,λP t ht=>?_⟩;unfold yK at ht;split at ht<;>try (cases ht;done)
  rename_i k0 e;exact⟨λus i w z hz=>by simp[part,isAgg,run_underlying e,hz],λd w=>run_equalIn_int w d t k k0 a b e⟩
 ·refine⟨_,_,_,rfl,rfl,h,λP t ht=>?_⟩;unfold yK at ht;split at ht<;>try (cases ht;done)
  rename_i e;exact⟨λus i w z hz=>by simp[part,isAgg,run_underlying e,hz],λd w=>run_equalIn_bool' w d t _ _ e⟩
 ·refine⟨_,_,_,rfl,rfl,h,λP t ht=>?_⟩;unfold yK at ht;split at ht<;>try (cases ht;done)
  rename_i e;exact⟨λus i w z hz=>by simp[part,isAgg,run_underlying e,hz],λd w=>run_equalIn_string w d t _ _ e⟩
 exact h.elim
theorem Uz:∀{ks:List Nat} {xs ys:List D} {K:Bool->Prop},yD ks xs ys K->∃b,K b /\
  ∀(P:bI) (us vs:Array aP) (J:bf) (F:Nat->Prop) (w0:ba) (fs:List Field) (i:Nat),FU P i fs=some ks ->
   bB J F w0 xs (us.toList.drop i)->bB J F w0 ys (vs.toList.drop i)->∀d w,(Op.eqFields (d+1) us vs fs).run P w=.ok b w
 |[],xs,ys,K,h=>by
  cases xs<;>cases ys<;>simp only[yD] at h;refine⟨_,h,λP us vs J F w0 fs i hf _ _ d w=>?_⟩
  cases fs with
  |nil=>simp[Op.eqFields,Sem.run,pure]
  |cons f r =>
   simp only[FU] at hf;repeat' (split at hf)
   all_goals cases hf
 |c::cs,xs,ys,K,h=>by
  cases xs<;>cases ys<;>simp only[yD] at h;rename_i x xs y ys;obtain⟨u,v,b,rfl,rfl,h,hP⟩:=S1 h;obtain⟨q,hq,hR⟩:=Uz h;refine⟨_,hq,λP us vs J F w0 fs i hf h1 h2 d w=>?_⟩
  cases fs with
  |nil=>cases hf
  |cons f r =>
   simp only[FU] at hf;split at hf
   ·rename_i hc;split at hf
    ·rename_i c' gH e1 e2;cases hf;obtain⟨hp,he⟩:=hP P f.type e1;simp only[bB,rep] at h1 h2;obtain⟨u',M7,g1,rfl,g2⟩:=h1;obtain⟨v',JT,g3,rfl,g4⟩:=h2;have k1:us[i]? = some u':=by
      have:=bJ (λl=>l[0]?) g1;simpa using this
     have k2:vs[i]? = some v':=by
      have:=bJ (λl=>l[0]?) g3;simpa using this
     have k3:us.toList.drop (i+1)=M7:=by
      have:=bJ List.tail g1;simpa [List.tail_drop] using this
     have k4:vs.toList.drop (i+1)=JT:=by
      have:=bJ List.tail g3;simpa [List.tail_drop] using this
     have hr:=hR P us vs J F w0 r (i+1) e2 (k3▸g2) (k4▸g4) d;have p1:=hp us i w u' k1;have p2:=hp vs i w v' k2;simp only[Op.eqFields,ae hc.1,hc.2,Sem.run_bind,p1,p2,Result.andThen_ok,he d w,Sem.run_ite];cases b
     ·simp[Sem.run,pure]
     simp[hr w]
    cases hf
   cases hf
theorem Pv{c:Nat}:∀{n:Nat} {xs ys:List D} {K:Bool->Prop},yD (List.replicate n c) xs ys K->∃b,K b /\
  ∀(P:bI) (us vs:Array aP) (J:bf) (F:Nat->Prop) (w0:ba) (e:bl) (i:Nat),yK P e=some c ->
   bB J F w0 xs (us.toList.drop i)->bB J F w0 ys (vs.toList.drop i)->∀d w,(Op.eqItems (d+1) e 1 us vs<|List.range' i n).run P w=.ok b w
 |0,xs,ys,K,h=>by
  cases xs<;>cases ys<;>simp only[List.replicate,yD] at h;exact⟨_,h,λP us vs J F w0 e i hf _ _ d w=>by simp[Op.eqItems,Sem.run,pure]⟩
 |n+1,xs,ys,K,h=>by
  cases xs<;>cases ys<;>simp only[List.replicate,yD] at h;rename_i x xs y ys;obtain⟨u,v,b,rfl,rfl,h,hP⟩:=S1 h;obtain⟨q,hq,hR⟩:=Pv h;refine⟨_,hq,λP us vs J F w0 e i hf h1 h2 d w=>?_⟩;obtain⟨hp,he⟩:=hP P e hf;simp only[bB,rep] at h1 h2;obtain⟨u',M7,g1,rfl,g2⟩:=h1;obtain⟨v',JT,g3,rfl,g4⟩:=h2;have k1:us[i]? = some u':=by
   have:=bJ (λl=>l[0]?) g1;simpa using this
  have k2:vs[i]? = some v':=by
   have:=bJ (λl=>l[0]?) g3;simpa using this
  have k3:us.toList.drop (i+1)=M7:=by
   have:=bJ List.tail g1;simpa [List.tail_drop] using this
  have k4:vs.toList.drop (i+1)=JT:=by
   have:=bJ List.tail g3;simpa [List.tail_drop] using this
  have hr:=hR P us vs J F w0 e (i+1) hf (k3▸g2) (k4▸g4) d;have p1:=hp us i w u' k1;have p2:=hp vs i w v' k2;simp only[List.range'_succ,Op.eqItems,Nat.mul_one,Sem.run_bind,p1,p2,Result.andThen_ok,he d w,Sem.run_ite];cases b
  ·simp[Sem.run,pure]
  simp[hr w]
theorem W1{ks:List Nat}(lQ:op=if neq then .neq else .eql)(ht:GH P t=some ks)(ho:o.op=.binOp op t x y yt)(h:step P seq (.eqa neq ks x y) env H K):Sound P o env H K:=by
 simp only[step,gB] at h;unfold GH at ht;split at ht
 ·rename_i fs hu;split at ht
  ·rename_i hg;unfold N6 at h;split at h
   ·rename_i xs ys e1 e2;have lp:P.fieldsOf t=fs:=(by simp[Program.fieldsOf,hu]);obtain⟨b,hK,hr⟩:=Uz h;refine ga hK λJ F w a G _ aU _=>?_;have k1:=aU x (by simp[ho,Op.operands]);have k2:=aU y (by simp[ho,Op.operands]);rw[e1] at k1;rw[e2] at k2;simp only[rep] at k1 k2;obtain⟨us,k1,r1⟩:=k1;obtain⟨vs,k2,r2⟩:=k2;have jX:=hr P us.toArray vs.toArray J F w fs.toList 0 ht (by simpa using r1) (by simpa using r2) 9998 w;have heq:(Op.equalIn 10000 t (.agg us.toArray) (.agg vs.toArray)).run P w=.ok b w:=by
     rw[show(10000:Nat)=9999+1 from rfl,run_equalIn_struct w 9999 t _ _ (by rw[lp];exact hu) hg.1,lp];exact jX
    cases neq with
    |false =>
     simp only[xA,if_false] at lQ;exact⟨_,by simp[execOp,ho,k1,k2,lQ,run_eqGuard_agg w _ t x y _ _ hg.2,run_eql_struct,heq,Sem.run,pure,tQ],rfl⟩
    |true =>
     simp only[if_true] at lQ;exact⟨_,by simp[execOp,ho,k1,k2,lQ,run_eqGuard_agg w _ t x y _ _ hg.2,run_neq_struct,heq,Sem.run,pure,tQ],rfl⟩
   exact h.elim
  cases ht
 ·rename_i n e hu;split at ht
  ·rename_i hg
   cases Ni:yK P e with
   |none=>rw[Ni] at ht;cases ht
   |some c =>
    rw[Ni] at ht;cases ht;obtain⟨inf,hi⟩:=Option.isSome_iff_exists.1 hg.2.2;unfold N6 at h;split at h
    ·rename_i xs ys e1 e2;obtain⟨b,hK,hr⟩:=Pv h;refine ga hK λJ F w a G _ aU _=>?_;have k1:=aU x (by simp[ho,Op.operands]);have k2:=aU y (by simp[ho,Op.operands]);rw[e1] at k1;rw[e2] at k2;simp only[rep] at k1 k2;obtain⟨us,k1,r1⟩:=k1;obtain⟨vs,k2,r2⟩:=k2;have jX:=hr P us.toArray vs.toArray J F w e 0 Ni (by simpa using r1) (by simpa using r2) 9998 w;have heq:(Op.equalIn 10000 t (.agg us.toArray) (.agg vs.toArray)).run P w=.ok b w:=by
      rw[show(10000:Nat)=9999+1 from rfl,run_equalIn_array w 9999 _ _ hu hi,hg.2.1,List.range_eq_range'];exact jX
     cases neq with
     |false =>
      simp only[xA,if_false] at lQ;exact⟨_,by simp[execOp,ho,k1,k2,lQ,run_eqGuard_agg w _ t x y _ _ hg.1,run_eql_struct,heq,Sem.run,pure,tQ],rfl⟩
     |true =>
      simp only[if_true] at lQ;exact⟨_,by simp[execOp,ho,k1,k2,lQ,run_eqGuard_agg w _ t x y _ _ hg.1,run_neq_struct,heq,Sem.run,pure,tQ],rfl⟩
    exact h.elim
  cases ht
 cases ht
theorem s_un{op:UnOp}(ho:o.op=.unOp op t x)(h:step P seq (.un op x) env H K):Sound P o env H K:=by
 simp only[step,gB] at h;unfold unK at h;split at h
 ·rename_i b e;refine ga h λJ F w a G _ aU _=>⟨_,?_,rfl⟩;have k1:=aU x (by simp[ho,Op.operands]);rw[e] at k1;simp only[rep] at k1;simp[execOp,ho,k1,Op.unary,Sem.run,pure]
 ·rename_i k n e;refine ga (BA _ _ _ h) λJ F w a G _ aU _=>⟨_,?_,rfl⟩;have k1:=aU x (by simp[ho,Op.operands]);rw[e] at k1;simp only[rep] at k1;simp[execOp,ho,k1,Op.unary,Op.intArith,Sem.run,pure]
 exact h.elim
theorem zBb{i:Nat}(ho:o.op=.extract x i)(h:step P seq (.ext i x) env H K):Sound P o env H K:=by
 simp only[step,gB] at h;split at h
 ·rename_i cs e;obtain⟨c,h1,h2⟩:=(vH _ _ _).1 h;refine ga h2 λJ F w a G _ aU _=>?_;have k1:=aU x (by simp[ho,Op.operands]);rw[e] at k1;simp only[rep] at k1;obtain⟨vs,k2,k3⟩:=k1;obtain⟨v,k4,k5⟩:=rN _ _ _ _ h1 k3;refine⟨v,?_,k5⟩;simp[execOp,ho,k2,Instr.extract,k4,Sem.run,pure]
 exact h.elim
theorem Zq{f:Fn}{first cap:Array a8}(ho:o.op=.makeFunc f first cap)(h:step P seq (.jD f first.toList cap.toList) env H K):Sound P o env H K:=by
 simp only[step,Jv] at h;refine ga h λJ F w a G _ aU _=>⟨.func f (first.map a.eval)<|cap.map a.eval,?_,?_⟩
 ·simp[execOp,ho,Instr.makeFunc,Sem.run,pure]
 simp only[rep];refine⟨first.toList.map a.eval,cap.toList.map a.eval,?_,?_,?_⟩
 ·congr 1<;>(apply Array.ext' ;simp)
 ·refine Ec _ _ (by simp) λj d v hd hv=>?_;rw[cU] at hd hv
  cases e:first.toList[j]? with
  |none=>rw[e] at hd;cases hd
  |some x =>
   rw[e] at hd hv;simp only[x5,Option.some.injEq] at hd hv;subst hd;subst hv;exact aU x<|by simp[ho,Op.operands];exact .inl<|by simpa using nB e
 refine Ec _ _ (by simp) λj d v hd hv=>?_;rw[cU] at hd hv
 cases e:cap.toList[j]? with
 |none=>rw[e] at hd;cases hd
 |some x =>
  rw[e] at hd hv;simp only[x5,Option.some.injEq] at hd hv;subst hd;subst hv;exact aU x<|by simp[ho,Op.operands];exact .inr<|by simpa using nB e
theorem zyG(hc:∀ms,P.underlying t≠some (.interface ms))(hu:P.underlying t≠none)(ho:o.op=.makeInterface t x)(h:step P seq (.Nf t x) env H K):Sound P o env H K:=by
 simp only[step,gB] at h;refine ga h λJ F w a G _ aU _=>⟨.iface t<|a.eval x,?_,?_⟩
 ·cases e:P.underlying t with
  |none=>exact absurd e hu
  |some d =>
   cases d<;>first|exact absurd e (hc _)|simp[execOp,ho,Instr.makeInterface,Sem.run,pure,underlying,program,e]
 simp only[rep];exact⟨_,rfl,aU x<|by simp[ho,Op.operands]⟩
theorem zzz{args:Array a8}{ts:Array bl}(ha:args.toList=[x])(ko:ts.toList=[t])(ht:P.underlying t=some .string)(ho:o.op=.call { callee:=.builtin .len,args,argTypes:=ts })(h:step P seq (.zF x) env H K):Sound P o env H K:=by
 have ea:args=#[x]:=Array.ext' (by simpa using ha);have et:ts=#[t]:=Array.ext' (by simpa using ko);subst ea et;simp only[step,gB] at h;split at h
 ·rename_i s e;refine ga h λJ F w a G _ aU _=>⟨_,?_,rfl⟩;have k1:=aU x (by simp[ho,Op.operands,Call.operands]);rw[e] at k1;simp only[rep] at k1;simp[execOp,ho,resolve,invoke,builtin,Builtin.len_,k1,Sem.run,pure,underlying,program,ht,goInt]
 exact h.elim
theorem zyq{i:a8}(ht:P.underlying t=some .string)(ho:o.op=.index t x i)(h:step P seq (.Ai x i) env H K):Sound P o env H K:=by
 simp only[step,gB] at h;split at h
 ·rename_i s k z e1 e2;obtain⟨h0,b,hb,h⟩:=h;refine ga h λJ F w a G _ aU _=>⟨_,?_,rfl⟩;have k1:=aU x (by simp[ho,Op.operands]);have k2:=aU i (by simp[ho,Op.operands]);rw[e1] at k1;rw[e2] at k2;simp only[rep] at k1 k2;simp[execOp,ho,Instr.index,asIntOf,k1,k2,Sem.run,pure,underlying,program,ht,h0,hb]
 exact h.elim
end
end
section
theorem oa(b o n:Nat):(⟨b,o,none⟩:Addr).add n=⟨b,o+n,none⟩:=by
 unfold Addr.add;split
 ·rename_i h;subst h;rfl
 rfl
section
variable{J:bf}{F:Nat->Prop}{w:ba}
variable{b o:Nat}{cs:List D}
theorem OW(h:eY J F w b cs o)(off n:Nat):eY J F w b ((cs.drop off).take n)<|o+off:=by
 refine rv _ _ λj c hc=>?_;have h1:cs[off+j]? = some c:=by
  rw[y9] at hc;split at hc
  ·rwa [xb] at hc
  cases hc
 have:=uj cs o (off+j) c h1 h;rwa [show o+(off+j)=o+off+j by omega] at this
theorem Ev(h:eY J F w b cs o)(off:Nat):eY J F w b (cs.drop off)<|o+off:=by
 have:=OW h off (cs.drop off).length;rwa [eZ] at this
theorem I0{b:Nat}:∀(cs:List D) (o:Nat),eY J F w b cs o->∃vs:List aP,bB J F w cs vs/\(∀j v,vs[j]? = some v->w.cell? ⟨b,o+j,none⟩=some v)/\∀v∈vs,gE v=true
 |[],o,_=>⟨[],by simp only[bB],(λj v h=>by simp at h),(λv h=>by cases h)⟩
 |c::r,o,h=>by
  simp only[eY] at h;obtain⟨⟨u,h1,h0,h2⟩,h3⟩:=h;obtain⟨vs,k1,k2,k3⟩:=I0 r (o+1) h3;refine⟨u::vs,by simp only[bB];exact⟨u,vs,rfl,h2,k1⟩,λj v hv=>?_,λv hv=>(dZ.1 hv).elim (λe=>e▸h0)<|k3 v⟩
  cases j with
  |zero=>simp at hv;subst hv;exact h1
  |succ j =>
   have:=k2 j v (by simpa using hv);rwa [show o+1+j=o+(j+1) by omega] at this
variable{P:bI}
variable{t:bl}
theorem B3{b:Bool}(h:pC P t=some b):(isAgg t).run P w=.ok b w:=by
 unfold pC at h
 cases e:P.underlying t with
 |none=>rw[e] at h;cases h
 |some d =>
  rw[e] at h;cases d<;>simp at h<;>subst h<;>simp[isAgg,underlying,program,Sem.run,e,pure]
theorem Od{b:Bool}(h:pC P t=some b):∃i,P.info? t=some i/\i.size=P.cellsOf t:=by
 unfold pC Program.underlying at h
 cases e:P.info? t with
 |none=>rw[e] at h;cases h
 |some i=>exact⟨i,rfl,by simp[Program.cellsOf,e]⟩
theorem tx{i:TypeInfo}(h:P.info? t=some i):(sizeOf t).run P w=.ok i.size w:=by
 simp[sizeOf,typeInfo,program,Sem.run,h,pure]
theorem Vf(h:pC P t=some false){a:Addr}{u:aP}(hc:w.cell? a=some u):(Instr.loadAt t (.pointer<|some a)).run P w=.ok u w:=by
 simp[Instr.loadAt,Instr.sureAddr,loadVar,B3 h,load,Sem.run,hc,pure]
theorem UR(h:pC P t=some true){vs:List aP}(hn:vs.length=P.cellsOf t)(hc:∀(j:Nat) (v:aP),vs[j]? = some v->w.cell? ⟨b,o+j,none⟩=some v) :
  (Instr.loadAt t (.pointer<|some ⟨b,o,none⟩)).run P w=.ok (.agg vs.toArray) w:=by
 obtain⟨i,h1,h2⟩:=Od h;have h3:=run_loadCells_list (P:=P) (w:=w) ⟨b,o,none⟩ vs λj v hv=>by rw[oa];exact hc j v hv
 simp[Instr.loadAt,Instr.sureAddr,loadVar,B3 h,tx h1,h2,<-hn,Sem.run,pure,h3]
variable{G:Nat->Option ao}{id:Nat}{s:Site}{m:Bool}
theorem Km(h:cH J F w G)(h1:J id=some s)(h2:s.ad=some ⟨b,0,none⟩)(h3:G id=some (.row m cs)):eY J F w b cs 0:=by
 obtain⟨o,k1,k2⟩:=h.obj id s h1;rw[h3] at k1;cases k1;obtain⟨_,_,_,_,_,b',_,_,e,_,_,k,_⟩:=k2;rw[h2] at e;cases e;exact k
theorem wq(h:cH J F w G){aw ak:Nat}{xs:List<|List D}(h1:J id=some s)(h3:G id=some (.vec m aw ak xs)) :
  s.row=false/\s.aw=aw/\s.ak=ak/\s.len=xs.length/\s.len<=s.cap/\(s.cap=0\/∃b o vals te,s.ad=some ⟨b,o,none⟩/\w.heap[b]? = some (.cells vals te (0,0))/\o+s.cap*ak<=vals.size/\fD J F w b ak xs o/\(m=false->F b)):=by
 obtain⟨o,k1,k2⟩:=h.obj id s h1;rw[h3] at k1;cases k1;exact k2
end
section
variable{P:bI}{seq:Bool}{o:Oper}{env:Env}{H:List ao}{K:pQ}
def Fl(P:bI)(env:Env)(H:List ao)(d:D)(rd:List Nat)(cs:List D):Prop :=
 ∀(J:bf) (F:Nat->Prop) (w:ba) (G:Nat->Option ao) (v:aP),cH J F w G->(∀id∈rd,G id=H[id]?)->rep J F w d v->∃b o,v=.pointer (some ⟨b,o,none⟩)/\eY J F w b cs o
variable{m:Bool}{cs:List D}
theorem N8{id off:Nat}(h:H[id]? = some (.row m cs)):Fl P env H (.loc id off) [id]<|cs.drop off:=λJ F w G v aC cW hv=>by
 simp only[rep] at hv;obtain⟨s,b,h1,h2,h3,rfl⟩:=hv;have:=Ev (Km aC h1 h3<|by rw[cW id<|by simp];exact h) off;exact⟨b,off,rfl,by simpa using this⟩
theorem PW:Fl P env H (.aB cs) [] cs:=λJ F w G v aC cW hv=>by
 simp only[rep] at hv;obtain⟨b,o,rfl,_,h⟩:=hv;exact⟨b,o,rfl,h⟩
variable{ak:Nat}{xs:List<|List D}
theorem QF{id aw i off:Nat}{row:List D}(h:H[id]? = some (.vec m aw ak xs))(hr:xs[i]? = some row):Fl P env H (.elt id aw i off) [id]<|row.drop off:=λJ F w G v aC cW hv=>by
 simp only[rep] at hv;obtain⟨s,a,h1,rfl,h2,h3⟩:=hv;have hG:G id=some (.vec m aw ak xs):=by rw[cW id<|by simp];exact h
 obtain⟨k1,k2,k3,k4,k5,k6⟩:=wq aC h1 hG;obtain⟨b,o,q1,q2,q3,rfl⟩:=h3 k2.symm;rcases k6 with k6|⟨b',o',vals,te,e,_,_,k,_⟩
 ·omega
 rw[q2] at e;cases e;obtain⟨r1,r2⟩:=vm xs o i row hr k;have:=Ev r2 off;rw[k3];exact⟨b,_,rfl,this⟩
variable{t:bl}{x:a8}{rd:List Nat}
theorem Lw{c:D}(ht:pC P t=some false)(ho:o.op=.load t x)(hp:Fl P env H (fU env x) rd cs)(hc:cs[0]? = some c)(hK:K c H rd []):Sound P o env H K:=by
 refine ga hK λJ F w a G aC aU cW=>?_;obtain⟨b,o',e,k⟩:=hp J F w G _ aC cW<|aU x (by simp[ho,Op.operands]);obtain⟨u,k1,k2⟩:=uj cs o' 0 c hc k;rw[uL] at k1;refine⟨u,?_,k2.2⟩;simp[execOp,ho,e,Vf ht k1,Sem.run,pure]
theorem Lz(ht:pC P t=some true)(ho:o.op=.load t x)(hp:Fl P env H (fU env x) rd cs)(hn:P.cellsOf t<=cs.length)(hK:K (.agg<|cs.take<|P.cellsOf t) H rd []):Sound P o env H K:=by
 refine ga hK λJ F w a G aC aU cW=>?_;obtain⟨b,o',e,k⟩:=hp J F w G _ aC cW<|aU x (by simp[ho,Op.operands]);have k1:=OW k 0<|P.cellsOf t;simp only[fQ,uL] at k1;obtain⟨vs,k2,k3,_⟩:=I0 _ _ k1;have hl:vs.length=P.cellsOf t:=by rw[nh _ _ k2,gA];omega
 refine⟨.agg vs.toArray,?_,by simp only[rep];exact⟨vs,rfl,k2⟩⟩;simp[execOp,ho,e,UR ht hl k3,Sem.run,pure]
theorem zwL(ht:pC P t=some false)(ho:o.op=.load t x)(h:step P seq (.cg x) env H K):Sound P o env H K:=by
 simp only[step,gB] at h;split at h
 ·rename_i id off e;obtain⟨ob,h1,h2⟩:=(lB _ _ _).1 h;split at h2
  ·rename_i m cs;obtain⟨c,h3,h4⟩:=(vH _ _ _).1 h2;exact Lw ht ho (e▸N8 h1) (by rw[xb];exact h3) h4
  exact h2.elim
 ·rename_i cs e;obtain⟨c,h3,h4⟩:=(vH _ _ _).1 h;exact Lw ht ho (e▸PW) h3 h4
 ·rename_i id aw i off e;obtain⟨ob,h1,h2⟩:=(lB _ _ _).1 h;split at h2
  ·rename_i m cf ak xs;obtain⟨rfl,row,h3,h4⟩:=h2;obtain⟨c,h5,h6⟩:=(vH _ _ _).1 h4;exact Lw ht ho (e▸QF h1 h3) (by rw[xb];exact h5) h6
  exact h2.elim
 exact h.elim
theorem zxN(ht:pC P t=some true)(ho:o.op=.load t x)(h:step P seq (.mF (P.cellsOf t) x) env H K):Sound P o env H K:=by
 simp only[step,gB] at h;split at h
 ·rename_i id off e;obtain⟨ob,h1,h2⟩:=(lB _ _ _).1 h;split at h2
  ·rename_i m cs;obtain⟨_,h3⟩:=(Af _ _ _).1 h2;obtain⟨h4,h5⟩:=(BB _ _ _).1 h3;exact Lz ht ho (e▸N8 h1) h4 h5
  exact h2.elim
 ·rename_i cs e;obtain⟨h4,h5⟩:=(BB _ _ _).1 h;exact Lz ht ho (e▸PW) h4 h5
 ·rename_i id aw i off e;obtain⟨ob,h1,h2⟩:=(lB _ _ _).1 h;split at h2
  ·rename_i m cf ak xs;obtain⟨rfl,row,h3,h4⟩:=h2;obtain⟨_,h5⟩:=(Af _ _ _).1 h4;obtain⟨h6,h7⟩:=(BB _ _ _).1 h5;exact Lz ht ho (e▸QF h1 h3) h6 h7
  exact h2.elim
 exact h.elim
def Cc(d:D)(off:Nat)(K':D->Prop):Prop:=match d with
 | .loc id o=>K' (.loc id<|o+off)
 | .elt id aw i o=>K' (.elt id aw i<|o+off)
 | .aB cs=>rU cs off λr=>K' (.aB r)
 |_=>False
theorem UG{d:D}{off:Nat}{K':D->Prop}(h:Cc d off K'):∃d',K' d'/\∀(J:bf) (F:Nat->Prop) (w:ba) (v:aP),rep J F w d v->∃a,v=.pointer (some a)/\rep J F w d' (.pointer<|some<|a.add off):=by
 unfold Cc at h;split at h
 ·refine⟨_,h,λJ F w v hv=>?_⟩;simp only[rep] at hv⊢;obtain⟨s,b,h1,h2,h3,rfl⟩:=hv;exact⟨_,rfl,s,b,h1,h2,h3,by rw[oa]⟩
 ·refine⟨_,h,λJ F w v hv=>?_⟩;simp only[rep] at hv⊢;obtain⟨s,a,h1,rfl,h2,h3⟩:=hv;refine⟨_,rfl,s,_,h1,rfl,h2,λq=>?_⟩;obtain⟨b,o,q1,q2,q3,rfl⟩:=h3 q;exact⟨b,o,q1,q2,q3,by rw[oa,DN]⟩
 ·rename_i cs;obtain⟨_,h2⟩:=(Af _ _ _).1 h;refine⟨_,h2,λJ F w v hv=>?_⟩;simp only[rep] at hv⊢;obtain⟨b,o,rfl,hF,k⟩:=hv;exact⟨_,rfl,b,_,by rw[oa],hF,Ev k off⟩
 exact h.elim
variable{s:bl}{f:Nat}{fs:Array Field}{fd:Field}
theorem zwA(hs:P.underlying s=some (.struct fs))(hf:fs[f]? = some fd)(hz:P.cellsOf fd.type≠0)(ho:o.op=.fieldAddr s x f)(h:step P seq (.dO fd.offset x) env H K):Sound P o env H K:=by
 simp only[step,gB] at h;have h':Cc (fU env x) fd.offset λd=>K d H [] []:=by
  unfold Cc;split at h<;>simp_all
 obtain⟨d',hK,hr⟩:=UG h';refine ga hK λJ F w a G aC aU cW=>?_;obtain⟨ad,e,k⟩:=hr J F w _<|aU x (by simp[ho,Op.operands]);have hi:∃i,P.info? fd.type=some i/\i.size≠0:=by
  unfold Program.cellsOf at hz
  cases e:P.info? fd.type with
  |none=>simp[e] at hz
  |some i=>exact⟨i,rfl,by simpa [e] using hz⟩
 obtain⟨i,gT,iO⟩:=hi;refine⟨_,?_,k⟩;simp[execOp,ho,e,Instr.fieldAt,Instr.sureAddr,fieldPlace,tx gT,iO,underlying,program,Sem.run,hs,hf,pure]
variable{e:bl}
theorem yh(hz:P.cellsOf e≠0):∃i,P.info? e=some i/\i.size=P.cellsOf e:=by
 unfold Program.cellsOf at hz⊢
 cases e:P.info? e with
 |none=>simp[e] at hz
 |some i=>exact⟨i,rfl,by simp[e]⟩
variable{i:a8}
theorem zxJ(ht:P.underlying t=some (.slice e))(hz:P.cellsOf e≠0)(ho:o.op=.indexAddr t x i)(h:step P seq (.gZ (P.cellsOf e) x i) env H K):Sound P o env H K:=by
 simp only[step,gB] at h;obtain⟨ei,gT,iO⟩:=yh hz;have run:∀(w:ba) (a:Act) (k:IntKind) (z:Int) (ad:Addr) (n c:Nat),a.eval x=.slice (some ad) n c->a.eval i=.int k z->0<=z->z<n->(execOp a.eval o).run P w=.ok (.value (.pointer<|some<|ad.add<|z.toNat * P.cellsOf e)) w:=by
  intro w a k z ad n c h1 h2 h3 h4;simp[execOp,ho,h1,h2,Instr.indexAt,asIntOf,underlying,program,Sem.run,ht,pure,h3,h4,tx gT,iO]
 clear gT iO;generalize hE:P.cellsOf e=ez0 at h run hz;split at h
 ·rename_i k z ez;split at h
  ·rename_i lU xs ex;obtain⟨h3,h0,row,h1,h2⟩:=(qP _ _ _).1 h;refine ga h2 λJ F w a G aC aU cW=>?_;have k1:=aU x (by simp[ho,Op.operands]);have k2:=aU i (by simp[ho,Op.operands]);rw[ex] at k1;rw[ez] at k2;simp only[rep] at k1 k2;obtain⟨A,n,c,q1,q2,_,q3⟩:=k1;have ck:z.toNat<xs.length:=by
    rcases dY z.toNat xs.length with h|h
    ·exact h
    rw[cY h] at h1;cases h1
   rcases q3 with q3|⟨b,o',q4,q5,q6⟩
   ·omega
   subst q4;obtain⟨r1,r2⟩:=vm xs o' z.toNat row h1 q6;refine⟨_,run w a k z _ n c q1 k2 h0<|by omega,?_⟩;simp only[rep];exact⟨b,_,by rw[oa,h3],q5,r2⟩
  ·rename_i id aw lo hi ex;obtain⟨ob,h1,h2⟩:=(lB _ _ _).1 h;split at h2
   ·rename_i m cf ak xs;obtain⟨rfl,h2⟩:=h2;obtain⟨h3,h4,h5,h6⟩:=(qP _ _ _).1 h2;refine ga h6 λJ F w a G aC aU cW=>?_;have k1:=aU x (by simp[ho,Op.operands]);have k2:=aU i (by simp[ho,Op.operands]);rw[ex] at k1;rw[ez] at k2;simp only[rep] at k1 k2;obtain⟨s,A,n,c,q1,q2,q3,q4⟩:=k1;have hG:G id=some (.vec m aw ak xs):=(by rw[cW id<|by simp];exact h1);obtain⟨p1,p2,p3,p4,p5,-⟩:=wq aC q1 hG;obtain⟨t1,t2,t3,t4,t5,t6⟩:=q4 p2.symm;rcases t6 with t6|⟨b,o',t6,t7⟩
    ·omega
    subst t7;refine⟨_,run w a k z _ n c q2 k2 h4<|by omega,?_⟩;simp only[rep];refine⟨s,_,q1,rfl,q3,λ_=>⟨b,o',t1,t6,by omega,?_⟩⟩;rw[oa,p3,<-h3,jw];simp only[Addr.mk.injEq,and_true,true_and];omega
   exact h2.elim
  exact h.elim
 exact h.elim
variable{n:Nat}
theorem Zk(ht:P.underlying t=some (.array n e))(hz:P.cellsOf e≠0)(ho:o.op=.indexAddr t x i)(h:step P seq (.OF n (P.cellsOf e) x i) env H K):Sound P o env H K:=by
 simp only[step,gB] at h;obtain⟨ei,gT,iO⟩:=yh hz;split at h
 ·rename_i k z ez;obtain⟨h0,h1,h⟩:=h;have h':Cc (fU env x) (z.toNat * P.cellsOf e) λd=>K d H [] []:=by
   unfold Cc;split at h<;>simp_all
  obtain⟨d',hK,hr⟩:=UG h';refine ga hK λJ F w a G aC aU cW=>?_;obtain⟨ad,e1,k1⟩:=hr J F w _<|aU x (by simp[ho,Op.operands]);have k2:=aU i (by simp[ho,Op.operands]);rw[ez] at k2;simp only[rep] at k2;refine⟨_,?_,k1⟩;simp[execOp,ho,e1,k2,Instr.indexAt,Instr.sureAddr,asIntOf,underlying,program,Sem.run,ht,pure,h0,h1,tx gT,iO]
 exact h.elim
theorem zAV{args:Array a8}{ts:Array bl}(ha:args.toList=[x])(ko:ts.toList=[t])(ht:P.underlying t=some (.slice e))(ho:o.op=.call { callee:=.builtin .len,args,argTypes:=ts })(h:step P seq (.len x) env H K):Sound P o env H K:=by
 have ea:args=#[x]:=Array.ext' (by simpa using ha);have et:ts=#[t]:=Array.ext' (by simpa using ko);subst ea et;have run:∀(w:ba) (a:Act) (A:Option Addr) (n c:Nat),a.eval x=.slice A n c->(execOp a.eval o).run P w=.ok (.value (.int .i64 n)) w:=by
  intro w a A n c h1;simp[execOp,ho,resolve,invoke,builtin,Builtin.len_,h1,Sem.run,pure,underlying,program,ht,goInt]
 simp only[step,gB] at h;split at h
 ·rename_i ak xs e1;refine ga h λJ F w a G aC aU cW=>?_;have k1:=aU x (by simp[ho,Op.operands,Call.operands]);rw[e1] at k1;simp only[rep] at k1;obtain⟨A,n,c,q1,rfl,_⟩:=k1;exact⟨_,run w a A _ c q1,rfl⟩
 ·rename_i id aw lo hi e1;obtain⟨ob,h1,h2⟩:=(lB _ _ _).1 h;split at h2
  ·rename_i m cf ak xs;obtain⟨rfl,h2⟩:=h2;refine ga h2 λJ F w a G aC aU cW=>?_;have k1:=aU x (by simp[ho,Op.operands,Call.operands]);rw[e1] at k1;simp only[rep] at k1;obtain⟨s,A,n,c,q1,q2,q3,q4⟩:=k1;have hG:G id=some (.vec m aw ak xs):=(by rw[cW id<|by simp];exact h1);obtain⟨p1,p2,_⟩:=wq aC q1 hG;obtain⟨_,_,_,rfl,_⟩:=q4 p2.symm;exact⟨_,run w a A _ c q2,rfl⟩
  exact h2.elim
 ·rename_i e1;refine ga h λJ F w a G aC aU cW=>?_;have k1:=aU x (by simp[ho,Op.operands,Call.operands]);rw[e1] at k1;simp only[rep] at k1;exact⟨_,run w a _ 0 0 k1,rfl⟩
 exact h.elim
theorem wU{x:Option a8}{dflt:Nat}{K':Nat->Prop}(h:uh env x dflt K'):∃n,K' n /\
  ∀(J:bf) (F:Nat->Prop) (w:ba) (a:Act),(∀y∈x.toList,rep J F w (fU env y)<|a.eval y)->(x=none/\n=dflt)\/∃y k,x=some y/\a.eval y=.int k n:=by
 unfold uh at h
 cases x with
 |none=>exact⟨dflt,h,λJ F w a _=>.inl ⟨rfl,rfl⟩⟩
 |some y =>
  simp only[gB] at h;split at h
  ·rename_i k i e;refine⟨i.toNat,h.2,λJ F w a hy=>.inr ⟨y,k,rfl,?_⟩⟩;have:=hy y (by simp);rw[e] at this;simp only[rep] at this;rw[this,ui h.1]
  exact h.elim
theorem Ty{i:TypeInfo}(ht:P.underlying t=some (.slice e))(hi:P.info? e=some i)(A:Option Addr)(len cap l h:Nat)(lo aW:Option aP)(w:ba)
  (h1:(lo=none/\l=0)\/∃k,lo=some (.int k l)) (h2:(aW=none/\h=len)\/∃k,aW=some (.int k h)) (NI:l<=h) (hc:h<=cap) :
  (Instr.sliceAt t (.slice A len cap) lo aW none).run P w=.ok (.slice (if cap=l then A else A.map (·.add (l*i.size))) (h-l)<|cap-l) w:=by
 have hb:(Instr.sliceBounds true len cap lo aW none).run P w=.ok (l,h,cap) w:=by
  rcases h1 with⟨rfl,rfl⟩|⟨k,rfl⟩<;>rcases h2 with⟨rfl,rfl⟩|⟨k',rfl⟩ <;>
   simp[Instr.sliceBounds,Instr.sliceBound,asIntOf,pure,Sem.run,NI,hc]
 simp[Instr.sliceAt,Instr.slice,underlying,program,Sem.run,ht,pure,hb,tx hi]
theorem Bh{b o:Nat}(h:fD J F w b ak xs o)(l n:Nat):fD J F w b ak ((xs.take n).drop l)<|o+l*ak:=by
 refine vg _ _ λj x hx=>?_;have h1:xs[l+j]? = some x:=by
  rw[xb,y9] at hx;split at hx
  ·exact hx
  cases hx
 have:=vm xs o (l+j) x h1 h;rwa [jw,<-DN] at this
theorem zAP{lo hi mx:Option a8}(ht:P.underlying t=some (.slice e))(hz:0<P.cellsOf e)(ho:o.op=.slice t x lo hi mx)(h:step P seq (.slc (P.cellsOf e) x lo hi mx) env H K):Sound P o env H K:=by
 simp only[step,gB] at h;obtain⟨ei,gT,iO⟩:=yh (e:=e) (P:=P) (by omega);split at h
 ·rename_i lU xs e1;obtain⟨h3,h⟩:=(qP _ _ _).1 h;obtain⟨n,h,hn⟩:=wU h;obtain⟨l,⟨h4,h5,h6⟩,hl⟩:=wU h;refine ga h6 λJ F w a G aC aU cW=>?_;have k1:=aU x (by simp[ho,Op.operands]);rw[e1] at k1;simp only[rep] at k1;obtain⟨A,len,c,q1,q2,qc,q3⟩:=k1;have fk:=hn J F w a λy hy=>aU y (by simp[ho,Op.operands];exact .inr (.inr<|by simpa using hy));have iS:=hl J F w a λy hy=>aU y (by simp[ho,Op.operands];exact .inr (.inl<|by simpa using hy));refine⟨.slice (if c=l then A else A.map (·.add (l*ei.size))) (n-l)<|c-l,?_,?_⟩
  ·have:=Ty (P:=P) ht gT A len c l n (lo.map a.eval) (hi.map a.eval) w
    (by rcases iS with⟨rfl,rfl⟩|⟨y,k,rfl,q⟩
        ·exact .inl ⟨rfl,rfl⟩
        exact .inr ⟨k,by simp[q]⟩)
    (by rcases fk with⟨rfl,rfl⟩|⟨y,k,rfl,q⟩
        ·exact .inl ⟨rfl,q2.symm⟩
        exact .inr ⟨k,by simp[q]⟩) h4 (by omega)
   simp[execOp,ho,q1,this,Sem.run,pure]
  simp only[rep];refine⟨_,_,_,rfl,by simp[lL,gA];omega,by omega,?_⟩;rcases q3 with q3|⟨b,o',rfl,q5,q6⟩
  ·exact .inl<|by omega
  by_cases gw:c=l
  ·exact .inl<|by omega
  rw[ab gw];exact .inr ⟨b,_,by simp only[x5,oa,iO,h3],q5,Bh q6 l n⟩
 ·rename_i lU xs m e1;split at h
  ·exact h.elim
  rename_i aW;obtain⟨h3,h⟩:=(qP _ _ _).1 h;obtain⟨n,h,hn⟩:=wU h;obtain⟨l,h,hl⟩:=wU h;obtain⟨mm,⟨h4,h5,h6,h7⟩,hm⟩:=wU h;refine ga h7 λJ F w a G aC aU cW=>?_;have k1:=aU x (by simp[ho,Op.operands]);rw[e1] at k1;simp only[rep] at k1;obtain⟨A,len,c,q1,q2,qc,q3⟩:=k1;have fk:=hn J F w a λy hy=>aU y (by simp[ho,Op.operands] at hy⊢;simp[hy]);have iS:=hl J F w a λy hy=>aU y (by simp[ho,Op.operands] at hy⊢;simp[hy]);have uE:=hm J F w a λy hy=>aU y (by simp[ho,Op.operands] at hy⊢;simp[hy]);rcases fk with⟨q,_⟩|⟨y1,kh,q,hv⟩
  ·cases q
  cases q;rcases uE with⟨q,_⟩|⟨y2,km,q,mv⟩
  ·cases q
  cases q;refine⟨.slice (if mm=l then A else A.map (·.add (l*ei.size))) (n-l)<|mm-l,?_,?_⟩
  ·have hb:(Instr.sliceBounds true len c (lo.map a.eval) (some (.int kh n))<|some (.int km mm)).run P w=.ok (l,n,mm) w:=by
    have Ql:mm<=c:=(by omega);rcases iS with⟨rfl,rfl⟩|⟨y,k,rfl,q⟩
    ·simp[Instr.sliceBounds,Instr.sliceBound,asIntOf,pure,Sem.run,h5,Ql]
    simp[Instr.sliceBounds,Instr.sliceBound,asIntOf,pure,Sem.run,h4,h5,Ql,q]
   simp[execOp,ho,q1,hv,mv,Instr.sliceAt,Instr.slice,underlying,program,Sem.run,ht,pure,hb,tx gT]
  simp only[rep];refine⟨_,_,_,rfl,by simp[lL,gA];omega,by omega,?_⟩;rcases q3 with q3|⟨b,o',rfl,q5,q6⟩
  ·exact .inl<|by omega
  by_cases gw:mm=l
  ·exact .inl<|by omega
  rw[ab gw];exact .inr ⟨b,_,by simp only[x5,oa,iO,h3],q5,Bh q6 l n⟩
 ·rename_i id aw p q e1;obtain⟨ob,h1,h2⟩:=(lB _ _ _).1 h;split at h2
  ·rename_i m cf ak xs;obtain⟨rfl,h2⟩:=h2;obtain⟨h3,h⟩:=(qP _ _ _).1 h2;obtain⟨n,h,hn⟩:=wU h;obtain⟨l,⟨h4,h5,h6⟩,hl⟩:=wU h;refine ga h6 λJ F w a G aC aU cW=>?_;have k1:=aU x (by simp[ho,Op.operands]);rw[e1] at k1;simp only[rep] at k1;obtain⟨s,A,len,c,q1,q2,q3,q4⟩:=k1;have hG:G id=some (.vec m aw ak xs):=(by rw[cW id<|by simp];exact h1);obtain⟨p1,p2,p3,p4,p5,-⟩:=wq aC q1 hG;obtain⟨t1,t2,t3,t4,t5,t6⟩:=q4 p2.symm;have T6:=Lib.hid t6;clear t6;have fk:=hn J F w a λy hy=>aU y (by simp[ho,Op.operands];exact .inr (.inr<|by simpa using hy));have iS:=hl J F w a λy hy=>aU y (by simp[ho,Op.operands];exact .inr (.inl<|by simpa using hy));refine⟨.slice (if c=l then A else A.map (·.add (l*ei.size))) (n-l)<|c-l,?_,?_⟩
   ·have:=Ty (P:=P) ht gT A len c l n (lo.map a.eval) (hi.map a.eval) w
     (by rcases iS with⟨rfl,rfl⟩|⟨y,k,rfl,q⟩
         ·exact .inl ⟨rfl,rfl⟩
         exact .inr ⟨k,by simp[q]⟩)
     (by rcases fk with⟨rfl,rfl⟩|⟨y,k,rfl,q⟩
         ·exact .inl ⟨rfl,by omega⟩
         exact .inr ⟨k,by simp[q]⟩) h4 (by omega)
    simp[execOp,ho,q2,this,Sem.run,pure]
   simp only[rep];refine⟨s,_,_,_,q1,rfl,q3,λ_=>⟨t1,by omega,by omega,by omega,by omega,?_⟩⟩;by_cases gw:c=l
   ·exact .inl<|by omega
   rcases T6.out with t6|⟨b,o',t6,rfl⟩
   ·exact .inl<|by omega
   rw[ab gw];refine .inr ⟨b,o',t6,?_⟩;simp only[x5,oa,iO,h3,p3,jw,DN]
  exact h2.elim
 exact h.elim
theorem zyH{lo hi:Option a8}(ht:P.underlying t=some .string)(ho:o.op=.slice t x lo hi none)(h:step P seq (.Kq x lo hi) env H K):Sound P o env H K:=by
 simp only[step,gB] at h;split at h
 ·rename_i s e1;obtain⟨n,h,hn⟩:=wU h;obtain⟨l,⟨h4,h5,h6⟩,hl⟩:=wU h;refine ga h6 λJ F w a G aC aU cW=>?_;have k1:=aU x (by simp[ho,Op.operands]);rw[e1] at k1;simp only[rep] at k1;have fk:=hn J F w a λy hy=>aU y (by simp[ho,Op.operands];exact .inr (.inr<|by simpa using hy));have iS:=hl J F w a λy hy=>aU y (by simp[ho,Op.operands];exact .inr (.inl<|by simpa using hy));refine⟨.string<|s.extract l n,?_,by simp only[rep]⟩;have hb:(Instr.sliceBounds false s.size s.size (lo.map a.eval) (hi.map a.eval) none).run P w=.ok (l,n,s.size) w:=by
   rcases iS with⟨rfl,rfl⟩|⟨y,k,rfl,q⟩<;>rcases fk with⟨rfl,rfl⟩|⟨y',k',rfl,q'⟩ <;>
    simp[Instr.sliceBounds,Instr.sliceBound,asIntOf,pure,Sem.run, *]
  simp[execOp,ho,k1,Instr.sliceAt,Instr.slice,underlying,program,Sem.run,ht,pure,hb]
 exact h.elim
variable{ds:List D}{vs:List aP}
theorem Lr(h:bB J F w ds vs)(n:Nat):bB J F w (ds.take n)<|vs.take n:=by
 have hl:=nh _ _ h;refine Ec _ _ (by simp[hl]) λj d v hd hv=>?_;rw[y9] at hd hv;split at hd
 ·rename_i hj;rw[ae hj] at hv;obtain⟨v',h1,h2⟩:=rN _ _ _ _ hd h;rw[hv] at h1;cases h1;exact h2
 cases hd
theorem Lk(h:bB J F w ds vs)(n:Nat):bB J F w (ds.drop n)<|vs.drop n:=by
 have hl:=nh _ _ h;refine Ec _ _ (by simp[hl]) λj d v hd hv=>?_;rw[xb] at hd hv;obtain⟨v',h1,h2⟩:=rN _ _ _ _ hd h;rw[hv] at h1;cases h1;exact h2
variable{ag:Bool}
theorem zwV(hs:P.underlying s=some (.struct fs))(hf:fs[f]? = some fd)(pM:pC P fd.type=some ag)(ho:o.op=.field s x f)(h:step P seq (.field fd.offset (P.cellsOf fd.type) ag x) env H K):Sound P o env H K:=by
 simp only[step,gB] at h;obtain⟨i,gT,iO⟩:=Od pM;split at h
 ·rename_i cs e1
  cases ag with
  |true =>
   simp only at h;obtain⟨h1,h2⟩:=(Af _ _ _).1 h;obtain⟨h3,h4⟩:=(BB _ _ _).1 h2;refine ga h4 λJ F w a G aC aU cW=>?_;have k1:=aU x (by simp[ho,Op.operands]);rw[e1] at k1;simp only[rep] at k1;obtain⟨vs,q1,q2⟩:=k1;refine⟨.agg ((vs.drop fd.offset).take<|P.cellsOf fd.type).toArray,?_,by simp only[rep];exact⟨_,rfl,Lr (Lk q2 _) _⟩⟩;have e2:vs.toArray.extract fd.offset (fd.offset+P.cellsOf fd.type)=((vs.drop fd.offset).take<|P.cellsOf fd.type).toArray:=by
    apply Array.ext';rw[List.extract_toArray];simp[List.extract_eq_take_drop]
   simp[execOp,ho,q1,Instr.field,asAgg,part,B3 pM,tx gT,iO,underlying,program,Sem.run,hs,hf,pure,e2]
  |false =>
   simp only at h;obtain⟨c,h1,h2⟩:=(vH _ _ _).1 h;refine ga h2 λJ F w a G aC aU cW=>?_;have k1:=aU x (by simp[ho,Op.operands]);rw[e1] at k1;simp only[rep] at k1;obtain⟨vs,q1,q2⟩:=k1;obtain⟨v,q3,q4⟩:=rN _ _ _ _ h1 q2;refine⟨v,?_,q4⟩;simp[execOp,ho,q1,Instr.field,asAgg,part,B3 pM,underlying,program,Sem.run,hs,hf,pure,q3]
 exact h.elim
theorem zyA(ht:P.underlying t=some (.array n e))(pM:pC P e=some ag)(ho:o.op=.index t x i)(h:step P seq (.Cf n (P.cellsOf e) ag x i) env H K):Sound P o env H K:=by
 simp only[step,gB] at h;obtain⟨ie,gT,iO⟩:=Od pM;split at h
 ·rename_i k z e2;split at h
  ·rename_i cs e1;obtain⟨h0,hz,h⟩:=h
   cases ag with
   |true =>
    simp only at h;obtain⟨h1,h2⟩:=(Af _ _ _).1 h;obtain⟨h3,h4⟩:=(BB _ _ _).1 h2;refine ga h4 λJ F w a G aC aU cW=>?_;have k1:=aU x (by simp[ho,Op.operands]);have k2:=aU i (by simp[ho,Op.operands]);rw[e1] at k1;rw[e2] at k2;simp only[rep] at k1 k2;obtain⟨vs,q1,q2⟩:=k1;refine⟨.agg ((vs.drop<|z.toNat * P.cellsOf e).take<|P.cellsOf e).toArray,?_,by simp only[rep];exact⟨_,rfl,Lr (Lk q2 _) _⟩⟩;have e3:vs.toArray.extract (z.toNat * P.cellsOf e) (z.toNat * P.cellsOf e+P.cellsOf e)=((vs.drop<|z.toNat * P.cellsOf e).take<|P.cellsOf e).toArray:=by
     apply Array.ext';rw[List.extract_toArray];simp[List.extract_eq_take_drop]
    simp[execOp,ho,q1,k2,Instr.index,asIntOf,part,B3 pM,tx gT,iO,underlying,program,Sem.run,ht,pure,e3,h0,hz]
   |false =>
    simp only at h;obtain⟨c,h1,h2⟩:=h;refine ga h2 λJ F w a G aC aU cW=>?_;have k1:=aU x (by simp[ho,Op.operands]);have k2:=aU i (by simp[ho,Op.operands]);rw[e1] at k1;rw[e2] at k2;simp only[rep] at k1 k2;obtain⟨vs,q1,q2⟩:=k1;obtain⟨v,q3,q4⟩:=rN _ _ _ _ h1 q2;refine⟨v,?_,q4⟩;simp[execOp,ho,q1,k2,Instr.index,asIntOf,part,B3 pM,tx gT,iO,underlying,program,Sem.run,ht,pure,q3,h0,hz]
  exact h.elim
 exact h.elim
end
end
section
variable{s:Site}
theorem rI(hJ:J.le J')(hF:∀b,F b->F' b)(hw:∀b,F b->w'.heap[b]? = w.heap[b]?){o:ao}(hb:∀b,s.c9=some b->w'.heap[b]? = w.heap[b]?)(h:oW J F w s o):oW J' F' w' s o:=by
 cases o with
 |row m cs =>
  obtain⟨h1,h2,h3,h4,h5,b,vals,te,h6,h7,h8,h9,fh⟩:=h;have AK:w'.heap[b]? = w.heap[b]?:=hb b (by simp[Site.c9,h1,h6]);exact⟨h1,h2,h3,h4,h5,b,vals,te,h6,by rw[AK];exact h7,h8,EN hJ hF hw b (AG AK) cs 0 h9,λq=>hF b<|fh q⟩
 |vec m aw ak xs =>
  obtain⟨h1,h2,h3,h4,h5,h6⟩:=h;refine⟨h1,h2,h3,h4,h5,?_⟩;by_cases hz:s.cap=0
  ·exact .inl hz
  obtain⟨b,o,vals,te,k1,k2,k3,k4,k5⟩:=h6.resolve_left hz;refine .inr ?_;have AK:w'.heap[b]? = w.heap[b]?:=hb b (by simp[Site.c9,hz,k1]);exact⟨b,o,vals,te,k1,by rw[AK];exact k2,k3,Js hJ hF hw b ak (AG AK) xs o k4,λq=>hF b<|k5 q⟩
 |eU m I =>
  obtain⟨h1,b,es,clock,h2,h3,h4⟩:=h;have AK:w'.heap[b]? = w.heap[b]?:=hb b (by simp[Site.c9,h1,h2]);exact⟨h1,b,es,clock,h2,by rw[AK];exact h3,h4⟩
variable{G:Nat->Option ao}
theorem cH.update{J':bf}{w':ba}{G':Nat->Option ao}(h:cH J F w G)(id:Nat)(s':Site)(o':ao)
  (Lt:∀i,J' i=if i=id then some s' else J i) (hG:∀i,G' i=if i=id then some o' else G i) (hle:J.le J')
  (hF:∀b,F b->w'.heap[b]? = w.heap[b]?) (fT:w.heap.size<=w'.heap.size)
  (hold:∀i s b,i≠id->J i=some s->s.c9=some b->w'.heap[b]? = w.heap[b]?)
  (kE:∀b,s'.c9=some b->w.heap.size<=b\/∃s,J id=some s/\s.c9=some b)
  (ck:∀i s b,J i=some s->s.c9=some b->b<w.heap.size)
  (za:∀b,s'.c9=some b->o'.mut->¬F b)
  (aC:oW J' F w' s' o'):cH J' F w' G' where
 obj i s hi:=by
  rw[Lt] at hi;by_cases e:i=id
  ·subst e;rw[ae rfl] at hi;cases hi;exact⟨o',by rw[hG,ae rfl],aC⟩
  rw[ab e] at hi;obtain⟨o,h1,h2⟩:=h.obj i s hi;exact⟨o,by rw[hG,ab e];exact h1,rI hle (λ_ h=>h) hF (λb hb=>hold i s b e hi hb) h2⟩
 one i i' s1 s2 b h1 h2 h3 h4:=by
  rw[Lt] at h1 h2;by_cases e:i=id<;>by_cases e':i'=id
  ·rw[e,e']
  ·rw[ae e] at h1;rw[ab e'] at h2;cases h1;rcases kE b h3 with q|⟨s,q1,q2⟩
   ·have:=ck i' s2 b h2 h4;omega
   rw[e];exact h.one id i' s s2 b q1 h2 q2 h4
  ·rw[ab e] at h1;rw[ae e'] at h2;cases h2;rcases kE b h4 with q|⟨s,q1,q2⟩
   ·have:=ck i s1 b h1 h3;omega
   rw[e'];exact h.one i id s1 s b h1 q1 h3 q2
  rw[ab e] at h1;rw[ab e'] at h2;exact h.one i i' s1 s2 b h1 h2 h3 h4
 apart i s b o hi hb hg hm:=by
  rw[Lt] at hi;rw[hG] at hg;by_cases e:i=id
  ·rw[ae e] at hi hg;cases hi;cases hg;exact za b hb hm
  rw[ab e] at hi hg;exact h.apart i s b o hi hb hg hm
 lt:=h.lt.mono (λ_ q=>q) hF λb hb=>vh (h.lt b hb) fT
variable{b:Nat}
theorem cH.jy(h:cH J F w G){i:Nat}(hi:J i=some s)(hb:s.c9=some b):b<w.heap.size:=by
 obtain⟨o,h1,h2⟩:=h.obj i s hi;have key:∀x:Nat,∀ob,w.heap[x]? = some ob->x<w.heap.size:=λx ob hx=>by
  rcases dY x w.heap.size with h|h
  ·exact h
  rw[yI h] at hx;cases hx
 cases o with
 |row m cs =>
  obtain⟨k1,_,_,_,_,b',vals,te,k6,k7,_⟩:=h2;simp[Site.c9,k1,k6] at hb;exact hb▸key _ _ k7
 |vec m aw ak xs =>
  obtain⟨k1,_,_,_,_,k6⟩:=h2;rcases k6 with k6|⟨b',o,vals,te,q1,q2,_⟩
  ·simp[Site.c9,k1,k6] at hb
  unfold Site.c9 at hb;split at hb
  ·cases hb
  simp[q1] at hb;exact hb▸key _ _ q2
 |eU m I =>
  obtain⟨k1,b',es,clock,q1,q2,_⟩:=h2;simp[Site.c9,k1,q1] at hb;exact hb▸key _ _ q2
theorem xP(w:ba)(o:Obj)(h:b<w.heap.size):(w.alloc o).heap[b]? = w.heap[b]?:=heap_alloc_old w o h
theorem cH.QM(h:cH J F w G)(id:Nat)(hid:J id=none)(s':Site)(o':ao)(ob:Obj)(Ay:s'.ad=some ⟨w.heap.size,0,none⟩)
  (aC:oW (λi=>if i=id then some s' else J i) F (w.alloc ob) s' o') :
  cH (λi=>if i=id then some s' else J i) F (w.alloc ob) (λi=>if i=id then some o' else G i) /\
   Ext J F w (λi=>if i=id then some s' else J i) F (w.alloc ob):=by
 have hle:J.le λi=>if i=id then some s' else J i:=λi s hi=>by
  have e:i≠id:=λe=>by rw[e,hid] at hi;cases hi
  exact⟨s,by simp[e,hi],aT _,λ_=>rfl⟩
 have rr:∀b,s'.c9=some b->b=w.heap.size:=λb hb=>by
  unfold Site.c9 at hb;split at hb
  ·cases hb
  simpa [Ay] using hb.symm
 refine⟨h.update id s' o' (λ_=>rfl) (λ_=>rfl) hle (λb hb=>xP w _<|h.lt b hb) (by simp) (λi s b _ hi hb=>xP w _<|h.jy hi hb) (λb hb=>.inl<|by rw[rr b hb];exact aT _) (λi s b hi hb=>h.jy hi hb) (λb hb _ hF=>?_) aC,?_⟩
 ·have:=h.lt b hF;rw[rr b hb] at this;omega
 exact⟨rfl,rfl,rfl,by simp,λb hb _=>xP w _ hb,λb hb=>xP w _<|h.lt b hb,hle,λ_ h=>h,λb ⟨i,s,hi,hb⟩=>by
  dsimp only at hi;by_cases e:i=id
  ·rw[ae e] at hi;cases hi;exact .inr<|by rw[rr b hb];exact aT _
  rw[ab e] at hi;exact .inl ⟨i,s,hi,hb⟩,λb hb=>.inl hb⟩
theorem cH.alloc{J:bf}{F:Nat->Prop}{w:ba}{G:Nat->Option ao}(h:cH J F w G)(id:Nat)(hid:J id=none)(s':Site)(o':ao)(vals:Array aP)(te:bl)(Ay:s'.ad=some ⟨w.heap.size,0,none⟩)
  (aC:oW (λi=>if i=id then some s' else J i) F (w.alloc (.cells vals te)) s' o') :
  cH (λi=>if i=id then some s' else J i) F (w.alloc (.cells vals te)) (λi=>if i=id then some o' else G i) /\
   Ext J F w (λi=>if i=id then some s' else J i) F (w.alloc (.cells vals te)):=h.QM id hid s' o' _ Ay aC
section
variable{J:bf}{F:Nat->Prop}{w:ba}
theorem Y5{cs:List D}{vs:List aP}(te:bl)(hJ:J.le J')(ck:∀b,F b->b<w.heap.size)(h1:∀v∈vs,gE v)(h:bB J F w cs vs) :
  eY J' F (w.alloc (.cells vs.toArray te)) w.heap.size cs 0:=by
 have h':bB J' F (w.alloc (.cells vs.toArray te)) cs vs:=zY hJ (λ_ h=>h) (λb hb=>xP w _<|ck b hb) _ _ h;refine rv _ _ λj c hc=>?_;obtain⟨v,h3,h2⟩:=rN _ _ _ _ hc h';exact⟨v,by simp[h3],h1 v<|nB h3,h2⟩
end
theorem T5(h:cH J F w G)(id:Nat)(hid:J id=none){cs:List D}{vs:List aP}(te:bl)(h0:∀v∈vs,gE v)(hr:bB J F w cs vs) :
  ∃J',cH J' F (w.alloc (.cells vs.toArray te)) (λi=>if i=id then some (.row true cs) else G i)/\Ext J F w J' F (w.alloc (.cells vs.toArray te)) /\
   (∀i,i≠id->J' i=J i)/\rep J' F (w.alloc (.cells vs.toArray te)) (.loc id 0) (.pointer<|some ⟨w.heap.size,0,none⟩):=by
 have hle:J.le λi=>if i=id then some ⟨true,0,some ⟨w.heap.size,0,none⟩,1,cs.length,cs.length⟩ else J i:=λi s hi=>by
  have e:i≠id:=λe=>by rw[e,hid] at hi;cases hi
  exact⟨s,by simp[e,hi],aT _,λ_=>rfl⟩
 obtain⟨h1,h2⟩:=h.alloc id hid ⟨true,0,some ⟨w.heap.size,0,none⟩,1,cs.length,cs.length⟩ (.row true cs) vs.toArray te rfl
  ⟨rfl,rfl,rfl,rfl,rfl,w.heap.size,vs.toArray,te,rfl,heap_alloc_new w _,by simp[nh _ _ hr],Y5 te hle h.lt h0 hr,λq=>by cases q⟩
 refine⟨_,h1,h2,λi hi=>by simp[hi],?_⟩;simp only[rep];exact⟨_,w.heap.size,by simp;rfl,rfl,rfl,rfl⟩
section
variable{P:bI}{seq:Bool}{o:Oper}{env:Env}{H:List ao}{K:pQ}
theorem Jj(G:Nat->Option ao)(H2:List ao)(id:Nat)(ob:ao)(h:H2[id]? = some ob):upd G [id] H2=λi=>if i=id then some ob else G i:=by
 funext i;simp only[upd,cB];split
 ·rename_i e;rw[e,h]
 rfl
variable{d:D}
theorem CR{ob:ao}{rd:List Nat}(hK:K d (H++[ob]) rd [H.length])
  (h:∀(J:bf) (F:Nat->Prop) (w:ba) (a:Act) (G:Nat->Option ao),cH J F w G->(∀x∈o.op.operands,rep J F w (fU env x)<|a.eval x)->(∀id∈rd,G id=H[id]?)->J H.length=none ->
   ∃v w' J' F',(execOp a.eval o).run P w=.ok (.value v) w'/\rep J' F' w' d v/\cH J' F' w' (λi=>if i=H.length then some ob else G i)/\Ext J F w J' F' w'/\(∀i,i≠H.length->J' i=J i)):Sound P o env H K:=by
 refine⟨d,H++[ob],rd,[H.length],⟨λid hid=>?_,by simp,λid hid=>by simp at hid;simp[hid],λJ F w a G aC aU cW o7 K Q hK=>?_⟩,hK⟩
 ·simp at hid;rcases dY id H.length with hl|hl
  ·rw[fv hl]
  rw[cY<|by simp;omega,cY hl]
 obtain⟨v,w',J',F',h1,h2,h3,h4,h5⟩:=h J F w a G aC aU (λid hid=>cW id (.inl hid))<|o7 _ (aT _) (by simp);unfold Oper.wp;rw[h1,Oper.upon_value];refine hK v w' J' F' h2 ?_ h4 λid hid hn=>?_
 ·rw[Jj G _ H.length ob<|by simp];exact h3
 rw[h5 id<|by simpa using hn];exact hid
variable{t:bl}{z:aP}
theorem Hi(h:(P.info? t).bind (·.zero)=some z):(zeroValue t).run P w=.ok z w:=by
 cases e:P.info? t with
 |none=>rw[e] at h;cases h
 |some i =>
  rw[e] at h;simp at h;simp[zeroValue,typeInfo,program,Sem.run,e,h,pure]
theorem CK{J:bf}{F:Nat->Prop}{w:ba}:∀vs:List aP,bB J F w (vs.map .sc) vs
 |[]=>by simp only[gm,bB]
 |v::r=>by simp only[fi,bB];exact⟨v,r,rfl,by simp only[rep],CK r⟩
theorem zxt(hz:(P.info? t).bind (·.zero)=some z)(ue:z.cells.toList.all gE)(ho:o.op=.alloc t)(h:step P seq (.alloc z.cells.toList) env H K):Sound P o env H K:=by
 simp only[step,IA,xX] at h;refine CR h λJ F w a G aC aU cW hn=>?_;obtain⟨J',h1,h2,h3,h4⟩:=T5 aC H.length hn t (λv hv=>ki.1 ue v hv)<|CK z.cells.toList;refine⟨_,_,J',F,?_,h4,h1,h2,h3⟩;simp[execOp,ho,Instr.alloc,Hi hz,newVar,newRow,newObj,Sem.run,pure]
theorem CZ{v:aP}(hs:storable d)(h:rep J F w d v):bB J F w d.cells v.cells.toList/\∀u∈v.cells.toList,gE u:=by
 have one:wj d->(∀cs,d≠.agg cs)->bB J F w d.cells v.cells.toList/\∀u∈v.cells.toList,gE u:=by
  intro h1 h2;have h3:=UE h1 h;have e1:v.cells=#[v]:=by cases v<;>first|rfl|simp[gE] at h3
  have e2:d.cells=[d]:=by cases d<;>first|rfl|exact absurd rfl (h2 _)
  rw[e1,e2];refine⟨by simp only[bB];exact⟨v,[],rfl,h,rfl⟩,λu hu=>?_⟩;simp at hu;rw[hu];exact h3
 cases d with
 |agg cs =>
  simp only[rep] at h;obtain⟨vs,rfl,k⟩:=h;refine⟨by simpa [D.cells,Value.cells] using k,λu hu=>?_⟩;simp[Value.cells] at hu;obtain⟨j,hj,e⟩:=jN.1 hu;have jf:j<cs.length:=(by rw[<-nh _ _ k];exact hj);obtain⟨u',q1,q2⟩:=rN _ _ _ _ (aJ jf) k;rw[aJ hj,e] at q1;cases q1;exact UE (R3 cs hs _<|ib jf) q2
 |_=>exact one hs<|by intro cs h;cases h
theorem zA1{x:a8}(ho:o.op=.box t x)(h:step P seq (.box x) env H K):Sound P o env H K:=by
 simp only[step,gB,G8,xX] at h;obtain⟨h0,h⟩:=h;refine CR h λJ F w a G aC aU cW hn=>?_;obtain⟨k1,k0⟩:=CZ h0<|aU x (by simp[ho,Op.operands]);obtain⟨J',h1,h2,h3,h4⟩:=T5 aC H.length hn t k0 k1;refine⟨_,_,J',F,?_,h4,h1,h2,h3⟩;simp[execOp,ho,Instr.box,newVar,newRow,newObj,Sem.run,pure]
end
end
section
theorem Si(off:Nat):∀(l:List aP) (n:Nat) (cells:Array aP),off+n+l.length<=cells.size ->
  ((l.zipIdx n).foldl (λ(cs:Array aP) (p:aP×Nat)=>cs.setIfInBounds (off+p.2) p.1) cells).size=cells.size /\
  ∀i,((l.zipIdx n).foldl (λ(cs:Array aP) (p:aP×Nat)=>cs.setIfInBounds (off+p.2) p.1) cells)[i]? = if off+n<=i/\i<off+n+l.length then l[i-(off+n)]? else cells[i]?
 |[],n,cells,_=>⟨rfl,λi=>by simp;intro h1 h2;omega⟩
 |c::r,n,cells,h=>by
  simp only[List.zipIdx_cons,List.foldl_cons];simp only[bH] at h;obtain⟨k1,k2⟩:=Si off r (n+1) (cells.setIfInBounds (off+n) c) (by simp;omega);refine⟨by rw[k1];simp,λi=>?_⟩;rw[k2];by_cases h1:i=off+n
  ·subst h1;rw[ab<|by omega,ae<|by simp];simp[JC,show off+n<cells.size by omega]
  by_cases h2:off+(n+1)<=i/\i<off+(n+1)+r.length
  ·rw[ae h2,ae<|by simp;omega,show i-(off+n)=i-(off+(n+1))+1 by omega,E9]
  rw[ab h2,ab<|by simp;omega,HE<|by omega]
theorem DT(place:Nat->Option (Nat×Nat))(cells:Array aP)(i:Nat)(v:aP)(rest:List<|Nat×aP)(off:Nat)(hp:place i=some (off,v.cells.size))(hb:off+v.cells.size<=cells.size) :
  ∃uv,Instr.fill place cells ((i,v)::rest)=Instr.fill place uv rest/\uv.size=cells.size/\∀j,uv[j]? = if off<=j/\j<off+v.cells.size then v.cells[j-off]? else cells[j]?:=by
 obtain⟨h1,h2⟩:=Si off v.cells.toList 0 cells (by simpa using hb);refine⟨(v.cells.toList.zipIdx 0).foldl (λ(cs:Array aP) (p:aP×Nat)=>cs.setIfInBounds (off+p.2) p.1) cells,?_,h1,λj=>by simpa using h2 j⟩;simp only[Instr.fill,hp];rw[ab<|by simp;omega]
 congr 1
 rw[<-Array.foldl_toList,Array.toList_zipIdx]
theorem G4:∀(l:List<|Nat×a8) (k:Nat) (xs:List a8),xN k l=some xs->l=(xs.zipIdx k).map λp=>(p.2,p.1)
 |[],k,xs,h=>by simp[xN] at h;subst h;rfl
 |(i,x)::r,k,xs,h=>by
  simp only[xN] at h;split at h
  ·rename_i e
   cases e2:xN (k+1) r with
   |none=>rw[e2] at h;cases h
   |some ys =>
    rw[e2] at h;simp at h;subst h;subst e;rw[G4 r (i+1) ys e2];simp
  cases h
theorem Qi(ak:Nat):∀(vs:List aP) (k:Nat) (cells:Array aP),(∀v∈vs,v.cells.size=ak)->(k+vs.length)*ak<=cells.size ->
  ∃uv,Instr.fill (λi=>some (i*ak,ak)) cells ((vs.zipIdx k).map λp=>(p.2,p.1))=some uv/\uv.size=cells.size/\(∀j,j<k*ak->uv[j]? = cells[j]?) /\
   ∀i v j c,vs[i]? = some v->v.cells[j]? = some c->uv[(k+i)*ak+j]? = some c
 |[],k,cells,_,_=>⟨cells,rfl,rfl,λ_ _=>rfl,λi v j c h=>by simp at h⟩
 |v::r,k,cells,hv,hb=>by
  simp only[List.zipIdx_cons,fi];have hs:v.cells.size=ak:=hv v (by simp);simp only[bH] at hb;have hm:(k+(r.length+1))*ak=k*ak+ak+r.length*ak:=(by rw[jw,jw];omega);obtain⟨c1,e1,e2,e3⟩:=DT (λi=>some (i*ak,ak)) cells k v ((r.zipIdx<|k+1).map λp=>(p.2,p.1)) (k*ak) (by rw[hs]) (by omega);obtain⟨c2,f1,f2,f3,f4⟩:=Qi ak r (k+1) c1 (λu hu=>hv u<|by simp[hu]) (by rw[e2];rw[show k+1+r.length=k+(r.length+1) by omega];exact hb);refine⟨c2,by rw[e1];exact f1,by rw[f2,e2],λj hj=>?_,λi u j c hi hc=>?_⟩
  ·rw[f3 j<|by rw[jw];omega,e3,ab<|by omega]
  cases i with
  |zero =>
   simp at hi;subst hi;have hj:j<v.cells.size:=by
    rcases dY j v.cells.size with h|h
    ·exact h
    rw[yI h] at hc;cases hc
   rw[uL,f3 _<|by rw[jw];omega,e3,ae<|by omega,show k*ak+j-k*ak=j by omega];exact hc
  |succ i =>
   have:=f4 i u j c (by simpa using hi) hc;rwa [show k+1+i=k+(i+1) by omega] at this
theorem Oz{G:Nat->Option ao}(h:cH J F w G)(id:Nat)(hid:J id=none){ak cap:Nat}{xs:List<|List D}{vals:Array aP}(te:bl)
  (hlen:xs.length<=cap) (fT:cap*ak<=vals.size) (hx:∀(j:Nat) (x:List D),xs[j]? = some x->x.length=ak/\∀(k:Nat) (c:D),x[k]? = some c->∃u,vals[j*ak+k]? = some u/\gE u/\rep J F w c u) :
  ∃J',cH J' F (w.alloc (.cells vals te)) (λi=>if i=id then some (.vec true 0 ak xs) else G i)/\Ext J F w J' F (w.alloc (.cells vals te)) /\
   (∀i,i≠id->J' i=J i)/\rep J' F (w.alloc (.cells vals te)) (.own id 0 0 xs.length) (.slice (some ⟨w.heap.size,0,none⟩) xs.length cap):=by
 have hle:J.le λi=>if i=id then some ⟨false,0,some ⟨w.heap.size,0,none⟩,ak,cap,xs.length⟩ else J i:=λi s hi=>by
  have e:i≠id:=λe=>by rw[e,hid] at hi;cases hi
  exact⟨s,by simp[e,hi],aT _,λ_=>rfl⟩
 have Ff:fD (λi=>if i=id then some ⟨false,0,some ⟨w.heap.size,0,none⟩,ak,cap,xs.length⟩ else J i) F (w.alloc (.cells vals te)) w.heap.size ak xs 0:=by
  refine vg _ _ λj x hj=>?_;obtain⟨k1,k2⟩:=hx j x hj;refine⟨k1,rv _ _ λk c hc=>?_⟩;obtain⟨u,q1,q0,q2⟩:=k2 k c hc;exact⟨u,by simp[q1],q0,kq hle (λ_ h=>h) (λb hb=>xP w _<|h.lt b hb) _ _ q2⟩
 obtain⟨h1,h2⟩:=h.alloc id hid ⟨false,0,some ⟨w.heap.size,0,none⟩,ak,cap,xs.length⟩ (.vec true 0 ak xs) vals te rfl
  ⟨rfl,rfl,rfl,rfl,hlen,.inr ⟨w.heap.size,0,vals,te,rfl,heap_alloc_new w _,by simpa using fT,Ff,λq=>by cases q⟩⟩
 refine⟨_,h1,h2,λi hi=>by simp[hi],?_⟩;simp only[rep];exact⟨_,_,_,_,by simp;rfl,rfl,aT _,λ_=>⟨rfl,jr _,aT _,by simp,by simp,.inr ⟨w.heap.size,0,rfl,by simp⟩⟩⟩
section
variable{P:bI}{seq:Bool}{o:Oper}{env:Env}{H:List ao}{K:pQ}
theorem SJ(ak:Nat):∀(xs:List a8) (K':List (List D)->Prop),GM env ak xs K'->(∀x∈xs,storable (fU env x)/\ak=(fU env x).cells.length)/\K' (xs.map λx=>(fU env x).cells)
 |[],K',h=>⟨(λ_ h=>by cases h),h⟩
 |x::r,K',h=>by
  simp only[GM,gB,G8,qP] at h;obtain⟨h1,h2,h3⟩:=h;obtain⟨h4,h5⟩:=SJ ak r _ h3;refine⟨λy hy=>?_,h5⟩;rcases dZ.1 hy with rfl|hy
  ·exact⟨h1,h2⟩
  exact h4 y hy
theorem ztP(J:bf)(F:Nat->Prop)(w:ba)(z:aP):rep J F w (lift z) z:=by
 unfold lift;split
 ·rename_i cs;simp only[rep];exact⟨cs.toList,rfl,CK _⟩
 simp only[rep]
theorem KP{z:aP}{ak:Nat}(f:a8->aP)(hz:f (.const z)=z):∀(m k:Nat) (l:List<|Nat×a8) (xs:List a8) (cells:Array aP),lg z k m l=some xs->(∀x∈xs,(f x).cells.size=ak)->(k+m)*ak<=cells.size ->
  (∀i j,k<=i->i<k+m->j<ak->z.cells.size=ak->cells[i*ak+j]? = z.cells[j]?) ->
  xs.length=m/\(∀x∈xs,x=.const z\/∃i,(i,x)∈l)/\Instr.fill (λi=>some (i*ak,ak)) cells (l.map λp=>(p.1,f p.2))=Instr.fill (λi=>some (i*ak,ak)) cells (((xs.map f).zipIdx k).map λp=>(p.2,p.1))
 |0,k,[],xs,cells,h,_,_,_=>by simp[lg] at h;subst h;exact⟨rfl,by simp,rfl⟩
 |0,k,_::_,xs,cells,h,_,_,_=>by simp[lg] at h
 |m+1,k,l,xs,cells,h,hs,hb,hc=>by
  have hm:(k+(m+1))*ak=k*ak+ak+m*ak:=(by rw[jw,jw];omega);have fz:(k+1)*ak=k*ak+ak:=(by rw[jw];omega);have zero:∀ys,lg z (k+1) m l=some ys->xs=.const z::ys->xs.length=m+1/\(∀x∈xs,x=.const z\/∃i,(i,x)∈l)/\Instr.fill (λi=>some (i*ak,ak)) cells (l.map λp=>(p.1,f p.2))=Instr.fill (λi=>some (i*ak,ak)) cells (((xs.map f).zipIdx k).map λp=>(p.2,p.1)):=λys hy e=>by
   subst e;have qZ:z.cells.size=ak:=(by have:=hs (.const z) (by simp);rwa [hz] at this);obtain⟨h1,h2,h3⟩:=KP f hz m (k+1) l ys cells hy (λx hx=>hs x<|by simp[hx]) (by rw[show k+1+m=k+(m+1) by omega];exact hb) λi j gT iO hj hz=>hc i j (by omega) (by omega) hj hz;refine⟨by simp[h1],λx hx=>?_,?_⟩
   ·rcases dZ.1 hx with rfl|hx
    ·exact .inl rfl
    exact h2 x hx
   rw[h3,fi,List.zipIdx_cons,fi,hz];obtain⟨c1,e1,e2,e3⟩:=DT (λi=>some (i*ak,ak)) cells k z (((ys.map f).zipIdx<|k+1).map λp=>(p.2,p.1)) (k*ak) (by rw[qZ]) (by omega);refine Eq.trans ?_ e1.symm
   congr 1
   refine Array.ext_getElem? λj=>?_;rw[e3];by_cases hj:k*ak<=j/\j<k*ak+z.cells.size
   ·rw[ae hj,<-hc k (j-k*ak) (aT _) (by omega) (by omega) qZ]
    congr 1
    omega
   rw[ab hj]
  cases l with
  |nil =>
   simp only[lg] at h
   cases e:lg z (k+1) m [] with
   |none=>rw[e] at h;cases h
   |some ys=>rw[e] at h;exact zero ys e (tK h).symm
  |cons p r =>
   obtain⟨i,x⟩:=p;simp only[lg] at h;by_cases hi:i=k
   ·rw[ae hi] at h;subst hi
    cases e:lg z (i+1) m r with
    |none=>rw[e] at h;cases h
    |some ys =>
     rw[e] at h;have:=(tK h).symm;subst this;have nf:(f x).cells.size=ak:=hs x (by simp);obtain⟨c1,e1,e2,e3⟩:=DT (λi=>some (i*ak,ak)) cells i (f x) (r.map λp=>(p.1,f p.2)) (i*ak) (by rw[nf]) (by omega);obtain⟨d1,g1,_,g3⟩:=DT (λi=>some (i*ak,ak)) cells i (f x) (((ys.map f).zipIdx<|i+1).map λp=>(p.2,p.1)) (i*ak) (by rw[nf]) (by omega);have hcd:c1=d1:=Array.ext_getElem? λj=>by rw[e3,g3]
     subst hcd;obtain⟨h1,h2,h3⟩:=KP f hz m (i+1) r ys c1 e (λy hy=>hs y<|by simp[hy]) (by rw[show i+1+m=i+(m+1) by omega,e2];exact hb) λa j ha1 ha2 hj x6=>by
      have:(i+1)*ak<=a*ak:=tl _ ha1;rw[e3,ab<|by omega];exact hc a j (by omega) (by omega) hj x6
     refine⟨by simp[h1],λy hy=>?_,?_⟩
     ·rcases dZ.1 hy with rfl|hy
      ·exact .inr ⟨i,by simp⟩
      exact(h2 y hy).imp id λ⟨a,ha⟩=>⟨a,by simp[ha]⟩
     rw[fi,fi,List.zipIdx_cons,fi];rw[e1,g1,h3]
   rw[ab hi] at h
   cases e:lg z (k+1) m<|(i,x)::r with
   |none=>rw[e] at h;cases h
   |some ys=>rw[e] at h;exact zero ys e (tK h).symm
theorem IM{z:aP}:∀(m k:Nat) (l:List<|Nat×a8) (xs:List a8),lg z k m l=some xs->∀x∈xs,x=.const z\/∃i,(i,x)∈l
 |0,k,[],xs,h,x,hx=>by simp[lg] at h;subst h;cases hx
 |0,k,_::_,xs,h,_,_=>by simp[lg] at h
 |m+1,k,[],xs,h,x,hx=>by
  simp only[lg] at h
  cases e:lg z (k+1) m [] with
  |none=>rw[e] at h;cases h
  |some ys =>
   rw[e] at h;have:=(tK h).symm;subst this;rcases dZ.1 hx with rfl|hx
   ·exact .inl rfl
   exact IM m _ _ ys e x hx
 |m+1,k,(i,y)::r,xs,h,x,hx=>by
  simp only[lg] at h;split at h
  ·cases e:lg z (k+1) m r with
   |none=>rw[e] at h;cases h
   |some ys =>
    rw[e] at h;have:=(tK h).symm;subst this;rcases dZ.1 hx with rfl|hx
    ·exact .inr ⟨i,by simp⟩
    exact(IM m _ _ ys e x hx).imp id λ⟨a,ha⟩=>⟨a,by simp[ha]⟩
  cases e:lg z (k+1) m<|(i,y)::r with
  |none=>rw[e] at h;cases h
  |some ys =>
   rw[e] at h;have:=(tK h).symm;subst this;rcases dZ.1 hx with rfl|hx
   ·exact .inl rfl
   exact IM m _ _ ys e x hx
variable{z:aP}
theorem zo1{l:List<|Nat×a8}(h:xN 0 l=some []\/lg z 0 0 l=some []):l=[]:=by
 cases l with
 |nil=>rfl
 |cons p r =>
  obtain⟨i,x⟩:=p;rcases h with h|h
  ·have:=G4 _ _ _ h;simp at this
  simp[lg] at h
theorem P'{t e:bl}{n:Nat}{parts:Array<|Nat×a8}{xs:List a8}(ht:P.underlying t=some (.slice e))(hz:(P.info? e).bind (·.zero)=some z)(h24:n*P.cellsOf e<=16777216)(l5:0<P.cellsOf e)
  (nf:xN 0 parts.toList=some xs\/lg z 0 n parts.toList=some xs) (ho:o.op=.buildSlice t n parts) (h:step P seq (.oP (P.cellsOf e) n xs) env H K):Sound P o env H K:=by
 simp only[step] at h;obtain⟨h1,QT⟩:=SJ _ _ _ h;rw[qP] at QT;obtain⟨h2,h3⟩:=QT;rw[xX] at h3;simp only[aK] at h2;obtain⟨ei,gT,iO⟩:=yh (e:=e) (P:=P) (by omega);subst h2;refine CR h3 λJ F w a G aC aU cW hn=>?_;have zR:∀(i:Nat) (x:a8),(i,x)∈parts.toList->x∈o.op.operands:=λi x hx=>by
  simp only[ho,Op.operands];simp only[List.mem_toArray,dq];exact⟨(i,x),hx,rfl⟩
 let zc:Array aP:=(Array.range<|xs.length*P.cellsOf e).map (z.cells[·%z.cells.size]!)
 have E8:∀i j,0<=i->i<0+xs.length->j<P.cellsOf e->z.cells.size=P.cellsOf e->zc[i*P.cellsOf e+j]? = z.cells[j]?:=λi j _ hi hj hs=>by
  have h1:(i+1)*P.cellsOf e<=xs.length*P.cellsOf e:=tl _ (by omega);rw[jw] at h1;have h2:i*P.cellsOf e+j<xs.length*P.cellsOf e:=(by omega);have h3:(i*P.cellsOf e+j)%P.cellsOf e=j:=(by rw[Nat.mul_add_mod_self_right,Nat.mod_eq_of_lt hj]);have h4:j<z.cells.size:=(by omega);have h5:z.cells[j]? = some z.cells[j]!:=(by rw[rF h4,getElem!_pos z.cells j h4]);rw[h5];simp[zc,h2,hs,h3]
 have j8:∀x∈xs,x=.const z\/x∈o.op.operands:=λx hx=>by
  rcases nf with nf|nf
  ·obtain⟨j,hj,e⟩:=jN.1 hx;refine .inr<|zR j x ?_;rw[G4 _ _ _ nf];refine dq.2 ⟨(x,j),?_,rfl⟩;rw[List.mem_zipIdx_iff_getElem?];simp[hj,e]
  exact(IM _ _ _ _ nf x hx).imp id λ⟨i,hi⟩=>zR i x hi
 have si:∀x∈xs,rep J F w (fU env x)<|a.eval x:=λx hx=>by
  rcases j8 x hx with rfl|h
  ·exact ztP J F w z
  exact aU x h
 have yC:∀v∈xs.map a.eval,v.cells.size=P.cellsOf e:=λv hv=>by
  obtain⟨x,hx,rfl⟩:=dq.1 hv;have:=nh _ _ (CZ (h1 x hx).1<|si x hx).1;rw[(h1 x hx).2,<-this];simp
 obtain⟨c',f1,f2,_,f4⟩:=Qi (P.cellsOf e) (xs.map a.eval) 0 zc yC (by simp[zc]);have f1':Instr.fill (λi=>some (i*P.cellsOf e,P.cellsOf e)) zc (parts.map λ(i,x)=>(i,a.eval x)).toList=some c':=by
  rw[Array.toList_map];rcases nf with nf|nf
  ·rw[G4 _ _ _ nf,<-f1,List.zipIdx_map,wJ,wJ];rfl
  obtain⟨_,_,h3⟩:=KP (ak:=P.cellsOf e) a.eval rfl _ 0 _ xs zc nf (λx hx=>yC _<|dq.2 ⟨x,hx,rfl⟩) (by simp[zc]) E8;rw[<-f1,<-h3]
 have jX:(execOp a.eval o).run P w=.ok (.value (.slice (some ⟨w.heap.size,0,none⟩) xs.length xs.length)) (w.alloc (.cells c' e)):=by
  by_cases IB:xs.length*P.cellsOf e=0
  ·have hx:xs=[]:=by
    rcases Nat.mul_eq_zero.1 IB with h|h
    ·exact n8.1 h
    omega
   subst hx;have zFM:parts.toList=[]:=zo1 (z:=z) nf;have E8:zc=#[]:=(by simp[zc]);simp only[gm,List.zipIdx_nil] at f1;rw[E8] at f1;simp[Instr.fill] at f1;subst f1;have hp:parts=#[]:=Array.ext' zFM;subst hp;simp[execOp,ho,Instr.buildSlice,underlying,program,Sem.run,ht,pure,tx gT,iO,Instr.fill,newRow,newObj]
   congr 2
   apply Array.ext';simp
  have ji:¬(xs.length*P.cellsOf e>2^24):=(by omega);simp only[execOp,ho,Instr.buildSlice,underlying,program,Sem.run_bind,Sem.run,ht,pure,Result.andThen_ok,tx gT,iO,ab ji,ab IB,Hi hz];rw[show(Array.map (λx=>z.cells[x%z.cells.size]!)<|Array.range<|xs.length*P.cellsOf e)=zc from rfl,f1'];simp[newRow,newObj,Sem.run,pure]
 obtain⟨J',k1,k2,k3,k4⟩:=Oz (ak:=P.cellsOf e) (cap:=xs.length) (xs:=xs.map λx=>(fU env x).cells) (vals:=c') aC H.length hn e (by simp) (by rw[f2];simp[zc]) λj x hj=>by
  rw[cU] at hj
  cases ej:xs[j]? with
  |none=>rw[ej] at hj;cases hj
  |some y =>
   rw[ej] at hj;simp at hj;subst hj;have hy:=nB ej;refine⟨(h1 y hy).2.symm,λk c hc=>?_⟩;obtain⟨q1,q0⟩:=CZ (h1 y hy).1<|si y hy;obtain⟨u,q2,q3⟩:=rN _ _ _ _ hc q1;refine⟨u,?_,q0 u<|nB q2,q3⟩;have:=f4 j (a.eval y) k u (by simp[ej]) (by simpa using q2);simpa using this
 simp only[aK] at k4;exact⟨_,_,J',F,jX,k4,k1,k2,k3⟩
theorem zu7{t e:bl}{l c:a8}(ht:P.underlying t=some (.slice e))(hz:(P.info? e).bind (·.zero)=some z)(qZ:z.cells.size=P.cellsOf e)(l5:0<P.cellsOf e)(Bg:0<P.bytesOf e)(ue:z.cells.toList.all gE)
  (ho:o.op=.makeSlice t l c) (h:step P seq (.sM (P.cellsOf e) (P.bytesOf e) z.cells.toList l c) env H K):Sound P o env H K:=by
 simp only[step,gB] at h;obtain⟨ei,gT,iO⟩:=yh (e:=e) (P:=P) (by omega);have Be:ei.bytes=P.bytesOf e:=by simp[Program.bytesOf,gT]
 split at h
 ·rename_i nl nc e1 e2;obtain⟨h0,h1,h2,h3⟩:=h;rw[xX] at h3;refine CR h3 λJ F w a G aC aU cW hn=>?_;have k1:=aU l (by simp[ho,Op.operands]);have k2:=aU c (by simp[ho,Op.operands]);rw[e1] at k1;rw[e2] at k2;simp only[rep] at k1 k2;have ji:ei.zero=some z:=(by simpa [gT] using hz);have hb:(ei.bytes:Int)*nc<=281474976710656:=(by rw[Be,Int.mul_comm];omega);have Ct:nc<=9223372036854775807:=by
   have:nc*1<=nc*(P.bytesOf e:Int):=Int.mul_le_mul_of_nonneg_left (by omega) (by omega);omega
  have run:=run_make (P:=P) w t e ei z ht gT ji .i64 .i64 nl nc h0 h1 hb Ct;obtain⟨J',q1,q2,q3,q4⟩:=Oz (ak:=P.cellsOf e) (cap:=nc.toNat) (xs:=List.replicate nl.toNat<|z.cells.toList.map .sc) (vals:=madeCells z.cells<|nc.toNat * ei.size) aC H.length hn e (by simp;omega) (by simp[madeCells,iO]) λj x hj=>by
   rw[td] at hj;split at hj
   ·rename_i uI;cases hj;refine⟨by simp[qZ],λk c hc=>?_⟩;rw[cU] at hc
    cases ek:z.cells.toList[k]? with
    |none=>rw[ek] at hc;cases hc
    |some u =>
     rw[ek] at hc;cases hc;have hk:k<P.cellsOf e:=by
      have:k<z.cells.toList.length:=by
       rcases dY k z.cells.toList.length with h|h
       ·exact h
       rw[cY h] at ek;cases ek
      rw[<-qZ];simpa using this
     refine⟨u,?_,ki.1 ue u<|nB ek,by simp only[rep]⟩;have ck:j*P.cellsOf e+k<nc.toNat * ei.size:=by
      rw[iO];have:(j+1)*P.cellsOf e<=nc.toNat * P.cellsOf e:=tl _ (by omega);rw[jw] at this;omega
     have hm:(j*P.cellsOf e+k)%z.cells.size=k:=(by rw[qZ,Bc,Nat.mul_add_mod];exact Nat.mod_eq_of_lt hk);have sl:k<z.cells.size:=(by rw[qZ];exact hk);have ek':z.cells[k]=u:=by
      rw[E4] at ek;simpa [rF sl] using ek
     simp only[madeCells,Array.getElem?_map];rw[rF<|by simpa using ck];simp[hm,sl,ek']
   cases hj
  simp only[A8] at q4;have e3:nl.toNat<=nc.toNat:=(by omega);refine⟨_,_,J',F,?_,q4,q1,q2,q3⟩;simp[execOp,ho,k1,k2,run,Sem.run,pure]
 exact h.elim
end
end
section
structure yn(w w':ba)(b o:Nat)(us:List aP)(vals:Array aP)(te:bl):Prop where
 os:w'.os=w.os
 tape:w'.tape=w.tape
 output:w'.output=w.output
 size:w'.heap.size=w.heap.size
 other:∀k,k≠b->w'.heap[k]? = w.heap[k]?
 here:∃qG,w'.heap[b]? = some (.cells qG te (0,0))/\qG.size=vals.size/\∀j,qG[j]? = if o<=j/\j<o+us.length then us[j-o]? else vals[j]?
theorem zie{P:bI}{a:Addr}{u u':aP}(hu:gE u)(hc:w.cell? a=some u')(hf:w.frozen? a=false):(store a u).run P w=.ok () (w.setCell a u):=by
 cases u<;>simp[gE] at hu<;>simp[store,Sem.run,hc,hf]
theorem EY{P:bI}{b o:Nat}:∀(us:List aP) (i:Nat) (w:ba) (vals:Array aP) (te:bl),w.heap[b]? = some (.cells vals te (0,0))->o+i+us.length<=vals.size->(∀u∈us,gE u) ->
  ∃w',(storeCells ⟨b,o,none⟩ us i).run P w=.ok () w'/\yn w w' b (o+i) us vals te
 |[],i,w,vals,te,hb,_,_=>⟨w,rfl,rfl,rfl,rfl,rfl,λ_ _=>rfl,vals,hb,rfl,λj=>by simp;intro h1 h2;omega⟩
 |u::r,i,w,vals,te,hb,hl,h1=>by
  simp only[bH] at hl;have hc:w.cell? ⟨b,o+i,none⟩=vals[o+i]?:=(by simp[World.cell?,hb]);have hf:=frozen_of_row w b (o+i) vals te hb;have ck:o+i<vals.size:=(by omega);have lJ:=heap_setCell_same w b (o+i) vals te u hb;obtain⟨w',e1,k⟩:=EY (P:=P) (b:=b) (o:=o) r (i+1) (w.setCell ⟨b,o+i,none⟩ u) (vals.setIfInBounds (o+i) u) te lJ (by simp;omega) λv hv=>h1 v (by simp[hv]);have jX:(store (⟨b,o+i,none⟩:Addr) u).run P w=.ok () (w.setCell ⟨b,o+i,none⟩ u):=by
   have hu:=h1 u (by simp);rw[rF ck] at hc;exact zie hu hc hf
  refine⟨w',?_,?_⟩
  ·simp only[storeCells,oa,Sem.run_bind,jX,Result.andThen_ok];exact e1
  obtain⟨qG,q1,q2,q3⟩:=k.here;refine⟨k.os,k.tape,k.output,by rw[k.size];simp[World.setCell],λx hx=>by rw[k.other x hx];exact heap_setCell_other w _ x u hx,qG,q1,by rw[q2];simp,λj=>?_⟩;rw[q3];by_cases e:j=o+i
  ·subst e;rw[ab<|by omega,ae<|by simp];simp[JC,ck]
  by_cases h2:o+(i+1)<=j/\j<o+(i+1)+r.length
  ·rw[ae h2,ae<|by simp;omega,show j-(o+i)=j-(o+(i+1))+1 by omega,E9]
  rw[ab h2,ab<|by simp;omega,HE<|by omega]
theorem yn.cell{w w':ba}{b o:Nat}{us:List aP}{vals:Array aP}{te:bl}(h:yn w w' b o us vals te)(hb:w.heap[b]? = some (.cells vals te (0,0)))(j:Nat) :
  w'.cell? ⟨b,j,none⟩=if o<=j/\j<o+us.length then us[j-o]? else w.cell? ⟨b,j,none⟩:=by
 obtain⟨qG,h1,_,h3⟩:=h.here;simp only[World.cell?,h1,hb];simpa using h3 j
variable{b o:Nat}{us:List aP}{vals:Array aP}{te:bl}
theorem Tx{J J':bf}{F:Nat->Prop}{n:Nat}(h:yn w w' b (o+n) us vals te)(hb:w.heap[b]? = some (.cells vals te (0,0)))
  (hle:J.le J') (hF:∀x,F x->w'.heap[x]? = w.heap[x]?) {cs xs:List D} (hc:eY J F w b cs o) (h0:∀u∈us,gE u) (hx:bB J F w xs us) (hn:n+xs.length<=cs.length) :
  eY J' F w' b (cs.take n++xs++cs.drop (n+xs.length)) o:=by
 have hl:=nh _ _ hx;refine rv _ _ λj c hj=>?_;rw[h.cell hb];by_cases h1:j<n
 ·rw[ab<|by omega];rw[gy,fv<|by simp;omega,y9,ae h1] at hj;obtain⟨u,q1,q0,q2⟩:=uj cs o j c hj hc;exact⟨u,q1,q0,kq hle (λ_ h=>h) hF _ _ q2⟩
 by_cases h2:j<n+xs.length
 ·rw[ae<|by omega];rw[gy,gJ<|by simp;omega] at hj;rw[fv<|by simp;omega] at hj;simp only[gA] at hj;rw[show j-min n cs.length=j-n by omega] at hj;obtain⟨u,q1,q2⟩:=rN _ _ _ _ hj hx;exact⟨u,by rw[show o+j-(o+n)=j-n by omega];exact q1,h0 u<|nB q1,kq hle (λ_ h=>h) hF _ _ q2⟩
 rw[ab<|by omega];rw[gJ<|by simp;omega,xb] at hj;simp only[cq,gA] at hj;rw[show n+xs.length+(j-(min n cs.length+xs.length))=j by omega] at hj;obtain⟨u,q1,q0,q2⟩:=uj cs o j c hj hc;exact⟨u,q1,q0,kq hle (λ_ h=>h) hF _ _ q2⟩
theorem yn.ext{J':bf}{G:Nat->Option ao}(h:yn w w' b o us vals te)(aC:cH J F w G)
  (hle:J.le J') (kj:jU J b) (Lf:∀x,jU J' x->jU J x) (hF:¬F b):Ext J F w J' F w' :=
 ⟨h.os,h.tape,h.output,by rw[h.size];exact aT _,λx hx hn=>h.other x λe=>hn<|e▸kj,λx hx=>h.other x λe=>hF<|e▸hx,hle,λ_ h=>h,λx hx=>.inl<|Lf x hx,λx hx=>.inl hx⟩
variable{i:Nat}
theorem zlh{xs:List<|List D}{r:List D}(j:Nat)(x:List D)(h:(xs.set i r)[j]? = some x):(j=i/\x=r/\i<xs.length)\/(j≠i/\xs[j]? = some x):=by
 rw[vo] at h;by_cases e:i=j
 ·rw[ae e] at h;split at h
  ·cases h;exact .inl ⟨e.symm,rfl,by assumption⟩
  cases h
 rw[ab e] at h;exact .inr ⟨λq=>e q.symm,h⟩
theorem YL{J J':bf}{F:Nat->Prop}{n ak:Nat}(h:yn w w' b (o+i*ak+n) us vals te)(hb:w.heap[b]? = some (.cells vals te (0,0)))
  (hle:J.le J') (hF:∀x,F x->w'.heap[x]? = w.heap[x]?) {ys:List<|List D} {row xs:List D} (hy:fD J F w b ak ys o) (hi:ys[i]? = some row) (h0:∀u∈us,gE u) (hx:bB J F w xs us) (hn:n+xs.length<=row.length) :
  fD J' F w' b ak (ys.set i<|row.take n++xs++row.drop (n+xs.length)) o:=by
 have hl:=nh _ _ hx;refine vg _ _ λj x hj=>?_;obtain⟨r1,r2⟩:=vm ys o i row hi hy;rcases zlh j x hj with⟨rfl,rfl,_⟩|⟨bT,hj⟩
 ·exact⟨by simp;omega,Tx h hb hle hF r2 h0 hx hn⟩
 obtain⟨q1,q2⟩:=vm ys o j x hj hy;refine⟨q1,rv _ _ λk c hc=>?_⟩;have hk:k<x.length:=by
  rcases dY k x.length with h|h
  ·exact h
  rw[cY h] at hc;cases hc
 obtain⟨u,p1,p0,p2⟩:=uj x _ k c hc q2;refine⟨u,?_,p0,kq hle (λ_ h=>h) hF _ _ p2⟩;rw[h.cell hb,ab ?_]
 ·exact p1
 rintro⟨a1,a2⟩;rcases Nat.lt_or_gt_of_ne bT with ck|ck
 ·have:(j+1)*ak<=i*ak:=tl _ ck;rw[jw] at this;omega
 have:(i+1)*ak<=j*ak:=tl _ ck;rw[jw] at this;omega
section
variable{P:bI}{seq:Bool}{o:Oper}{env:Env}{H:List ao}{K:pQ}
variable{ob:ao}{id:Nat}{d:D}
theorem MF(hid:id<H.length)(hK:K d (H.set id ob) [] [id])
  (h:∀(J:bf) (F:Nat->Prop) (w:ba) (a:Act) (G:Nat->Option ao),cH J F w G->(∀x∈o.op.operands,rep J F w (fU env x)<|a.eval x)->G id=H[id]? ->
   ∃v w',(execOp a.eval o).run P w=.ok v w'/\(v=.value undef\/v=.skip)/\d=.sc undef/\cH J F w' (λi=>if i=id then some ob else G i)/\Ext J F w J F w'):Sound P o env H K:=by
 refine⟨d,H.set id ob,[],[id],⟨λi hi=>?_,by simp,λi hi=>by simp at hi;simp[hi,hid],λJ F w a G aC aU cW o7 K Q hK=>?_⟩,hK⟩
 ·simp at hi;rw[yw λe=>hi e.symm]
 obtain⟨v,w',h1,h2,rfl,h3,h4⟩:=h J F w a G aC aU<|cW id (.inr<|by simp);have hu:upd G [id] (H.set id ob)=λi=>if i=id then some ob else G i:=Jj G _ id ob<|by simp[hid]
 unfold Oper.wp;rw[h1];rcases h2 with rfl|rfl
 ·rw[Oper.upon_value];exact hK _ w' J F (by simp only[rep]) (by rw[hu];exact h3) h4 λi hi _=>hi
 rw[Oper.upon_skip];exact hK _ w' J F (by simp only[rep]) (by rw[hu];exact h3) h4 λi hi _=>hi
variable{t:bl}
theorem Tr{v:aP}{off:Nat}(fT:v.cells.size=P.cellsOf t)(hz:P.cellsOf t≠0)(h:(storeCells ⟨b,off,none⟩ v.cells.toList 0).run P w=.ok () w') :
  (Instr.storeAt t (.pointer<|some ⟨b,off,none⟩) v).run P w=.ok () w':=by
 obtain⟨i,h1,h2⟩:=yh hz;simp[Instr.storeAt,Instr.sureAddr,storeVar,tx h1,h2,fT,Sem.run,pure,h]
variable{x:a8}
theorem ZL{y:a8}(hz:P.cellsOf t≠0)(ho:o.op=.store t x y)(h:step P seq (.store (P.cellsOf t) x y) env H K):Sound P o env H K:=by
 simp only[step,gB,G8,qP] at h;obtain⟨hs,hlen,h⟩:=h;split at h
 ·rename_i id off e1;obtain⟨ob,h1,h2⟩:=(lB _ _ _).1 h;split at h2
  ·rename_i cs;obtain⟨h3,h4⟩:=(Dc _ _ _ _).1 h2;obtain⟨h5,h6⟩:=(vU _ _ _ _).1 h4;refine MF h5 h6 λJ F w a G aC aU hG=>?_;have k1:=aU x (by simp[ho,Op.operands]);obtain⟨k2,k3⟩:=CZ hs<|aU y (by simp[ho,Op.operands]);rw[e1] at k1;simp only[rep] at k1;obtain⟨s,b,q1,q2,q3,q4⟩:=k1;obtain⟨o',p1,p2⟩:=aC.obj id s q1;rw[hG,h1] at p1;cases p1;obtain⟨p2,p3,p4,p5,p6,b',vals,te,p7,p8,p9,p10,p11⟩:=p2;rw[q3] at p7;cases p7;have hl:=nh _ _ k2;obtain⟨w',r1,r2⟩:=EY (P:=P) (b:=b) (o:=off) (a.eval y).cells.toList 0 w vals te p8 (by omega) k3;have kj:s.c9=some b:=(by simp[Site.c9,q2,q3]);have mU:¬F b:=aC.apart id s b _ q1 kj (hG.trans h1) rfl;have pA:∀z,F z->w'.heap[z]? = w.heap[z]?:=λz xw=>r2.other z λe=>mU<|e▸xw;refine⟨.skip,w',?_,.inr rfl,rfl,?_,r2.ext aC (bf.le_refl J) ⟨id,s,q1,kj⟩ (λ_ h=>h) mU⟩
   ·simp[execOp,ho,q4,Tr (by rw[hlen,<-hl];simp) hz r1,Sem.run,pure]
   refine aC.update id s _ (λi=>by split;· rename_i e;rw[e];exact q1
                                   rfl) (λ_=>rfl) (bf.le_refl J) pA (by rw[r2.size];exact aT _) (λi s' b' bT hi hb=>r2.other b' λe=>bT<|aC.one i id s' s b' hi q1 hb<|e▸kj) (λb' hb=>.inr ⟨s,q1,hb⟩) (λi s' b' hi hb=>aC.jy hi hb) (λb' hb _=>by rw[kj] at hb;cases hb;exact mU) ?_
   obtain⟨qG,r3,r4,_⟩:=r2.here;refine⟨p2,p3,p4,by simp;omega,by simp;omega,b,qG,te,q3,r3,by rw[r4,p9];simp;omega,?_,λq=>by cases q⟩;have r2':yn w w' b (0+off) (a.eval y).cells.toList vals te:=(by simpa using r2);exact Tx r2' p8 (bf.le_refl J) pA p10 k3 k2 h3
  exact h2.elim
 ·rename_i id aw i off e1;obtain⟨ob,h1,h2⟩:=(lB _ _ _).1 h;split at h2
  ·rename_i cf ak ys;obtain⟨rfl,row,dF,h2⟩:=h2;obtain⟨h3,h4⟩:=(Dc _ _ _ _).1 h2;obtain⟨h5,h6⟩:=(vU _ _ _ _).1 h4;refine MF h5 h6 λJ F w a G aC aU hG=>?_;have k1:=aU x (by simp[ho,Op.operands]);obtain⟨k2,k3⟩:=CZ hs<|aU y (by simp[ho,Op.operands]);rw[e1] at k1;simp only[rep] at k1;obtain⟨s,ad,q1,q4,q5,q6⟩:=k1;obtain⟨p1,p2,p3,p4,p5,p6⟩:=wq aC q1<|hG.trans h1;obtain⟨b,o',q7,q8,q9,rfl⟩:=q6 p2.symm;have hl:=nh _ _ k2;rcases p6 with p6|⟨b',o'',vals,te,e,p7,p8,p9,p10⟩
   ·omega
   rw[q8] at e;cases e;obtain⟨t1,t2⟩:=vm ys o' i row dF p9;have tz:i<ys.length:=(by omega);have HB:o'+i*ak+ak<=vals.size:=by
    have:(i+1)*ak<=s.cap*ak:=tl _ (by omega);rw[jw] at this;omega
   rw[p3] at q4;obtain⟨w',r1,r2⟩:=EY (P:=P) (b:=b) (o:=o'+i*ak+off) (a.eval y).cells.toList 0 w vals te p7 (by omega) k3;rw[uL] at r2;have kj:s.c9=some b:=by
    have:¬(s.row=false/\s.cap=0):=λh=>by omega
    simp[Site.c9,this,q8]
   have mU:¬F b:=aC.apart id s b _ q1 kj (hG.trans h1) rfl;have pA:∀z,F z->w'.heap[z]? = w.heap[z]?:=λz xw=>r2.other z λe=>mU<|e▸xw;refine⟨.skip,w',?_,.inr rfl,rfl,?_,r2.ext aC (bf.le_refl J) ⟨id,s,q1,kj⟩ (λ_ h=>h) mU⟩
   ·simp[execOp,ho,q4,Tr (by rw[hlen,<-hl];simp) hz r1,Sem.run,pure]
   refine aC.update id s _ (λi=>by split;· rename_i e;rw[e];exact q1
                                   rfl) (λ_=>rfl) (bf.le_refl J) pA (by rw[r2.size];exact aT _) (λi s' b' bT hi hb=>r2.other b' λe=>bT<|aC.one i id s' s b' hi q1 hb<|e▸kj) (λb' hb=>.inr ⟨s,q1,hb⟩) (λi s' b' hi hb=>aC.jy hi hb) (λb' hb _=>by rw[kj] at hb;cases hb;exact mU) ?_
   obtain⟨qG,r3,r4,_⟩:=r2.here;exact⟨p1,p2,p3,by simp;omega,p5,.inr ⟨b,o',qG,te,q8,r3,by rw[r4];exact p8,YL r2 p7 (bf.le_refl J) pA p9 dF k3 k2 h3,λq=>by cases q⟩⟩
  exact h2.elim
 exact h.elim
theorem zoY{r:aP}(hid:id<H.length)(hK:K d (H.set id ob) [] [id])(hd:∀(J:bf) (F:Nat->Prop) (w:ba),rep J F w d r)
  (h:∀(J:bf) (F:Nat->Prop) (w:ba) (a:Act) (G:Nat->Option ao),cH J F w G->(∀x∈o.op.operands,rep J F w (fU env x)<|a.eval x)->G id=H[id]? ->
   ∃w',(execOp a.eval o).run P w=.ok (.value r) w'/\cH J F w' (λi=>if i=id then some ob else G i)/\Ext J F w J F w'):Sound P o env H K:=by
 refine⟨d,H.set id ob,[],[id],⟨λi hi=>?_,by simp,λi hi=>by simp at hi;simp[hi,hid],λJ F w a G aC aU cW o7 K Q hK=>?_⟩,hK⟩
 ·simp at hi;rw[yw λe=>hi e.symm]
 obtain⟨w',h1,h3,h4⟩:=h J F w a G aC aU<|cW id (.inr<|by simp);have hu:upd G [id] (H.set id ob)=λi=>if i=id then some ob else G i:=Jj G _ id ob<|by simp[hid]
 unfold Oper.wp;rw[h1,Oper.upon_value];exact hK _ w' J F (hd J F w') (by rw[hu];exact h3) h4 λi hi _=>hi
theorem zom{zs:List<|List D}{lo hi:Nat}{y x:List D}{j:Nat}(h1:lo<=hi)(h2:hi<=zs.length)(h:(zs.take lo++List.replicate (hi-lo) y++zs.drop hi)[j]? = some x) :
  (lo<=j/\j<hi/\x=y)\/(¬(lo<=j/\j<hi)/\zs[j]? = some x):=by
 rw[List.getElem?_append,List.getElem?_append] at h;simp only[cq,gA,A8] at h;rw[sq<|by omega,show lo+(hi-lo)=hi by omega] at h;by_cases k1:j<hi
 ·rw[ae k1] at h;by_cases k2:j<lo
  ·rw[ae k2,y9,ae k2] at h;exact .inr ⟨by omega,h⟩
  rw[ab k2,td,ae<|by omega] at h;cases h;exact .inl ⟨by omega,k1,rfl⟩
 rw[ab k1,xb,show hi+(j-hi)=j by omega] at h;exact .inr ⟨by omega,h⟩
theorem zAI{e:bl}{args:Array a8}{ts:Array bl}{z u:aP}(ha:args.toList=[x])(ko:ts.toList=[t])(ht:P.underlying t=some (.slice e))(hz:(P.info? e).bind (·.zero)=some z)
  (hzu:z.cells.toList=[u]) (hc:P.cellsOf e=1/\gE u) (ho:o.op=.call { callee:=.builtin .clear,args:=args,argTypes:=ts }) (h:step P seq (.clr u x) env H K):Sound P o env H K:=by
 obtain⟨args⟩:=args;obtain⟨ts⟩:=ts;simp only at ha ko;subst ha ko;simp only[step,gB] at h;split at h
 ·rename_i id aw lo hi e1;obtain⟨ob,h1,h2⟩:=(lB _ _ _).1 h;split at h2
  ·rename_i cf ak zs;obtain⟨rfl,h2⟩:=h2;obtain⟨rfl,h4⟩:=(qP _ _ _).1 h2;obtain⟨h5,h6⟩:=(vU _ _ _ _).1 h4;refine zoY (r:=.tuple #[]) h5 h6 (λJ F w=>by simp only[rep];exact⟨[],rfl,by simp only[bB]⟩) λJ F w a G aC aU hG=>?_;have k1:=aU x (by simp[ho,Op.operands,Call.operands]);rw[e1] at k1;simp only[rep] at k1;obtain⟨s,A0,n0,c0,q1,q2,q3,q4⟩:=k1;obtain⟨p1,p2,p3,p4,p5,p6⟩:=wq aC q1<|hG.trans h1;obtain⟨t1,t2,t3,t4,t5,t6⟩:=q4 p2.symm;have exec:∀r w',(Builtin.clear_ #[t] o.type #[.slice A0 n0 c0]).run P w=.ok r w'->(execOp a.eval o).run P w=.ok (.value r) w':=by
    intro r w' hr;simp only[execOp,ho,resolve,invoke,builtin,Sem.run_bind,Sem.run,pure,Result.andThen_ok,Gs,fi,gm,q2];rw[hr];rfl
   by_cases hn:n0=0
   ·have NI:hi=lo:=(by omega);subst hn;refine⟨w,exec _ _ ?_,?_,Ext.refl _ _ _⟩
    ·cases A0<;>simp[Builtin.clear_,run_underlying ht,Sem.run,pure]
    have:(λi=>if i=id then some<|ao.vec true aw 1<|zs.take lo++List.replicate (hi-lo) [D.sc u]++zs.drop hi else G i)=G:=by
     funext i;split
     ·rename_i e;rw[e,hG,h1,NI,rm,List.replicate_zero,kM,List.take_append_drop]
     rfl
    rw[this];exact aC
   have Eb:s.cap≠lo:=(by omega);rcases t6 with t6|⟨b,o',e2,e3⟩
   ·exact absurd t6 Eb
   rcases p6 with p6|⟨b',o'',vals,te,e4,p7,p8,p9,p10⟩
   ·omega
   rw[e2] at e4;cases e4;obtain⟨w',r1,r2⟩:=EY (P:=P) (b:=b) (o:=o'+lo*s.ak) (List.replicate n0 u) 0 w vals te p7 (by rw[A8,p3];omega) (λv hv=>by rw[List.eq_of_mem_replicate hv];exact hc.2);rw[uL] at r2;have kj:s.c9=some b:=by
    have:¬(s.row=false/\s.cap=0):=λh=>by omega
    simp[Site.c9,this,e2]
   have mU:¬F b:=aC.apart id s b _ q1 kj (hG.trans h1) rfl;have pA:∀z,F z->w'.heap[z]? = w.heap[z]?:=λz xw=>r2.other z λe=>mU<|e▸xw;refine⟨w',exec _ _ ?_,?_,r2.ext aC (bf.le_refl J) ⟨id,s,q1,kj⟩ (λ_ h=>h) mU⟩
   ·have E8:(Builtin.zeroCells z.cells n0).toList=List.replicate n0 u:=by
     have pR:z.cells=#[u]:=by
      rw[<-Array.toArray_toList (xs:=z.cells),hzu]
     rw[pR];simp[Builtin.zeroCells];apply Du
     ·simp
     intro i h1 h2;simp[Nat.mod_one]
    subst e3;obtain⟨m,rfl⟩:∃m,n0=m+1:=⟨n0-1,by omega⟩;simp[Builtin.clear_,run_underlying ht,Hi hz,E8,r1]
   refine aC.update id s _ (λi=>by split;· rename_i e;rw[e];exact q1
                                   rfl) (λ_=>rfl) (bf.le_refl J) pA (by rw[r2.size];exact aT _) (λi s' b' bT hi hb=>r2.other b' λe=>bT<|aC.one i id s' s b' hi q1 hb<|e▸kj) (λb' hb=>.inr ⟨s,q1,hb⟩) (λi s' b' hi hb=>aC.jy hi hb) (λb' hb _=>by rw[kj] at hb;cases hb;exact mU) ?_
   obtain⟨qG,r3,r4,_⟩:=r2.here;refine⟨p1,p2,p3,by simp;omega,p5,.inr ⟨b,o',qG,te,e2,r3,by rw[r4];exact p8,vg _ _ λj y hj=>?_,λq=>by cases q⟩⟩;rcases zom t2 (by omega) hj with⟨g1,g2,rfl⟩|⟨g1,g2⟩
   ·refine⟨rfl,rv _ _ λi c hi=>?_⟩;obtain⟨rfl,rfl⟩:i=0/\c=.sc u:=by
     cases i with
     |zero=>simp at hi;exact⟨rfl,hi.symm⟩
     |succ i=>simp at hi
    refine⟨u,?_,hc.2,by simp only[rep]⟩;rw[r2.cell p7,ae<|by rw[A8,p3];omega,td,ae<|by rw[p3];omega]
   obtain⟨g3,g4⟩:=vm zs o' j y g2 p9;refine⟨g3,rv _ _ λi c hi=>?_⟩;obtain⟨v,g5,g6,g7⟩:=uj y _ i c hi g4;have hi0:i<y.length:=by
    rcases dY i y.length with h|h
    ·exact h
    rw[cY h] at hi;cases hi
   refine⟨v,?_,g6,kq (bf.le_refl J) (λ_ h=>h) pA _ _ g7⟩;rw[r2.cell p7,ab<|by rw[A8,p3];omega];exact g5
  exact h2.elim
 exact h.elim
end
end
section
section
variable{J:bf}{F:Nat->Prop}{w:ba}
def lb(J:bf)(F:Nat->Prop)(w:ba)(ak:Nat)(xs:List<|List D)(us:List aP):Prop :=
 us.length=xs.length*ak/\(∀u∈us,gE u)/\∀(j:Nat) (x:List D),xs[j]? = some x->x.length=ak/\∀(k:Nat) (c:D),x[k]? = some c->∃u,us[j*ak+k]? = some u/\gE u/\rep J F w c u
theorem Gd{b ak:Nat}:∀(xs:List<|List D) (o:Nat),fD J F w b ak xs o->∃us,lb J F w ak xs us/\∀j u,us[j]? = some u->w.cell? ⟨b,o+j,none⟩=some u
 |[],o,_=>⟨[],⟨by simp,(λu h=>by cases h),(λj x h=>by simp at h)⟩,λj u h=>by simp at h⟩
 |x::r,o,h=>by
  simp only[fD] at h;obtain⟨h1,h2,h3⟩:=h;obtain⟨vs,k1,k2,k3⟩:=I0 x o h2;obtain⟨us,⟨k4,k5,k6⟩,k7⟩:=Gd r (o+ak) h3;have hl:=nh _ _ k1;refine⟨vs++us,⟨?_,λu hu=>(dt.1 hu).elim (k3 u)<|k5 u,λj y hj=>?_⟩,λj u hu=>?_⟩
  ·rw[cq,k4,bH,jw];omega
  ·cases j with
   |zero =>
    simp at hj;subst hj;refine⟨h1,λk c hc=>?_⟩;obtain⟨v,q1,q2⟩:=rN _ _ _ _ hc k1;have hk:k<vs.length:=by
     rcases dY k vs.length with h|h
     ·exact h
     rw[cY h] at q1;cases q1
    exact⟨v,by rw[Nat.zero_mul,lZ,fv hk];exact q1,k3 v<|nB q1,q2⟩
   |succ j =>
    obtain⟨q1,q2⟩:=k6 j y (by simpa using hj);refine⟨q1,λk c hc=>?_⟩;obtain⟨u,p1,p2⟩:=q2 k c hc;refine⟨u,?_,p2⟩;rw[gJ<|by rw[jw];omega,show(j+1)*ak+k-vs.length=j*ak+k by rw[jw];omega];exact p1
  by_cases hj:j<vs.length
  ·rw[fv hj] at hu;exact k2 j u hu
  rw[gJ<|by omega] at hu;have:=k7 _ u hu;rwa [show o+ak+(j-vs.length)=o+j by omega] at this
variable{ak:Nat}{xs:List<|List D}{us:List aP}
theorem lb.append{ys:List<|List D}{vs:List aP}(h:lb J F w ak xs us)(k:lb J F w ak ys vs):lb J F w ak (xs++ys)<|us++vs:=by
 obtain⟨h1,h2,h3⟩:=h;obtain⟨k1,k2,k3⟩:=k;refine⟨by rw[cq,cq,h1,k1,jw],λu hu=>(dt.1 hu).elim (h2 u)<|k2 u,λj x hj=>?_⟩;by_cases hl:j<xs.length
 ·rw[fv hl] at hj;obtain⟨q1,q2⟩:=h3 j x hj;refine⟨q1,λk c hc=>?_⟩;obtain⟨u,p1,p2⟩:=q2 k c hc;refine⟨u,?_,p2⟩;rw[fv]
  ·exact p1
  rcases dY (j*ak+k) us.length with h|h
  ·exact h
  rw[cY h] at p1;cases p1
 rw[gJ<|by omega] at hj;obtain⟨q1,q2⟩:=k3 _ x hj;refine⟨q1,λk c hc=>?_⟩;obtain⟨u,p1,p2⟩:=q2 k c hc;refine⟨u,?_,p2⟩;have:xs.length*ak<=j*ak:=tl _ (by omega);rw[gJ<|by omega,show j*ak+k-us.length=(j-xs.length)*ak+k by rw[Nat.sub_mul];omega];exact p1
theorem lb.nil(ak:Nat):lb J F w ak [] []:=⟨by simp,(λu h=>by cases h),(λj x h=>by simp at h)⟩
theorem lb.mono(h:lb J F w ak xs us)(hm:∀d v,rep J F w d v->rep J' F' w' d v):lb J' F' w' ak xs us :=
 ⟨h.1,h.2.1,λj x hj=>⟨(h.2.2 j x hj).1,λk c hc=>let⟨u,p1,p2,p3⟩:=(h.2.2 j x hj).2 k c hc;⟨u,p1,p2,hm _ _ p3⟩⟩⟩
theorem lb.lie{b o:Nat}(h:lb J F w ak xs us)(hc:∀j u,us[j]? = some u->w.cell? ⟨b,o+j,none⟩=some u):fD J F w b ak xs o:=by
 refine vg _ _ λj x hj=>?_;obtain⟨q1,q2⟩:=h.2.2 j x hj;refine⟨q1,rv _ _ λk c hk=>?_⟩;obtain⟨u,p1,p2,p3⟩:=q2 k c hk;exact⟨u,by have:=hc _ u p1;rwa [<-DN] at this,p2,p3⟩
end
section
variable{P:bI}{seq:Bool}{o:Oper}{env:Env}{H:List ao}{K:pQ}
variable{ak:Nat}
theorem Qd{dy:D}{K':List (List D)->List Nat->Prop}(h:Io H ak dy K'):∃ys rd,K' ys rd /\
  ∀(J:bf) (F:Nat->Prop) (w:ba) (G:Nat->Option ao) (v:aP),cH J F w G->(∀id∈rd,G id=H[id]?)->rep J F w dy v ->
   ∃A c us,v=.slice A ys.length c/\lb J F w ak ys us/\((A=none/\ys=[])\/∃a,A=some a/\∀j u,us[j]? = some u->w.cell? (a.add j)=some u):=by
 unfold Io at h;split at h
 ·rename_i lU ys;obtain⟨e,h'⟩:=(qP _ _ _).1 h;subst e;refine⟨ys,[],h',λJ F w G v aC _ hv=>?_⟩;simp only[rep] at hv;obtain⟨A,n,c,rfl,rfl,hc,k⟩:=hv;rcases k with k|⟨b,o,rfl,hF,k⟩
  ·have:ys=[]:=n8.1 k;subst this;refine⟨A,c,[],rfl,lb.nil _,?_⟩
   cases A with
   |none=>exact .inl ⟨rfl,rfl⟩
   |some a=>exact .inr ⟨a,rfl,λj u h=>by simp at h⟩
  obtain⟨us,k1,k2⟩:=Gd _ _ k;exact⟨_,c,us,rfl,k1,.inr ⟨_,rfl,λj u hu=>by rw[oa];exact k2 j u hu⟩⟩
 ·rename_i id aw lo hi;obtain⟨ob,h1,h2⟩:=(lB _ _ _).1 h;split at h2
  ·rename_i m cf lU zs;obtain⟨rfl,h2⟩:=h2;obtain⟨e,h3⟩:=(qP _ _ _).1 h2;subst e;refine⟨_,[id],h3,λJ F w G v aC cW hv=>?_⟩;simp only[rep] at hv;obtain⟨s,A,n,c,q1,rfl,q2,q3⟩:=hv;obtain⟨p1,p2,p3,p4,p5,p6⟩:=wq aC q1<|(cW id<|by simp).trans h1;obtain⟨t1,t2,t3,rfl,rfl,t6⟩:=q3 p2.symm;have hl:((zs.take hi).drop lo).length=hi-lo:=(by simp;omega);rw[hl];rcases t6 with t6|⟨b,o,t6,rfl⟩
   ·have:(zs.take hi).drop lo=[]:=n8.1 (by omega);rw[this];refine⟨A,_,[],rfl,lb.nil _,?_⟩
    cases A with
    |none=>exact .inl ⟨rfl,rfl⟩
    |some a=>exact .inr ⟨a,rfl,λj u h=>by simp at h⟩
   rcases p6 with p6|⟨b',o',vals,te,e,_,_,k,_⟩
   ·have:(zs.take hi).drop lo=[]:=n8.1 (by omega);rw[this];exact⟨_,_,[],rfl,lb.nil _,.inr ⟨_,rfl,λj u h=>by simp at h⟩⟩
   rw[t6] at e;cases e;obtain⟨us,k1,k2⟩:=Gd _ _<|Bh k lo hi;exact⟨_,_,us,rfl,k1,.inr ⟨_,rfl,λj u hu=>by rw[oa,p3];exact k2 j u hu⟩⟩
  exact h2.elim
 ·refine⟨[],[],h,λJ F w G v aC _ hv=>?_⟩;simp only[rep] at hv;exact⟨none,0,[],hv,lb.nil _,.inl ⟨rfl,rfl⟩⟩
 exact h.elim
theorem YV(v:aP):v.oneCell'=gE v:=by cases v<;>rfl
variable{u e':bl}{n:Nat}{us:List aP}
theorem PT{c:Nat}{A:Option Addr}{ys:List<|List D}(hu:P.underlying u=some (.slice e'))(hn:n=ys.length)(hr:lb J F w ak ys us)
  (h:(A=none/\ys=[])\/∃a,A=some a/\∀j x,us[j]? = some x->w.cell? (a.add j)=some x):Src P ak u (.slice A n c) n us w:=by
 subst hn;rcases h with⟨rfl,rfl⟩|⟨a,rfl,h⟩
 ·have:us=[]:=n8.1 (by have:=hr.1;simpa using this);subst this;exact Src.ofNil w hu c
 exact Src.ofSlice w hu a _ c us hr.1 h λx hx=>by rw[YV];exact hr.2.1 x hx
theorem grownCap_ge(w:ba)(need old:Nat)(e:bl):need<=grownCap w need old e:=by
 unfold grownCap Question.cut;simp
theorem cH.drew{J:bf}{F:Nat->Prop}{w:ba}{G:Nat->Option ao}(h:cH J F w G):cH J F w.drew G :=
 ⟨λid s hi=>by
  obtain⟨o,h1,h2⟩:=h.obj id s hi;exact⟨o,h1,rI (w:=w) (w':=w.drew) (bf.le_refl J) (λ_ h=>h) (λ_ _=>rfl) (λ_ _=>rfl) h2⟩,h.one,h.apart,h.lt.mono (w':=w.drew) (λ_ q=>q) (λ_ _=>rfl) h.lt.lt⟩
theorem Ext.drew{J:bf}{F:Nat->Prop}{w:ba}:Ext J F w J F w.drew:=⟨rfl,rfl,rfl,aT _,λ_ _ _=>rfl,λ_ _=>rfl,bf.le_refl J,λ_ h=>h,λ_ h=>.inl h,λ_ h=>.inl h⟩
variable{d:D}
theorem QJ{v:aP}(h:rep J F w d v):rep J F w.drew d v:=kq (w:=w) (w':=w.drew) (bf.le_refl J) (λ_ h=>h) (λ_ _=>rfl) _ _ h
theorem Sa(size:Nat)(A:Option Addr)(c:Nat)(w:ba):(Builtin.firstCells size 0 (.slice A 0 c)).run P w=.ok (List.toArray []) w:=by
 cases A with
 |none=>exact run_firstCells_none w size 0 0 c
 |some a=>exact run_firstCells_some w size 0 a 0 c [] (by simp)<|by simp
theorem R4{cap:Nat}{xs:List<|List D}{z:Array aP}(hr:lb J F w ak xs us)(hz:z.size=ak)(hn:n=xs.length)(Eb:n<=cap) :
  cap*ak<=(us.toArray++Builtin.zeroCells z (cap-n)).size/\∀(j:Nat) (x:List D),xs[j]? = some x->x.length=ak/\∀(k:Nat) (c:D),x[k]? = some c->∃u,(us.toArray++Builtin.zeroCells z (cap-n))[j*ak+k]? = some u/\gE u/\rep J F w c u:=by
 subst hn;refine⟨?_,λj x hj=>?_⟩
 ·simp only[Array.size_append,dh,hr.1,Builtin.zeroCells,Array.size_map,Array.size_range,hz];rw[<-jw];exact tl _<|by omega
 obtain⟨q1,q2⟩:=hr.2.2 j x hj;refine⟨q1,λk c hc=>?_⟩;obtain⟨u,p1,p2,p3⟩:=q2 k c hc;refine⟨u,?_,p2,p3⟩;have ck:j*ak+k<us.length:=by
  rcases dY (j*ak+k) us.length with h|h
  ·exact h
  rw[cY h] at p1;cases p1
 rw[Array.getElem?_append_left<|by simpa using ck];simpa using p1
variable{t e:bl}{ei:TypeInfo}{sv:aP}
theorem Xr{ty:bl}(ht:P.underlying t=some (.slice e))(hi:P.info? e=some ei){A:Option Addr}(hs:Src P ei.size u sv 0 [] w) :
  (Builtin.append_ #[t,u] ty #[.slice A 0 0,sv]).run P w=.ok (.slice A 0 0) w:=by
 rcases hs.kind with⟨e',hk⟩|hk<;>cases A<;>simp[Builtin.append_,run_underlying ht,run_underlying hk,sizeOf,typeInfo,hi,hs.len,hs.cells,storeCells]
variable{G:Nat->Option ao}
theorem Y8(h:cH J F w G)(id:Nat)(hid:J id=none)(ak aw:Nat) :
  ∃J',cH J' F w (λi=>if i=id then some (.vec true aw ak []) else G i)/\Ext J F w J' F w/\(∀i,i≠id->J' i=J i)/\rep J' F w (.own id aw 0 0) (.slice none 0 0):=by
 let J':bf:=λi=>if i=id then some ⟨false,aw,none,ak,0,0⟩ else J i
 have hle:J.le J':=λi s hs=>⟨s,by
  have:i≠id:=λe=>by subst e;rw[hid] at hs;cases hs
  simp[J',this,hs],aT _,λ_=>rfl⟩
 refine⟨J',⟨λi s hs=>?_,λi i' s s' b g1 g2 g3 g4=>?_,λi s b o g1 g2 g3 g4=>?_,h.lt⟩,⟨rfl,rfl,rfl,aT _,λ_ _ _=>rfl,λ_ _=>rfl,hle,λ_ h=>h,λb ⟨i,s,hs,hb⟩=>?_,λb hb=>.inl hb⟩,λi hi=>by simp[J',hi],?_⟩
 ·simp only[J'] at hs;split at hs
  ·rename_i e;subst e;cases hs;exact⟨.vec true aw ak [],by simp,rfl,rfl,rfl,rfl,aT _,.inl rfl⟩
  rename_i e;obtain⟨o,h1,h2⟩:=h.obj i s hs;exact⟨o,by rw[ab e];exact h1,rI hle (λ_ h=>h) (λ_ _=>rfl) (λ_ _=>rfl) h2⟩
 ·simp only[J'] at g1 g2;split at g1
  ·cases g1;simp[Site.c9] at g3
  split at g2
  ·cases g2;simp[Site.c9] at g4
  exact h.one i i' s s' b g1 g2 g3 g4
 ·simp only[J'] at g1;split at g1
  ·cases g1;simp[Site.c9] at g2
  rename_i e;rw[ab e] at g3;exact h.apart i s b o g1 g2 g3 g4
 ·simp only[J'] at hs;split at hs
  ·cases hs;simp[Site.c9] at hb
  exact .inl ⟨i,s,hs,hb⟩
 simp only[rep];exact⟨_,none,0,0,by simp[J'];rfl,rfl,aT _,λ_=>⟨rfl,aT _,jr _,rfl,rfl,.inl rfl⟩⟩
variable{z:aP}
theorem Zw{ty:bl}{x y:a8}{ys:List<|List D}{rd:List Nat}(ht:P.underlying t=some (.slice e))(hu:P.underlying u=some (.slice e'))(hz:(P.info? e).bind (·.zero)=some z)(qZ:z.cells.size=P.cellsOf e)(l5:0<P.cellsOf e)(Bg:0<P.bytesOf e)
  (IW:o.type=ty) (ho:o.op=.call { callee:=.builtin .append,args:=#[x,y],argTypes:=#[t,u] }) (hx:fU env x=.sc (.slice none 0 0))
  (hy:∀(J:bf) (F:Nat->Prop) (w:ba) (G:Nat->Option ao) (v:aP),cH J F w G->(∀id∈rd,G id=H[id]?)->rep J F w (fU env y) v ->
   ∃A c us,v=.slice A ys.length c/\lb J F w (P.cellsOf e) ys us/\((A=none/\ys=[])\/∃a,A=some a/\∀j u,us[j]? = some u->w.cell? (a.add j)=some u))
  (E':je 0 (P.bytesOf e) ys.length) (hK:K (.own H.length 0 0 ys.length) (H++[.vec true 0 (P.cellsOf e) ys]) rd [H.length]):Sound P o env H K:=by
 obtain⟨ei,gT,iO⟩:=yh (e:=e) (P:=P) (by omega);have Be:ei.bytes=P.bytesOf e:=by simp[Program.bytesOf,gT]
 have ji:ei.zero=some z:=by simpa [gT] using hz
 refine CR hK λJ F w a G aC aU cW hn=>?_;have k1:=aU x (by simp[ho,Op.operands,Call.operands]);rw[hx] at k1;simp only[rep] at k1;obtain⟨A,c,us,k2,k3,k4⟩:=hy J F w G _ aC cW<|aU y (by simp[ho,Op.operands,Call.operands]);have ym:=PT (P:=P) (n:=ys.length) (c:=c) hu rfl k3 k4;rw[<-iO] at ym;have Hl:(0+ys.length)*ei.bytes<=140737488355328:=by unfold je at E';rw[Be];exact E'
 rcases xp ys.length with h00|h0
 ·have yT:ys=[]:=n8.1 h00;have FO:us=[]:=n8.1 (by rw[k3.1,yT];simp);subst yT FO;have run:=Xr (P:=P) (w:=w) (A:=none) (ty:=ty) ht gT ym;obtain⟨J',r1,r2,r3,r4⟩:=Y8 (w:=w) aC H.length hn (P.cellsOf e) 0;refine⟨_,_,J',F,?_,r4,r1,r2,r3⟩;simp only[execOp,ho,resolve,invoke,builtin,Sem.run_bind,Sem.run,pure,Result.andThen_ok,Gs,fi,gm,k1,k2,IW];rw[run];rfl
 have X6:ys.length<=140737488355328:=by
  have:ys.length*1<=ys.length*ei.bytes:=Nat.mul_le_mul_left _ (by rw[Be];exact Bg);rw[lZ] at Hl;omega
 have run:=run_append_grow_src (P:=P) w t u ty e ei z ht gT ji none 0 0 [] (by exact Sa ei.size none 0 w.drew) (.slice A ys.length c) ys.length us ym (by omega) (by omega)<|growslice_fits (by omega) Hl;rw[lZ] at run;obtain⟨q1,q2⟩:=R4 (cap:=grownCap w ys.length 0 e) k3 qZ rfl (grownCap_ge w _ _ _);obtain⟨J',r1,r2,r3,r4⟩:=Oz (w:=w.drew) (ak:=P.cellsOf e) (cap:=grownCap w ys.length 0 e) (xs:=ys) (vals:=us.toArray++Builtin.zeroCells z.cells (grownCap w ys.length 0 e-ys.length)) aC.drew H.length hn e (grownCap_ge w _ _ _) q1 λj x hj=>⟨(q2 j x hj).1,λk c hc=>let⟨u,p1,p2,p3⟩:=(q2 j x hj).2 k c hc;⟨u,p1,p2,QJ p3⟩⟩;refine⟨_,_,J',F,?_,r4,r1,Ext.drew.trans r2,r3⟩;simp only[lW] at run;simp only[execOp,ho,resolve,invoke,builtin,Sem.run_bind,Sem.run,pure,Result.andThen_ok,Gs,fi,gm,k1,k2,IW];rw[run];rfl
variable{id:Nat}{s:Site}
theorem bf.N1{s':Site}(h:J id=some s)(hr:s.row=false)(hv:s.aw<s'.aw):J.le λi=>if i=id then some s' else J i:=λi t ht=>by
 by_cases e:i=id
 ·subst e;rw[h] at ht;cases ht
  exact⟨s',by simp,by omega,λq=>by rcases q with q|q;· omega
                                   rw[hr] at q;cases q⟩
 exact⟨t,by simp[e,ht],aT _,λ_=>rfl⟩
theorem zoj(h:cH J F w G)(id:Nat)(hs:J id=some s)(dF:s.row=false){aw ak cap:Nat}(B5:s.aw<aw){xs:List<|List D}{vals:Array aP}(te:bl)
  (hlen:xs.length<=cap) (fT:cap*ak<=vals.size) (hx:∀(j:Nat) (x:List D),xs[j]? = some x->x.length=ak/\∀(k:Nat) (c:D),x[k]? = some c->∃u,vals[j*ak+k]? = some u/\gE u/\rep J F w c u) :
  ∃J',cH J' F (w.alloc (.cells vals te)) (λi=>if i=id then some (.vec true aw ak xs) else G i)/\Ext J F w J' F (w.alloc (.cells vals te)) /\
   (∀i,i≠id->J' i=J i)/\rep J' F (w.alloc (.cells vals te)) (.own id aw 0 xs.length) (.slice (some ⟨w.heap.size,0,none⟩) xs.length cap):=by
 have hle:=bf.N1 (s':=⟨false,aw,some ⟨w.heap.size,0,none⟩,ak,cap,xs.length⟩) hs dF B5;have hF:∀b,F b->(w.alloc (.cells vals te)).heap[b]? = w.heap[b]?:=λb hb=>xP w _<|h.lt b hb;have Ff:fD (λi=>if i=id then some ⟨false,aw,some ⟨w.heap.size,0,none⟩,ak,cap,xs.length⟩ else J i) F (w.alloc (.cells vals te)) w.heap.size ak xs 0:=by
  refine vg _ _ λj x hj=>?_;obtain⟨k1,k2⟩:=hx j x hj;refine⟨k1,rv _ _ λk c hc=>?_⟩;obtain⟨u,q1,q0,q2⟩:=k2 k c hc;exact⟨u,by simp[q1],q0,kq hle (λ_ h=>h) hF _ _ q2⟩
 have rr:∀b,Site.c9 ⟨false,aw,some ⟨w.heap.size,0,none⟩,ak,cap,xs.length⟩=some b->b=w.heap.size:=λb hb=>by
  unfold Site.c9 at hb;split at hb
  ·cases hb
  simpa using hb.symm
 refine⟨_,h.update id ⟨false,aw,some ⟨w.heap.size,0,none⟩,ak,cap,xs.length⟩ (.vec true aw ak xs) (λ_=>rfl) (λ_=>rfl) hle hF (by simp) (λi s b _ hi hb=>xP w _<|h.jy hi hb) (λb hb=>.inl<|by rw[rr b hb];exact aT _) (λi s b hi hb=>h.jy hi hb) (λb hb _ hFb=>?_)
  ⟨rfl,rfl,rfl,rfl,hlen,.inr ⟨w.heap.size,0,vals,te,rfl,heap_alloc_new w _,by simpa using fT,Ff,λq=>by cases q⟩⟩,?_,λi hi=>by simp[hi],?_⟩
 ·have:=h.lt b hFb;rw[rr b hb] at this;omega
 ·exact⟨rfl,rfl,rfl,by simp,λb hb _=>xP w _ hb,hF,hle,λ_ h=>h,λb ⟨i,t,hi,hb⟩=>by
   dsimp only at hi;by_cases e:i=id
   ·rw[ae e] at hi;cases hi;exact .inr<|by rw[rr b hb];exact aT _
   rw[ab e] at hi;exact .inl ⟨i,t,hi,hb⟩,λb hb=>.inl hb⟩
 simp only[rep];exact⟨_,_,_,_,by simp;rfl,rfl,aT _,λ_=>⟨rfl,jr _,aT _,by simp,by simp,.inr ⟨w.heap.size,0,rfl,by simp⟩⟩⟩
theorem zpp{ob:ao}{rd:List Nat}(hid:id<H.length)(hK:K d (H.set id ob) rd [id])
  (h:∀(J:bf) (F:Nat->Prop) (w:ba) (a:Act) (G:Nat->Option ao),cH J F w G->(∀x∈o.op.operands,rep J F w (fU env x)<|a.eval x)->(∀i∈rd,G i=H[i]?)->G id=H[id]? ->
   ∃v w' J' F',(execOp a.eval o).run P w=.ok (.value v) w'/\rep J' F' w' d v/\cH J' F' w' (λi=>if i=id then some ob else G i)/\Ext J F w J' F' w'/\(∀i,i≠id->J' i=J i)):Sound P o env H K:=by
 refine⟨d,H.set id ob,rd,[id],⟨λi hi=>?_,by simp,λi hi=>by simp at hi;simp[hi,hid],λJ F w a G aC aU cW o7 K Q hK=>?_⟩,hK⟩
 ·simp at hi;rw[yw λe=>hi e.symm]
 obtain⟨v,w',J',F',h1,h2,h3,h4,h5⟩:=h J F w a G aC aU (λi hi=>cW i (.inl hi))<|cW id (.inr<|by simp);have hu:upd G [id] (H.set id ob)=λi=>if i=id then some ob else G i:=Jj G _ id ob<|by simp[hid]
 unfold Oper.wp;rw[h1,Oper.upon_value];exact hK v w' J' F' h2 (by rw[hu];exact h3) h4 λi hi hn=>by rw[h5 i<|by simpa using hn];exact hi
theorem zdW{ty:bl}(ht:P.underlying t=some (.slice e))(hi:P.info? e=some ei){w':ba}{b off sLen sCap:Nat}(hs:Src P ei.size u sv n us w)(HB:sLen+n<=sCap)
  (cE:(storeCells ⟨b,off+sLen*ei.size,none⟩ us 0).run P w=.ok () w') :
  (Builtin.append_ #[t,u] ty #[.slice (some ⟨b,off,none⟩) sLen sCap,sv]).run P w=.ok (.slice (some ⟨b,off,none⟩) (sLen+n) sCap) w':=by
 rcases hs.kind with⟨e',hk⟩|hk<;>simp[Builtin.append_,run_underlying ht,run_underlying hk,sizeOf,typeInfo,hi,hs.len,HB,hs.cells,oa,cE]
theorem zlq{ty:bl}{x y:a8}{ys zs:List<|List D}{rd:List Nat}{id aw lo hi:Nat}(ht:P.underlying t=some (.slice e))(hu:P.underlying u=some (.slice e'))(hz:(P.info? e).bind (·.zero)=some z)(qZ:z.cells.size=P.cellsOf e)(l5:0<P.cellsOf e)(Bg:0<P.bytesOf e)
  (IW:o.type=ty) (ho:o.op=.call { callee:=.builtin .append,args:=#[x,y],argTypes:=#[t,u] }) (hx:fU env x=.own id aw lo hi) (hH:H[id]? = some (.vec true aw (P.cellsOf e) zs))
  (hy:∀(J:bf) (F:Nat->Prop) (w:ba) (G:Nat->Option ao) (v:aP),cH J F w G->(∀id∈rd,G id=H[id]?)->rep J F w (fU env y) v ->
   ∃A c us,v=.slice A ys.length c/\lb J F w (P.cellsOf e) ys us/\((A=none/\ys=[])\/∃a,A=some a/\∀j u,us[j]? = some u->w.cell? (a.add j)=some u))
  (E':je (hi-lo) (P.bytesOf e) ys.length) (hK:K (.own id (aw+1) 0<|hi-lo+ys.length) (H.set id (.vec true (aw+1) (P.cellsOf e)<|(zs.take hi).drop lo++ys)) rd [id]):Sound P o env H K:=by
 obtain⟨ei,gT,iO⟩:=yh (e:=e) (P:=P) (by omega);have Be:ei.bytes=P.bytesOf e:=by simp[Program.bytesOf,gT]
 have ji:ei.zero=some z:=by simpa [gT] using hz
 have wT:id<H.length:=by
  rcases dY id H.length with h|h
  ·exact h
  rw[cY h] at hH;cases hH
 refine zpp wT hK λJ F w a G aC aU cW hG=>?_;have k1:=aU x (by simp[ho,Op.operands,Call.operands]);rw[hx] at k1;simp only[rep] at k1;obtain⟨s,A0,n0,c0,q1,q2,q3,q4⟩:=k1;obtain⟨A,c,us,k2,k3,k4⟩:=hy J F w G _ aC cW<|aU y (by simp[ho,Op.operands,Call.operands]);have ym:=PT (P:=P) (n:=ys.length) (c:=c) hu rfl k3 k4;rw[<-iO] at ym;have Hl:(hi-lo+ys.length)*ei.bytes<=140737488355328:=by unfold je at E';rw[Be];exact E'
 have X6:hi-lo+ys.length<=140737488355328:=by
  have:(hi-lo+ys.length)*1<=(hi-lo+ys.length)*ei.bytes:=Nat.mul_le_mul_left _ (by rw[Be];exact Bg);omega
 obtain⟨p1,p2,p3,p4,p5,p6⟩:=wq aC q1<|hG.trans hH;obtain⟨t1,t2,t3,t4,t5,t6⟩:=q4 p2.symm;have P6:=Lib.hid p6;have T6:=Lib.hid t6;clear p6 t6 q4;have hlen:((zs.take hi).drop lo).length=hi-lo:=by simp;omega
 have exec:∀r w',(Builtin.append_ #[t,u] ty #[.slice A0 n0 c0,.slice A ys.length c]).run P w=.ok r w'->(execOp a.eval o).run P w=.ok (.value r) w':=by
  intro r w' hr;simp only[execOp,ho,resolve,invoke,builtin,Sem.run_bind,Sem.run,pure,Result.andThen_ok,Gs,fi,gm,q2,k2,IW];rw[hr];rfl
 -- the old cells
 have hold:∃olds,lb J F w (P.cellsOf e) ((zs.take hi).drop lo) olds/\(Builtin.firstCells ei.size n0 (.slice A0 n0 c0)).run P w.drew=.ok olds.toArray w.drew:=by
  by_cases hc:s.cap=lo
  ·have h0:(zs.take hi).drop lo=[]:=n8.1 (by omega);refine⟨[],by rw[h0];exact lb.nil _,?_⟩;have qz:n0=0:=(by omega);subst qz;exact Sa _ _ _ _
  rcases T6.out with h|⟨b,o',e1,e2⟩
  ·exact absurd h hc
  rcases P6.out with h|⟨b',o'',vals,te,e3,e4,e5,e6,_⟩
  ·omega
  rw[e1] at e3;cases e3;obtain⟨olds,r1,r2⟩:=Gd _ _<|Bh e6 lo hi;refine⟨olds,r1,?_⟩;subst e2;refine run_firstCells_some (P:=P) w.drew ei.size n0 _ n0 c0 olds (by rw[r1.1,iO,hlen,t4]) λj v hv=>?_;rw[oa,p3];exact r2 j v hv
 obtain⟨olds,Om,JY⟩:=hold;have bR:lb J F w (P.cellsOf e) ((zs.take hi).drop lo++ys)<|olds++us:=Om.append k3;have HF:((zs.take hi).drop lo++ys).length=hi-lo+ys.length:=by rw[cq,hlen]
 by_cases HB:n0+ys.length<=c0
 ·by_cases hc:s.cap=lo
  ·have yT:ys=[]:=n8.1 (by omega);have qz:n0=0:=(by omega);have F9:c0=0:=(by omega);have h0:(zs.take hi).drop lo=[]:=n8.1 (by omega);have FO:us=[]:=n8.1 (by rw[k3.1,yT];simp);subst yT qz F9 FO;have run:=exec _ _<|Xr (P:=P) (ty:=ty) ht gT ym;have hle:=bf.N1 (s':=⟨false,aw+1,none,P.cellsOf e,0,0⟩) q1 t1 (by show s.aw<aw+1;omega);refine⟨_,w,_,F,run,?_,aC.update id ⟨false,aw+1,none,P.cellsOf e,0,0⟩ _ (λ_=>rfl) (λ_=>rfl) hle (λ_ _=>rfl) (aT _) (λ_ _ _ _ _ _=>rfl) (λb hb=>by simp[Site.c9] at hb) (λi s b hi hb=>aC.jy hi hb) (λb hb=>by simp[Site.c9] at hb) ⟨rfl,rfl,rfl,by rw[h0];rfl,aT _,.inl rfl⟩,?_,λi hi=>by simp[hi]⟩
   ·simp only[rep];exact⟨_,_,_,_,by simp;rfl,rfl,aT _,λ_=>⟨rfl,by omega,by simp;omega,by simp;omega,by simp,.inl rfl⟩⟩
   exact⟨rfl,rfl,rfl,aT _,λ_ _ _=>rfl,λ_ _=>rfl,hle,λ_ h=>h,λb ⟨i,t,hi,hb⟩=>by
    dsimp only at hi;by_cases e:i=id
    ·rw[ae e] at hi;cases hi;simp[Site.c9] at hb
    rw[ab e] at hi;exact .inl ⟨i,t,hi,hb⟩,λb hb=>.inl hb⟩
  rcases T6.out with h|⟨b,o',e1,e2⟩
  ·exact absurd h hc
  rcases P6.out with h|⟨b',o'',vals,te,e3,e4,e5,e6,_⟩
  ·omega
  rw[e1] at e3;cases e3;subst e2;have hb1:(n0+ys.length)*P.cellsOf e<=(s.cap-lo)*P.cellsOf e:=tl _ (by omega);have FC:(s.cap-lo)*P.cellsOf e+lo*P.cellsOf e=s.cap*P.cellsOf e:=(by rw[<-jw];congr 1;omega);have hb3:us.length=ys.length*P.cellsOf e:=k3.1;rw[jw] at hb1;obtain⟨w',r1,r2⟩:=EY (P:=P) (b:=b) (o:=o'+lo*s.ak+n0*ei.size) us 0 w vals te e4 (by rw[p3,iO];omega) k3.2.1;rw[uL] at r2;have run:=exec _ _<|zdW (P:=P) (ty:=ty) ht gT ym HB r1;have hle:=bf.N1 (s':=⟨false,aw+1,some ⟨b,o'+lo*s.ak,none⟩,P.cellsOf e,s.cap-lo,hi-lo+ys.length⟩) q1 t1 (by show s.aw<aw+1;omega);have kj:s.c9=some b:=by
   have:¬(s.row=false/\s.cap=0):=λh=>by omega
   simp[Site.c9,this,e1]
  have mU:¬F b:=aC.apart id s b _ q1 kj (hG.trans hH) rfl;have pA:∀z,F z->w'.heap[z]? = w.heap[z]?:=λz xw=>r2.other z λe=>mU<|e▸xw;have rr:∀b1,Site.c9 ⟨false,aw+1,some ⟨b,o'+lo*s.ak,none⟩,P.cellsOf e,s.cap-lo,hi-lo+ys.length⟩=some b1->b1=b:=λb1 hb=>by
   unfold Site.c9 at hb;split at hb
   ·cases hb
   simpa using hb.symm
  obtain⟨qG,s1,s2,s3⟩:=r2.here;have Ff:fD (λi=>if i=id then some ⟨false,aw+1,some ⟨b,o'+lo*s.ak,none⟩,P.cellsOf e,s.cap-lo,hi-lo+ys.length⟩ else J i) F w' b (P.cellsOf e) ((zs.take hi).drop lo++ys)<|o'+lo*s.ak:=by
   obtain⟨DE,m1,m2⟩:=Gd _ _<|Bh e6 lo hi;have hm:=m1.append k3;refine lb.lie (us:=DE++us) (hm.mono λd v h=>kq hle (λ_ h=>h) pA _ _ h) λj v hv=>?_;have oT:DE.length=n0*P.cellsOf e:=(by rw[m1.1,hlen,t4]);rw[r2.cell e4];by_cases hj:j<DE.length
   ·rw[ab<|by rw[iO];omega];rw[fv hj] at hv;have:=m2 j v hv;rwa [p3]
   rw[gJ<|by omega] at hv;have uI:j-DE.length<us.length:=by
    rcases dY (j-DE.length) us.length with h|h
    ·exact h
    rw[cY h] at hv;cases hv
   rw[ae<|by rw[iO];omega,show o'+lo*s.ak+j-(o'+lo*s.ak+n0*ei.size)=j-DE.length by rw[iO];omega];exact hv
  refine⟨_,w',_,F,run,?_,aC.update id ⟨false,aw+1,some ⟨b,o'+lo*s.ak,none⟩,P.cellsOf e,s.cap-lo,hi-lo+ys.length⟩ _ (λ_=>rfl) (λ_=>rfl) hle pA (by rw[r2.size];exact aT _) (λi s' b' bT hi hb=>r2.other b' λe=>bT<|aC.one i id s' s b' hi q1 hb<|e▸kj) (λb1 hb=>.inr ⟨s,q1,by rw[rr b1 hb];exact kj⟩) (λi s b hi hb=>aC.jy hi hb) (λb1 hb _=>by rw[rr b1 hb];exact mU)
   ⟨rfl,rfl,rfl,HF.symm,by show hi-lo+ys.length<=s.cap-lo;omega,.inr ⟨b,o'+lo*s.ak,qG,te,rfl,s1,by rw[s2,p3];show o'+lo*P.cellsOf e+(s.cap-lo)*P.cellsOf e<=vals.size;omega,Ff,λq=>by cases q⟩⟩,?_,λi hi=>by simp[hi]⟩
  ·simp only[rep];exact⟨_,_,_,_,by simp;rfl,rfl,aT _,λ_=>⟨rfl,jr _,aT _,by simp;omega,by simp;omega,.inr ⟨b,_,rfl,by simp⟩⟩⟩
  refine r2.ext aC hle ⟨id,s,q1,kj⟩ (λx ⟨i,t,hi,hb⟩=>?_) mU;dsimp only at hi;by_cases e:i=id
  ·rw[ae e] at hi;cases hi;rw[rr x hb];exact⟨id,s,q1,kj⟩
  rw[ab e] at hi;exact⟨i,t,hi,hb⟩
 have run:=exec _ _<|run_append_grow_src (P:=P) w t u ty e ei z ht gT ji A0 n0 c0 olds JY (.slice A ys.length c) ys.length us ym (by omega) (by omega)<|growslice_fits (by omega) (by rw[t4];exact Hl);obtain⟨g1,g2⟩:=R4 (n:=n0+ys.length) (cap:=grownCap w (n0+ys.length) c0 e) bR qZ (by rw[HF,t4])<|grownCap_ge w _ _ _;obtain⟨J',r1,r2,r3,r4⟩:=zoj (w:=w.drew) (aw:=aw+1) (ak:=P.cellsOf e) (cap:=grownCap w (n0+ys.length) c0 e) (xs:=(zs.take hi).drop lo++ys) (vals:=(olds++us).toArray++Builtin.zeroCells z.cells (grownCap w (n0+ys.length) c0 e-(n0+ys.length))) aC.drew id q1 t1 (by show s.aw<aw+1;omega) e (by rw[HF,<-t4];exact grownCap_ge w _ _ _) g1 λj x hj=>⟨(g2 j x hj).1,λk c hc=>let⟨u,p1,p2,p3⟩:=(g2 j x hj).2 k c hc;⟨u,p1,p2,QJ p3⟩⟩;rw[HF] at r4;refine⟨_,_,J',F,run,?_,r1,Ext.drew.trans r2,r3⟩;rw[t4];rw[t4] at r4;exact r4
end
end
section
mutual
def D.aQ(ρ:Nat->Nat):D->D
 | .dW=>.dW
 | .sc v=>.sc v
 | .loc id off=>.loc (ρ id) off
 | .elt id aw i off=>.elt (ρ id) aw i off
 | .aB cs=>.aB<|bP ρ cs
 | .aM e xs=>.aM e<|lz ρ xs
 | .own id aw lo hi=>.own (ρ id) aw lo hi
 | .fn f a b=>.fn f (bP ρ a)<|bP ρ b
 | .ifc t d=>.ifc t<|D.aQ ρ d
 | .agg cs=>.agg<|bP ρ cs
 | .aI cs=>.aI<|bP ρ cs
 | .mp id=>.mp<|ρ id
 | .gv g=>.gv g
def bP(ρ:Nat->Nat):List D->List D
 |[]=>[]
 |d::r=>D.aQ ρ d::bP ρ r
def lz(ρ:Nat->Nat):List (List D)->List (List D)
 |[]=>[]
 |d::r=>bP ρ d::lz ρ r
end
def ao.aQ(ρ:Nat->Nat):ao->ao
 | .row m cs=>.row m<|bP ρ cs
 | .vec m aw ak xs=>.vec m aw ak<|lz ρ xs
 | .eU m I=>.eU m I
theorem zl(x:Nat):∀n,x∈xQ n↔x<n
 |0=>by simp[xQ]
 |n+1=>by simp only[xQ,dZ,zl x n];omega
theorem AY{m:Nat}:∀{l:List ao},fo m l->∀o∈l,o.under m
 |[],_,_,h=>by cases h
 |x::r,h,o,ho=>by
  simp only[fo] at h;rcases dZ.1 ho with rfl|ho
  ·exact h.1
  exact AY h.2 o ho
mutual
theorem bw{m:Nat}:∀d:D,Pure d->aq m d
 | .dW,_=>by simp only[aq]
 | .sc _,_=>by simp only[aq]
 | .gv _,_=>by simp only[aq]
 | .loc ..,h=>by simp only[Pure] at h
 | .elt ..,h=>by simp only[Pure] at h
 | .own ..,h=>by simp only[Pure] at h
 | .mp ..,h=>by simp only[Pure] at h
 | .aB cs,h=>by simp only[Pure] at h;simp only[aq];exact bu cs h
 | .aM _ xs,h=>by simp only[Pure] at h;simp only[aq];exact aV xs h
 | .fn _ a b,h=>by simp only[Pure] at h;simp only[aq];exact⟨bu a h.1,bu b h.2⟩
 | .ifc _ d,h=>by simp only[Pure] at h;simp only[aq];exact bw d h
 | .agg cs,h=>by simp only[Pure] at h;simp only[aq];exact bu cs h
 | .aI cs,h=>by simp only[Pure] at h;simp only[aq];exact bu cs h
theorem bu{m:Nat}:∀d:List D,an d->au m d
 |[],_=>by simp only[au]
 |d::r,h=>by simp only[an] at h;simp only[au];exact⟨bw d h.1,bu r h.2⟩
theorem aV{m:Nat}:∀d:List<|List D,fc d->bg m d
 |[],_=>by simp only[bg]
 |d::r,h=>by simp only[fc] at h;simp only[bg];exact⟨bu d h.1,aV r h.2⟩
end
mutual
theorem iT{ρ:Nat->Nat}:∀d:D,Pure d->D.aQ ρ d=d
 | .dW,_=>by simp only[D.aQ]
 | .sc _,_=>by simp only[D.aQ]
 | .gv _,_=>by simp only[D.aQ]
 | .loc ..,h=>by simp only[Pure] at h
 | .elt ..,h=>by simp only[Pure] at h
 | .own ..,h=>by simp only[Pure] at h
 | .mp ..,h=>by simp only[Pure] at h
 | .aB cs,h=>by simp only[Pure] at h;simp only[D.aQ,mo cs h]
 | .aM _ xs,h=>by simp only[Pure] at h;simp only[D.aQ,kQ xs h]
 | .fn _ a b,h=>by simp only[Pure] at h;simp only[D.aQ,mo a h.1,mo b h.2]
 | .ifc _ d,h=>by simp only[Pure] at h;simp only[D.aQ,iT d h]
 | .agg cs,h=>by simp only[Pure] at h;simp only[D.aQ,mo cs h]
 | .aI cs,h=>by simp only[Pure] at h;simp only[D.aQ,mo cs h]
theorem mo{ρ:Nat->Nat}:∀d:List D,an d->bP ρ d=d
 |[],_=>by simp only[bP]
 |d::r,h=>by simp only[an] at h;simp only[bP,iT d h.1,mo r h.2]
theorem kQ{ρ:Nat->Nat}:∀d:List<|List D,fc d->lz ρ d=d
 |[],_=>by simp only[lz]
 |d::r,h=>by simp only[fc] at h;simp only[lz,mo d h.1,kQ r h.2]
end
theorem M4{ρ:Nat->Nat}:∀d:List D,(bP ρ d).length=d.length
 |[]=>by simp only[bP]
 |d::r=>by simp only[bP,bH,M4 r]
theorem OZ{ρ:Nat->Nat}:∀d:List<|List D,(lz ρ d).length=d.length
 |[]=>by simp only[lz]
 |d::r=>by simp only[lz,bH,OZ r]
section
variable{J:bf}{F:Nat->Prop}{w:ba}{ρ:Nat->Nat}
mutual
theorem yW:∀(d:D) (v:aP),rep (λi=>J<|ρ i) F w d v↔rep J F w (D.aQ ρ d) v
 | .dW,v=>by simp only[D.aQ,rep]
 | .sc u,v=>by simp only[D.aQ,rep]
 | .gv u,v=>by simp only[D.aQ,rep]
 | .loc ..,v=>by simp only[D.aQ,rep]
 | .elt ..,v=>by simp only[D.aQ,rep]
 | .own ..,v=>by simp only[D.aQ,rep]
 | .mp ..,v=>by simp only[D.aQ,rep]
 | .aB cs,v=>by
  simp only[D.aQ,rep];exact⟨λ⟨b,o,h1,h2,h3⟩=>⟨b,o,h1,h2,(yv b cs o).1 h3⟩,λ⟨b,o,h1,h2,h3⟩=>⟨b,o,h1,h2,(yv b cs o).2 h3⟩⟩
 | .aM e xs,v=>by
  simp only[D.aQ,rep,OZ]
  exact⟨λ⟨A,n,c,h1,h2,h3,h4⟩=>⟨A,n,c,h1,h2,h3,h4.imp_right λ⟨b,o,k1,k2,k3⟩=>⟨b,o,k1,k2,(BU b e xs o).1 k3⟩⟩,
   λ⟨A,n,c,h1,h2,h3,h4⟩=>⟨A,n,c,h1,h2,h3,h4.imp_right λ⟨b,o,k1,k2,k3⟩=>⟨b,o,k1,k2,(BU b e xs o).2 k3⟩⟩⟩
 | .fn f a b,v=>by
  simp only[D.aQ,rep];exact⟨λ⟨vs,us,h1,h2,h3⟩=>⟨vs,us,h1,(s6 a vs).1 h2,(s6 b us).1 h3⟩,λ⟨vs,us,h1,h2,h3⟩=>⟨vs,us,h1,(s6 a vs).2 h2,(s6 b us).2 h3⟩⟩
 | .ifc t d,v=>by
  simp only[D.aQ,rep];exact⟨λ⟨u,h1,h2⟩=>⟨u,h1,(yW d u).1 h2⟩,λ⟨u,h1,h2⟩=>⟨u,h1,(yW d u).2 h2⟩⟩
 | .agg cs,v=>by
  simp only[D.aQ,rep];exact⟨λ⟨vs,h1,h2⟩=>⟨vs,h1,(s6 cs vs).1 h2⟩,λ⟨vs,h1,h2⟩=>⟨vs,h1,(s6 cs vs).2 h2⟩⟩
 | .aI cs,v=>by
  simp only[D.aQ,rep];exact⟨λ⟨vs,h1,h2⟩=>⟨vs,h1,(s6 cs vs).1 h2⟩,λ⟨vs,h1,h2⟩=>⟨vs,h1,(s6 cs vs).2 h2⟩⟩
theorem s6:∀(d:List D) (v:List aP),bB (λi=>J<|ρ i) F w d v↔bB J F w (bP ρ d) v
 |[],v=>by simp only[bP,bB]
 |d::r,v=>by
  simp only[bP,bB];exact⟨λ⟨u,us,h1,h2,h3⟩=>⟨u,us,h1,(yW d u).1 h2,(s6 r us).1 h3⟩,λ⟨u,us,h1,h2,h3⟩=>⟨u,us,h1,(yW d u).2 h2,(s6 r us).2 h3⟩⟩
theorem yv(b:Nat):∀(d:List D) (o:Nat),eY (λi=>J<|ρ i) F w b d o↔eY J F w b (bP ρ d) o
 |[],o=>by simp only[bP,eY]
 |d::r,o=>by
  simp only[bP,eY];exact⟨λ⟨⟨u,h1,h2,h3⟩,h4⟩=>⟨⟨u,h1,h2,(yW d u).1 h3⟩,(yv b r<|o+1).1 h4⟩,λ⟨⟨u,h1,h2,h3⟩,h4⟩=>⟨⟨u,h1,h2,(yW d u).2 h3⟩,(yv b r<|o+1).2 h4⟩⟩
theorem BU(b ak:Nat):∀(d:List<|List D) (o:Nat),fD (λi=>J<|ρ i) F w b ak d o↔fD J F w b ak (lz ρ d) o
 |[],o=>by simp only[lz,fD]
 |d::r,o=>by
  simp only[lz,fD,M4];exact⟨λ⟨h1,h2,h3⟩=>⟨h1,(yv b d o).1 h2,(BU b ak r<|o+ak).1 h3⟩,λ⟨h1,h2,h3⟩=>⟨h1,(yv b d o).2 h2,(BU b ak r<|o+ak).2 h3⟩⟩
end
variable{o:ao}
theorem GB{s:Site}:oW (λi=>J<|ρ i) F w s o↔oW J F w s (o.aQ ρ):=by
 cases o with
 |row m cs =>
  simp only[ao.aQ,oW,M4];exact⟨λ⟨h1,h2,h3,h4,h5,b,vals,te,k1,k2,k3,k4,k5⟩=>⟨h1,h2,h3,h4,h5,b,vals,te,k1,k2,k3,(yv b cs 0).1 k4,k5⟩,λ⟨h1,h2,h3,h4,h5,b,vals,te,k1,k2,k3,k4,k5⟩=>⟨h1,h2,h3,h4,h5,b,vals,te,k1,k2,k3,(yv b cs 0).2 k4,k5⟩⟩
 |vec m aw ak xs =>
  simp only[ao.aQ,oW,OZ]
  exact⟨λ⟨h1,h2,h3,h4,h5,h6⟩=>⟨h1,h2,h3,h4,h5,h6.imp_right λ⟨b,o,vals,te,k1,k2,k3,k4,k5⟩=>⟨b,o,vals,te,k1,k2,k3,(BU b ak xs o).1 k4,k5⟩⟩,
   λ⟨h1,h2,h3,h4,h5,h6⟩=>⟨h1,h2,h3,h4,h5,h6.imp_right λ⟨b,o,vals,te,k1,k2,k3,k4,k5⟩=>⟨b,o,vals,te,k1,k2,k3,(BU b ak xs o).2 k4,k5⟩⟩⟩
 |eU m I=>exact Iff.rfl
theorem Jq:(o.aQ ρ).mut=o.mut:=by cases o<;>rfl
end
def dV(m:Nat)(J:bf):bf:=λi=>if i<m then J i else none
section
variable{J:bf}{F:Nat->Prop}{w:ba}{m:Nat}
mutual
theorem Dk:∀(d:D) (v:aP),aq m d->rep J F w d v->rep (dV m J) F w d v
 | .dW,v,_,_=>by simp only[rep]
 | .sc u,v,_,h=>by simpa only[rep] using h
 | .gv u,v,_,h=>by simpa only[rep] using h
 | .loc id off,v,hu,h=>by
  simp only[aq] at hu;simp only[rep,dV,ae hu] at h⊢;exact h
 | .elt id aw i off,v,hu,h=>by
  simp only[aq] at hu;simp only[rep,dV,ae hu] at h⊢;exact h
 | .own id aw lo hi,v,hu,h=>by
  simp only[aq] at hu;simp only[rep,dV,ae hu] at h⊢;exact h
 | .mp id,v,hu,h=>by
  simp only[aq] at hu;simp only[rep,dV,ae hu] at h⊢;exact h
 | .aB cs,v,hu,h=>by
  simp only[aq] at hu;simp only[rep] at h⊢;obtain⟨b,o,h1,h2,h3⟩:=h;exact⟨b,o,h1,h2,Gg b cs o hu h3⟩
 | .aM e xs,v,hu,h=>by
  simp only[aq] at hu;simp only[rep] at h⊢;obtain⟨A,n,c,h1,h2,h3,h4⟩:=h;exact⟨A,n,c,h1,h2,h3,h4.imp_right λ⟨b,o,k1,k2,k3⟩=>⟨b,o,k1,k2,Jc b e xs o hu k3⟩⟩
 | .fn f a b,v,hu,h=>by
  simp only[aq] at hu;simp only[rep] at h⊢;obtain⟨vs,us,h1,h2,h3⟩:=h;exact⟨vs,us,h1,Bm a vs hu.1 h2,Bm b us hu.2 h3⟩
 | .ifc t d,v,hu,h=>by
  simp only[aq] at hu;simp only[rep] at h⊢;obtain⟨u,h1,h2⟩:=h;exact⟨u,h1,Dk d u hu h2⟩
 | .agg cs,v,hu,h=>by
  simp only[aq] at hu;simp only[rep] at h⊢;obtain⟨vs,h1,h2⟩:=h;exact⟨vs,h1,Bm cs vs hu h2⟩
 | .aI cs,v,hu,h=>by
  simp only[aq] at hu;simp only[rep] at h⊢;obtain⟨vs,h1,h2⟩:=h;exact⟨vs,h1,Bm cs vs hu h2⟩
theorem Bm:∀(d:List D) (v:List aP),au m d->bB J F w d v->bB (dV m J) F w d v
 |[],v,_,h=>by simpa only[bB] using h
 |d::r,v,hu,h=>by
  simp only[au] at hu;simp only[bB] at h⊢;obtain⟨u,us,h1,h2,h3⟩:=h;exact⟨u,us,h1,Dk d u hu.1 h2,Bm r us hu.2 h3⟩
theorem Gg(b:Nat):∀(d:List D) (o:Nat),au m d->eY J F w b d o->eY (dV m J) F w b d o
 |[],o,_,h=>by simp only[eY]
 |d::r,o,hu,h=>by
  simp only[au] at hu;simp only[eY] at h⊢;obtain⟨⟨u,h1,h2,h3⟩,h4⟩:=h;exact⟨⟨u,h1,h2,Dk d u hu.1 h3⟩,Gg b r (o+1) hu.2 h4⟩
theorem Jc(b ak:Nat):∀(d:List<|List D) (o:Nat),bg m d->fD J F w b ak d o->fD (dV m J) F w b ak d o
 |[],o,_,h=>by simp only[fD]
 |d::r,o,hu,h=>by
  simp only[bg] at hu;simp only[fD] at h⊢;exact⟨h.1,Gg b d o hu.1 h.2.1,Jc b ak r (o+ak) hu.2 h.2.2⟩
end
theorem ON{s:Site}{o:ao}(hu:o.under m)(h:oW J F w s o):oW (dV m J) F w s o:=by
 cases o with
 |row q cs =>
  obtain⟨h1,h2,h3,h4,h5,b,vals,te,k1,k2,k3,k4,k5⟩:=h;exact⟨h1,h2,h3,h4,h5,b,vals,te,k1,k2,k3,Gg b cs 0 hu k4,k5⟩
 |vec q aw ak xs =>
  obtain⟨h1,h2,h3,h4,h5,h6⟩:=h;exact⟨h1,h2,h3,h4,h5,h6.imp_right λ⟨b,o,vals,te,k1,k2,k3,k4,k5⟩=>⟨b,o,vals,te,k1,k2,k3,Jc b ak xs o hu k4,k5⟩⟩
 |eU q I=>exact h
end
mutual
theorem HC:∀d:D,D.aQ (λi=>i) d=d
 | .dW|.sc _|.gv _|.loc ..|.elt ..|.own ..|.mp ..=>by simp only[D.aQ]
 | .aB cs=>by simp only[D.aQ,vl cs]
 | .aM e xs=>by simp only[D.aQ,Ng xs]
 | .fn f a b=>by simp only[D.aQ,vl a,vl b]
 | .ifc t d=>by simp only[D.aQ,HC d]
 | .agg cs=>by simp only[D.aQ,vl cs]
 | .aI cs=>by simp only[D.aQ,vl cs]
theorem vl:∀d:List D,bP (λi=>i) d=d
 |[]=>by simp only[bP]
 |d::r=>by simp only[bP,HC d,vl r]
theorem Ng:∀d:List<|List D,lz (λi=>i) d=d
 |[]=>by simp only[lz]
 |d::r=>by simp only[lz,vl d,Ng r]
end
theorem G9(o:ao):o.aQ (λi=>i)=o:=by cases o<;>simp only[ao.aQ,vl,Ng]
open Classical in
noncomputable def back(ρ:Nat->Nat)(n:Nat)(id:Nat):Option Nat:=if h:∃i,i<n/\ρ i=id then some<|Classical.choose h else none
variable{ρ:Nat->Nat}{n:Nat}
theorem oY{id i:Nat}(h:back ρ n id=some i):i<n/\ρ i=id:=by
 unfold back at h;split at h
 ·rename_i hh;cases h;exact Classical.choose_spec hh
 cases h
theorem Ao{id:Nat}(h:back ρ n id=none):∀i,i<n->ρ i≠id:=by
 unfold back at h;split at h
 ·cases h
 rename_i hh;exact λi hi e=>hh ⟨i,hi,e⟩
theorem Ts{i:Nat}(inj:∀i j,i<n->j<n->ρ i=ρ j->i=j)(hi:i<n):back ρ n (ρ i)=some i:=by
 cases h:back ρ n<|ρ i with
 |none=>exact absurd rfl (Ao h i hi)
 |some j =>
  obtain⟨h1,h2⟩:=oY h;rw[inj j i h1 hi h2]
section
variable{P:bI}{f:FuncId}
theorem nI{α:Type}{l:List α}{i:Nat}{x:α}(h:l[i]? = some x):i<l.length:=by
 rcases dY i l.length with q|q
 ·exact q
 rw[cY q] at h;cases h
theorem MU{args:List D}{H0 H0':List ao}{d:D}(ρ:Nat->Nat)(hA:cp P f args H0 d H0')(inj:∀i j,i<H0'.length->j<H0'.length->ρ i=ρ j->i=j){vs:List aP}{G G':Nat->Option ao}(cE:cH J F w G)
  (hold:∀i o,H0[i]? = some o->G (ρ i)=some (o.aQ ρ)) (o7:∀i,H0.length<=i->i<H0'.length->J (ρ i)=none) (si:bB J F w (bP ρ args) vs)
  (h1:∀i o,H0'[i]? = some o->G' (ρ i)=some (o.aQ ρ)) (h2:∀j,(∀i,i<H0'.length->ρ i≠j)->G' j=G j)
  (iH:au H0.length args) (pY:∀o∈H0,o.under H0.length) :
  Calls P f vs.toArray w λe w'=>∃v J' F',e=.returned v/\cH J' F' w' G'/\(∀id,J' id≠none->J id≠none\/∃i,i<H0'.length/\ρ i=id)/\rep J' F' w' (D.aQ ρ d) v/\Ext J F w J' F' w':=by
 obtain⟨aC,U',jX⟩:=hA;have Kk:∀i,i<H0.length->H0[i]? = some (H0[i]!):=λi hi=>by rw[List.getElem!_eq_getElem?_getD,aJ hi];rfl
 have pH:cH (dV H0.length λi=>J<|ρ i) F w λi=>H0[i]?:=by
  refine⟨λi s hs=>?_,λi i' s s' b g1 g2 g3 g4=>?_,λi s b o g1 g2 g3 g4=>?_,cE.lt⟩
  ·unfold dV at hs;split at hs
   ·rename_i hi;have ho:=Kk i hi;refine⟨_,ho,ON (pY _<|nB ho)<|GB.2 ?_⟩;obtain⟨o',q1,q2⟩:=cE.obj (ρ i) s hs;rw[hold i _ ho] at q1;cases q1;exact q2
   cases hs
  ·unfold dV at g1 g2;split at g1<;>split at g2
   ·exact inj i i' (by omega) (by omega)<|cE.one (ρ i) (ρ i') s s' b g1 g2 g3 g4
   all_goals first|cases g1|cases g2
  unfold dV at g1;split at g1
  ·exact cE.apart (ρ i) s b (o.aQ ρ) g1 g2 (hold i o g3)<|by rw[Jq];exact g4
  cases g1
 have vI:∀id,dV H0.length (λi=>J<|ρ i) id≠none->id<H0.length:=λid hid=>by
  unfold dV at hid;split at hid
  ·assumption
  exact absurd rfl hid
 have JW:bB (dV H0.length λi=>J<|ρ i) F w args vs:=Bm _ _ iH<|(s6 args vs).2 si;have own0:∀b,jU (dV H0.length λi=>J<|ρ i) b->∃i s,i<H0.length/\J (ρ i)=some s/\s.c9=some b:=λb ⟨i,s,hs,hb⟩=>by
  unfold dV at hs;split at hs
  ·exact⟨i,s,by assumption,hs,hb⟩
  cases hs
 have main:=jX _ F w vs pH vI JW;refine Calls.mono main λe w' ⟨v,J0',F',he,uC,Kg,J7,ex⟩=>?_
 let J':bf:=λid=>match back ρ H0'.length id with|some i=>J0' i|none=>J id
 have jat:∀i,i<H0'.length->J' (ρ i)=J0' i:=λi hi=>by simp only[J',Ts inj hi]
 have jno:∀id,back ρ H0'.length id=none->J' id=J id:=λid h=>by simp only[J',h]
 have hle:J.le J':=λid s hs=>by
  cases e:back ρ H0'.length id with
  |none=>exact⟨s,by rw[jno id e];exact hs,aT _,λ_=>rfl⟩
  |some i =>
   obtain⟨k1,rfl⟩:=oY e;have hi:i<H0.length:=by
    rcases dY i H0.length with q|q
    ·exact q
    rw[o7 i q k1] at hs;cases hs
   obtain⟨s',g1,g2⟩:=ex.le i s (by simp only[dV,ae hi];exact hs);exact⟨s',by rw[jat i k1];exact g1,g2⟩
 have hleρ:J0'.le λi=>J'<|ρ i:=λi s hs=>⟨s,by
  dsimp only;rw[jat i<|Kg i<|by rw[hs];simp];exact hs,aT _,λ_=>rfl⟩
 have nown:∀id s b,back ρ H0'.length id=none->J id=some s->s.c9=some b->¬jU (dV H0.length λi=>J<|ρ i) b:=λid s b hb hs kE ho=>by
  obtain⟨i,s',k1,k2,k3⟩:=own0 b ho;exact Ao hb i (by omega)<|cE.one (ρ i) id s' s b k2 hs k3 kE
 refine⟨v,J',F',he,⟨λid s hs=>?_,λid jn s s' b g1 g2 g3 g4=>?_,λid s b o g1 g2 g3 g4=>?_,uC.lt⟩,λid hid=>?_,(yW d v).1<|kq hleρ (λ_ h=>h) (λ_ _=>rfl) _ _ J7,?_⟩
 ·cases e:back ρ H0'.length id with
  |some i =>
   obtain⟨k1,rfl⟩:=oY e;rw[jat i k1] at hs;obtain⟨o,q1,q2⟩:=uC.obj i s hs;exact⟨o.aQ ρ,h1 i o q1,GB.1<|rI hleρ (λ_ h=>h) (λ_ _=>rfl) (λ_ _=>rfl) q2⟩
  |none =>
   rw[jno id e] at hs;obtain⟨o,q1,q2⟩:=cE.obj id s hs;refine⟨o,?_,rI hle ex.grow ex.frozen (λb hb=>ex.block b (cE.jy hs hb)<|nown id s b e hs hb) q2⟩;rw[h2 id λi hi=>Ao e i hi];exact q1
 ·cases e:back ρ H0'.length id with
  |some i =>
   obtain⟨k1,rfl⟩:=oY e;rw[jat i k1] at g1
   cases e':back ρ H0'.length jn with
   |some i' =>
    obtain⟨zg,rfl⟩:=oY e';rw[jat i' zg] at g2;rw[uC.one i i' s s' b g1 g2 g3 g4]
   |none =>
    rw[jno jn e'] at g2;rcases ex.oQ b ⟨i,s,g1,g3⟩ with q|q
    ·exact absurd q<|nown jn s' b e' g2 g4
    have:=cE.jy g2 g4;omega
  |none =>
   rw[jno id e] at g1
   cases e':back ρ H0'.length jn with
   |some i' =>
    obtain⟨zg,rfl⟩:=oY e';rw[jat i' zg] at g2;rcases ex.oQ b ⟨i',s',g2,g4⟩ with q|q
    ·exact absurd q<|nown id s b e g1 g3
    have:=cE.jy g1 g3;omega
   |none =>
    rw[jno jn e'] at g2;exact cE.one id jn s s' b g1 g2 g3 g4
 ·have qN:G' id=some o:=g3
  cases e:back ρ H0'.length id with
  |some i =>
   obtain⟨k1,rfl⟩:=oY e;rw[jat i k1] at g1;obtain⟨o0,q1,_⟩:=uC.obj i s g1;rw[h1 i o0 q1] at qN;cases qN;exact uC.apart i s b o0 g1 g2 q1<|by rw[Jq] at g4;exact g4
  |none =>
   rw[jno id e] at g1;rw[h2 id λi hi=>Ao e i hi] at qN;intro hx;rcases ex.pc b hx with q|q|q
   ·exact cE.apart id s b o g1 g2 qN g4 q
   ·exact nown id s b e g1 g2 q
   have:=cE.jy g1 g2;omega
 ·cases e:back ρ H0'.length id with
  |some i =>
   obtain⟨k1,rfl⟩:=oY e;exact .inr ⟨i,k1,rfl⟩
  |none =>
   rw[jno id e] at hid;exact .inl hid
 refine⟨ex.os,ex.tape,ex.output,ex.size,λb hb hn=>ex.block b hb λho=>?_,ex.frozen,hle,ex.grow,λb ⟨id,s,hs,hb⟩=>?_,λb hb=>?_⟩
 ·obtain⟨i,s,_,k2,k3⟩:=own0 b ho;exact hn ⟨ρ i,s,k2,k3⟩
 ·cases e:back ρ H0'.length id with
  |some i =>
   obtain⟨k1,rfl⟩:=oY e;rw[jat i k1] at hs;refine(ex.oQ b ⟨i,s,hs,hb⟩).imp_left λq=>?_;obtain⟨k,s',_,k2,k3⟩:=own0 b q;exact⟨ρ k,s',k2,k3⟩
  |none =>
   rw[jno id e] at hs;exact .inl ⟨id,s,hs,hb⟩
 rcases ex.pc b hb with q|q|q
 ·exact .inl q
 ·obtain⟨k,s',_,k2,k3⟩:=own0 b q;exact .inr (.inl ⟨ρ k,s',k2,k3⟩)
 exact .inr (.inr q)
end
end
section
section
variable{P:bI}{seq:Bool}{o:Oper}{env:Env}{H:List ao}{K:pQ}
variable{x:a8}
theorem zzs{src dst:bl}{k0 k:IntKind}(hs:P.underlying src=some (.int k0))(hd:P.underlying dst=some (.int k))(ho:o.op=.convert src dst x)(h:step P seq (.conv k x) env H K):Sound P o env H K:=by
 simp only[step,gB] at h;split at h
 ·rename_i q n e;refine ga (BA _ _ _ h) λJ F w a G _ aU _=>⟨_,?_,rfl⟩;have k1:=aU x (by simp[ho,Op.operands]);rw[e] at k1;simp only[rep] at k1;simp[execOp,ho,k1,convert,underlying,program,Sem.run,hs,hd,Conv.intToInt,pure]
 exact h.elim
variable{e:bl}
theorem zzb{src dst:bl}(hs:P.underlying src=some (.slice e))(hd:P.underlying dst=some .string)(he:P.underlying e=some (.int .u8))(ho:o.op=.convert src dst x)(h:step P seq (.Kh x) env H K):Sound P o env H K:=by
 simp only[step,gB] at h;obtain⟨ys,rd,⟨ns,rfl,hK⟩,hy⟩:=Qd h;refine ga hK λJ F w a G aC aU cW=>?_;obtain⟨A,c,us,q1,⟨r1,_,r3⟩,q3⟩:=hy J F w G _ aC cW<|aU x (by simp[ho,Op.operands]);have FO:us=ns.map (Value.int .u8):=by
  apply qC;intro j;rw[cU];by_cases hj:j<ns.length
  ·obtain⟨u,p1,_,p3⟩:=(r3 j [.sc (.int .u8 ns[j])]<|by rw[cU,aJ hj];rfl).2 0 _ rfl;simp only[rep] at p3;subst p3;rw[Nat.mul_one,uL] at p1;rw[p1,aJ hj];rfl
  rw[cY<|by rw[r1];simpa using hj,cY<|by omega];rfl
 rw[aK] at q1;refine⟨_,?_,rfl⟩;have key:(convert src dst<|a.eval x).run P w=.ok (.string<|ns.foldl (λr n=>r.push<|UInt8.ofNat n.toNat) ByteArray.empty) w:=by
  rw[q1,run_convert_bytes_string w src dst e A _ c hs he hd];rcases q3 with⟨rfl,q⟩|⟨ad,rfl,q⟩
  ·have:ns=[]:=by simpa using q
   subst this;simp[Conv.bytesToString,pure,Sem.run]
  refine run_bytesToString w ad _ c ns ?_;have:=run_loadCells_list (P:=P) w ad us q;rwa [FO,aK] at this
 simp only[execOp,ho,Sem.run_bind,key,Result.andThen_ok,pure,Sem.run]
variable{args:Array a8}{ts:Array bl}
theorem zAn{y:a8}(ha:args.toList=[x,y])(ho:o.op=.call { callee:=.builtin .max,args:=args,argTypes:=ts })(h:step P seq (.mx true x y) env H K):Sound P o env H K:=by
 obtain⟨args⟩:=args;simp only at ha;subst ha;simp only[step,gB] at h;split at h
 ·rename_i k n e1;split at h
  ·rename_i k' m e2;refine ga h λJ F w a G _ aU _=>⟨_,?_,rfl⟩;have k1:=aU x (by simp[ho,Op.operands,Call.operands]);have k2:=aU y (by simp[ho,Op.operands,Call.operands]);rw[e1] at k1;rw[e2] at k2;simp only[rep] at k1 k2;have e:(if m>n then m else n)=max n m:=(by omega);simp only[execOp,ho,resolve,invoke,builtin,Sem.run_bind,Sem.run,pure,Result.andThen_ok,Gs,fi,gm,k1,k2];have hr:=Go.run_max_int2 (P:=P) w ts o.type k k' n m;rw[e] at hr;rw[hr];rfl
  exact h.elim
 exact h.elim
theorem YI{y:a8}(ha:args.toList=[x,y])(ho:o.op=.call { callee:=.builtin .min,args:=args,argTypes:=ts })(h:step P seq (.mx false x y) env H K):Sound P o env H K:=by
 obtain⟨args⟩:=args;simp only at ha;subst ha;simp only[step,gB] at h;split at h
 ·rename_i k n e1;split at h
  ·rename_i k' m e2;refine ga h λJ F w a G _ aU _=>⟨_,?_,rfl⟩;have k1:=aU x (by simp[ho,Op.operands,Call.operands]);have k2:=aU y (by simp[ho,Op.operands,Call.operands]);rw[e1] at k1;rw[e2] at k2;simp only[rep] at k1 k2;have e:(if m<n then m else n)=min n m:=(by omega);simp only[execOp,ho,resolve,invoke,builtin,Sem.run_bind,Sem.run,pure,Result.andThen_ok,Gs,fi,gm,k1,k2];have hr:=Go.run_min_int2 (P:=P) w ts o.type k k' n m;rw[e] at hr;rw[hr];rfl
  exact h.elim
 exact h.elim
theorem VM{J:bf}{F:Nat->Prop}{w:ba}:∀(cs:List D) (vs:List aP),AW cs->bB J F w cs vs->vs=cs.map scV
 |[],vs,_,h=>by simp only[bB] at h;simp[h]
 |d::r,vs,h,k=>by
  simp only[bB] at k;obtain⟨v,us,rfl,h1,h2⟩:=k;simp only[AW] at h
  cases d with
  |sc u =>
   simp only[isScalar] at h;simp only[rep] at h1;subst h1;rw[fi,<-VM r us h h2];rfl
  |_=>simp[isScalar] at h
theorem MA{d:D}{K':aP->Prop}(h:Ft d K'):∃key,K' key/\∀(J:bf) (F:Nat->Prop) (w:ba) (v:aP),rep J F w d v->v=key:=by
 unfold Ft at h;split at h
 ·rename_i u;exact⟨u,h,λJ F w v hv=>by simpa only[rep] using hv⟩
 ·rename_i cs;refine⟨_,h.2,λJ F w v hv=>?_⟩;simp only[rep] at hv;obtain⟨vs,rfl,k⟩:=hv;rw[VM cs vs h.1 k]
 exact h.elim
variable{t kt:bl}
theorem zwS(ho:o.op=.makeMap t none)(h:step P seq (.FH kt) env H K):Sound P o env H K:=by
 simp only[step,xX] at h;refine CR h λJ F w a G aC aU cW hn=>?_
 obtain⟨h1,h2⟩:=aC.QM H.length hn ⟨true,0,some ⟨w.heap.size,0,none⟩,1,1,1⟩ (.eU true<|lK P kt λ_=>none) (.map #[] 0) rfl
  ⟨rfl,w.heap.size,#[],0,rfl,heap_alloc_new w _,by simp,by simp,by simp⟩
 refine⟨.map<|some w.heap.size,_,_,F,?_,?_,h1,h2,λi hi=>by simp[hi]⟩
 ·simp only[execOp,ho,Option.map_none,Sem.run_bind,run_makeMap,Result.andThen_ok];rfl
 simp only[rep];exact⟨_,w.heap.size,by simp;rfl,rfl,rfl,rfl⟩
theorem Nk{G:Nat->Option ao}(h:cH J F w G){id:Nat}{v:aP}{m:Bool}{I:Array MapEntry->Prop}(h1:rep J F w (.mp id) v)(h3:G id=some (.eU m I)) :
  ∃s b es clock,J id=some s/\s.row/\s.ad=some ⟨b,0,none⟩/\v=.map (some b)/\w.heap[b]? = some (.map es clock)/\I es:=by
 simp only[rep] at h1;obtain⟨s,b,q1,q2,q3,rfl⟩:=h1;obtain⟨o,k1,k2⟩:=h.obj id s q1;rw[h3] at k1;cases k1;obtain⟨_,b',es,clock,p1,p2,p3⟩:=k2;rw[q3] at p1;cases p1;exact⟨s,b,es,clock,q1,q2,q3,rfl,p2,p3⟩
variable{m:a8}
theorem zzg{z:aP}(ht:P.underlying t=some (.map kt e))(hz:(P.info? e).bind (·.zero)=some z)(pR:gE z)(ho:o.op=.lookup t m x true)(h:step P seq (.look kt z m x) env H K):Sound P o env H K:=by
 simp only[step,gB] at h;split at h
 ·rename_i id e1;obtain⟨ob,h1,h2⟩:=(lB _ _ _).1 h;split at h2
  ·rename_i mm I;obtain⟨key,⟨f,rfl,Kd,⟨l,hl⟩,hS,hN⟩,lk⟩:=MA h2
   have go:∀(ok:Bool) (v:aP),(∀(J:bf) (F:Nat->Prop) (w:ba) (a:Act) (b:Nat) (es:Array MapEntry) (clock:Nat),w.heap[b]? = some (.map es clock)->lK P kt f es->(Instr.lookup t (.map<|some b) key true).run P w=.ok (.tuple #[v,.bool ok]) w) ->
     K (.aI [.sc v,.sc (.bool ok)]) H [id] []->Sound P o env H K:=λok v jX hK=>by
    refine ga hK λJ F w a G aC aU cW=>?_;have k1:=aU m (by simp[ho,Op.operands]);have k2:=lk J F w _<|aU x (by simp[ho,Op.operands]);rw[e1] at k1;obtain⟨s,b,es,clock,q1,q2,q3,q4,q5,q6⟩:=Nk aC k1 (by rw[cW id<|by simp];exact h1);refine⟨.tuple #[v,.bool ok],?_,?_⟩
    ·simp[execOp,ho,q4,k2,jX J F w a b es clock q5 q6,Sem.run,pure]
    simp only[rep];exact⟨[v,.bool ok],rfl,by simp only[bB];exact⟨v,[.bool ok],rfl,by simp only[rep],.bool ok,[],rfl,by simp only[rep],rfl⟩⟩
   cases hf:f key with
   |some v =>
    refine go true v (λJ F w a b es clock hb hI=>?_)<|hS v hf;obtain⟨i1,i2,i3⟩:=hI;rcases Kd.find w hl es.toList i1 with⟨g1,g2⟩|⟨j,e0,g1,g2,g3⟩
    ·obtain⟨e0,g3,g4⟩:=i3 key v hf;exact absurd g4<|g2 e0 g3
    have:=i2 e0<|nB g2;rw[g3,hf] at this;cases this;simp[Instr.lookup,run_underlying ht,MapKept.run_getObj_map hb,Kd.check w _ hl,g1,Result.andThen]
   |none =>
    refine go false z (λJ F w a b es clock hb hI=>?_)<|hN hf;obtain⟨i1,i2,i3⟩:=hI;rcases Kd.find w hl es.toList i1 with⟨g1,g2⟩|⟨j,e0,g1,g2,g3⟩
    ·simp[Instr.lookup,run_underlying ht,MapKept.run_getObj_map hb,Kd.check w _ hl,g1,Hi hz,Result.andThen]
    have:=i2 e0<|nB g2;rw[g3,hf] at this;cases this
  exact h2.elim
 exact h.elim
theorem zwf(ht:P.underlying t=some (.map kt e))(ho:o.op=.lookup t m x false)(h:step P seq (.Mr kt m x) env H K):Sound P o env H K:=by
 simp only[step,gB] at h;split at h
 ·rename_i id e1;obtain⟨ob,h1,h2⟩:=(lB _ _ _).1 h;split at h2
  ·rename_i mm I;obtain⟨key,⟨f,rfl,Kd,⟨l,hl⟩,v,hf,hK⟩,lk⟩:=MA h2;refine ga hK λJ F w a G aC aU cW=>?_;have k1:=aU m (by simp[ho,Op.operands]);have k2:=lk J F w _<|aU x (by simp[ho,Op.operands]);rw[e1] at k1;obtain⟨s,b,es,clock,q1,q2,q3,q4,hb,hI⟩:=Nk aC k1 (by rw[cW id<|by simp];exact h1);have jX:(Instr.lookup t (.map<|some b) key false).run P w=.ok v w:=by
    obtain⟨i1,i2,i3⟩:=hI;rcases Kd.find w hl es.toList i1 with⟨g1,g2⟩|⟨j,e0,g1,g2,g3⟩
    ·obtain⟨e0,g3,g4⟩:=i3 key v hf;exact absurd g4<|g2 e0 g3
    have:=i2 e0<|nB g2;rw[g3,hf] at this;cases this;simp[Instr.lookup,run_underlying ht,MapKept.run_getObj_map hb,Kd.check w _ hl,g1,Result.andThen]
   refine⟨v,?_,by simp only[rep]⟩;simp[execOp,ho,q4,k2,jX,Sem.run,pure]
  exact h2.elim
 exact h.elim
theorem zzF{v:a8}(ht:P.underlying t=some (.map kt e))(ho:o.op=.mapUpdate t m x v)(h:step P seq (.OD kt m x v) env H K):Sound P o env H K:=by
 simp only[step,gB] at h;split at h
 ·rename_i id e1;obtain⟨ob,h1,h2⟩:=(lB _ _ _).1 h;split at h2
  ·rename_i I;obtain⟨key,h3,lk⟩:=MA h2;split at h3
   ·rename_i u e2;obtain⟨f,rfl,Kd,⟨l,hl⟩,hf,h4⟩:=h3;obtain⟨h5,h6⟩:=(vU _ _ _ _).1 h4;refine MF h5 h6 λJ F w a G aC aU hG=>?_;have k1:=aU m (by simp[ho,Op.operands]);have k2:=lk J F w _<|aU x (by simp[ho,Op.operands]);have k3:=aU v (by simp[ho,Op.operands]);rw[e1] at k1;rw[e2] at k3;simp only[rep] at k3;obtain⟨s,b,es,clock,q1,q2,q3,q4,q5,i1,i2,i3⟩:=Nk aC k1<|hG.trans h1;have kj:s.c9=some b:=(by simp[Site.c9,q2,q3]);have mU:¬F b:=aC.apart id s b _ q1 kj (hG.trans h1) rfl;have S8:∀e∈es.toList,e.key≠key:=λe he q=>by
     have:=i2 e he;rw[q,hf] at this;cases this
    have zKo:(Instr.findKey kt key es.toList).run P w=.ok none w:=by
     rcases Kd.find w hl es.toList i1 with⟨g1,_⟩|⟨j,e0,_,g2,g3⟩
     ·exact g1
     exact absurd g3<|S8 e0<|nB g2
    have jX:(Instr.mapUpdate t (.map<|some b) key u).run P w=.ok () { w with heap:=w.heap.setIfInBounds b (.map (es.push { key,val:=u,born:=clock })<|clock+1) }:=by
     simp[Instr.mapUpdate,run_underlying ht,MapKept.run_getObj_map q5,Kd.check w false hl,zKo,MapKept.run_setObj_map _ q5,Result.andThen]
    have J3:∀i,i≠b->(w.heap.setIfInBounds b (.map (es.push { key,val:=u,born:=clock })<|clock+1))[i]? = w.heap[i]?:=λi hi=>(MapKept.heap_set q5).2 i hi;have pA:∀z,F z->(w.heap.setIfInBounds b (.map (es.push { key,val:=u,born:=clock })<|clock+1))[z]? = w.heap[z]?:=λz xw=>J3 z λe=>mU<|e▸xw;refine⟨.skip,{ w with heap:=w.heap.setIfInBounds b (.map (es.push { key,val:=u,born:=clock }) (clock+1)) },?_,.inr rfl,rfl,?_,⟨rfl,rfl,rfl,by simp,λx hx hn=>J3 x λe=>hn ⟨id,s,q1,by rw[e];exact kj⟩,pA,bf.le_refl J,λ_ h=>h,λx hx=>.inl hx,λx hx=>.inl hx⟩⟩
    ·simp only[execOp,ho,q4,k2,k3,jX,Sem.run_bind,Result.andThen_ok];rfl
    refine aC.update id s _ (λi=>by split;· rename_i e;rw[e];exact q1
                                    rfl) (λ_=>rfl) (bf.le_refl J) pA (by simp) (λi s' b' bT hi hb=>J3 b' λe=>bT<|aC.one i id s' s b' hi q1 hb<|e▸kj) (λb' hb=>.inr ⟨s,q1,hb⟩) (λi s' b' hi hb=>aC.jy hi hb) (λb' hb _=>by rw[kj] at hb;cases hb;exact mU) ?_
    refine⟨q2,b,_,_,q3,(MapKept.heap_set q5).1,?_,?_,?_⟩
    ·intro e he;rw[Array.toList_push,dt,cB] at he;rcases he with he|rfl
     ·exact i1 e he
     exact⟨l,hl⟩
    ·intro e he;rw[Array.toList_push,dt,cB] at he;unfold pO;rcases he with he|rfl
     ·rw[ab<|S8 e he];exact i2 e he
     rw[ae rfl]
    intro k' v' al;unfold pO at al;rw[Array.toList_push];split at al
    ·rename_i e;cases al;exact⟨_,yN _<|cB.2 rfl,e.symm⟩
    obtain⟨e,g1,g2⟩:=i3 k' v' al;exact⟨e,Ep _ g1,g2⟩
   exact h3.elim
  exact h2.elim
 exact h.elim
end
end
section
def VS(P:bI)(o:Oper)(env:Env)(H:List ao)(d:D)(H2:List ao):Prop :=
 H.length<=H2.length/\∀(J:bf) (F:Nat->Prop) (w:ba) (a:Act),cH J F w (λi=>H[i]?)->(∀id,J id≠none->id<H.length)->(∀x∈o.op.operands,rep J F w (fU env x)<|a.eval x) ->
  ∀(K:Act->ba->Prop) (Q:Exit->Act->ba->Prop),
   (∀v w' J' F',rep J' F' w' d v->cH J' F' w' (λi=>H2[i]?)->Ext J F w J' F' w'->(∀id,J' id≠none->id<H2.length)->K (a.put o.dst v) w')->o.wp P a w K Q
theorem OpS.seq{P:bI}{o:Oper}{env:Env}{rd wr:List Nat}{H:List ao}{d:D}{H2:List ao}(h:OpS P o env rd wr H d H2):VS P o env H d H2:=by
 refine⟨h.len,λJ F w a aC kA aU K Q hK=>h.run J F w a _ aC aU (λ_ _=>rfl) (λid hl _=>?_) K Q λv w' J' F' h1 h2 h3 h4=>?_⟩
 ·cases e:J id with
  |none=>rfl
  |some s=>have:=kA id (by rw[e];simp);omega
 refine hK v w' J' F' h1 ?_ h3 λid hid=>?_
 ·have:upd (λi=>H[i]?) wr H2=λi=>H2[i]?:=by
   funext i;unfold upd;split
   ·rfl
   rename_i hi;exact(h.frame i hi).symm
  rwa [this] at h2
 rcases dY id H2.length with hl|hl
 ·exact hl
 have hw:id ∉ wr:=λhw=>by have:=h.lt id hw;omega
 have hJ:J id=none:=by
  cases e:J id with
  |none=>rfl
  |some s=>have:=kA id (by rw[e];simp);have:=h.len;omega
 exact absurd (h4 id hJ hw) hid
variable{G:Nat->Option ao}
theorem cH.wS(h:cH J F w G)(hb:∀b,b<w.heap.size->w'.heap[b]? = w.heap[b]?)(fT:w.heap.size<=w'.heap.size)(hF:∀b,F b->F' b)(Lf:∀b,F' b->F b\/w.heap.size<=b)(ck:∀b,F' b->b<w'.heap.size):cH J F' w' G where
 obj id s hi:=by
  obtain⟨o,h1,h2⟩:=h.obj id s hi;exact⟨o,h1,rI (bf.le_refl J) hF (λb hx=>hb b<|h.lt b hx) (λb hx=>hb b<|h.jy hi hx) h2⟩
 one:=h.one
 apart id s b o hi hs hg hm hx:=by
  rcases Lf b hx with q|q
  ·exact h.apart id s b o hi hs hg hm q
  have:=h.jy hi hs;omega
 lt:=h.lt.mono hF (λb hx=>hb b<|h.lt b hx) ck
theorem p'(b:Nat):¬jU jP b:=λ⟨_,_,h,_⟩=>by cases h
theorem HN(J:bf):jP.le J:=λ_ _ h=>by cases h
theorem Ext.Wr(aC:cH J F w G)(h:Ext jP F w jP F' w'):Ext J F w J F' w' :=
 ⟨h.os,h.tape,h.output,h.size,λb hb _=>h.block b hb<|p' b,h.frozen,bf.le_refl J,h.grow,λb hb=>.inl hb,λb hb=>(h.pc b hb).imp_right λq=>.inr<|q.resolve_left<|p' b⟩
section
variable{J:bf}{F:Nat->Prop}{w:ba}{H:List ao}{G:Nat->Option ao}
mutual
theorem Ip(aC:cH J F w G)(hG:∀(id:Nat) (o:ao),H[id]? = some o->G id=some o):∀(d e:D) (v:aP),Deep H d e->rep J F w d v->rep J (λb=>F b\/jU J b) w e v
 |d,_,v,.refl _,h=>kq (bf.le_refl J) (λ_ h=>.inl h) (λ_ _=>rfl) d v h
 |_,_,v,.dW _,_=>by simp only[rep]
 |_,_,v,.none ak,h=>by
  simp only[rep] at h⊢;exact⟨none,0,0,h,rfl,aT _,.inl rfl⟩
 |_,_,v,.loc id off m cs ds h k,hv=>by
  simp only[rep] at hv⊢;obtain⟨s,b,h1,h2,h3,rfl⟩:=hv;have hc:=Ev (Km aC h1 h3 (hG _ _ h)) off;refine⟨b,off,rfl,.inr ⟨id,s,h1,by simp[Site.c9,h2,h3]⟩,?_⟩;rw[lZ] at hc;exact NA aC hG _ _ b off k hc
 |_,_,v,.own id aw lo hi ak m xs ys h k,hv=>by
  simp only[rep] at hv⊢;obtain⟨s,A,n,c,h1,rfl,h2,h3⟩:=hv;obtain⟨p1,p2,p3,p4,p5,p6⟩:=wq aC h1 (hG _ _ h);obtain⟨t1,t2,t3,rfl,rfl,t6⟩:=h3 p2.symm;have hl:ys.length=hi-lo:=by
   rw[<-Pb _ _ k];simp;omega
  refine⟨A,_,_,rfl,hl.symm,by omega,?_⟩;rcases t6 with t6|⟨b,o,t6,rfl⟩
  ·exact .inl<|by omega
  rcases p6 with p6|⟨b',o',vals,te,e,q1,q2,q3,q4⟩
  ·exact .inl<|by omega
  rw[t6] at e;cases e;by_cases hz:s.cap=0
  ·exact .inl<|by omega
  refine .inr ⟨b,_,rfl,.inr ⟨id,s,h1,by simp[Site.c9,hz,t6]⟩,?_⟩;rw[p3];exact Uf aC hG _ _ b ak _ k<|Bh q3 lo hi
 |_,_,v,.fn f a b c e h k,hv=>by
  simp only[rep] at hv⊢;obtain⟨vs,us,rfl,h2,h3⟩:=hv;exact⟨vs,us,rfl,wY aC hG _ _ vs h h2,wY aC hG _ _ us k h3⟩
 |_,_,v,.ifc t d e h,hv=>by
  simp only[rep] at hv⊢;obtain⟨u,rfl,h2⟩:=hv;exact⟨u,rfl,Ip aC hG _ _ u h h2⟩
 |_,_,v,.agg a b h,hv=>by
  simp only[rep] at hv⊢;obtain⟨vs,rfl,h2⟩:=hv;exact⟨vs,rfl,wY aC hG _ _ vs h h2⟩
 |_,_,v,.aI a b h,hv=>by
  simp only[rep] at hv⊢;obtain⟨vs,rfl,h2⟩:=hv;exact⟨vs,rfl,wY aC hG _ _ vs h h2⟩
theorem wY(aC:cH J F w G)(hG:∀(id:Nat) (o:ao),H[id]? = some o->G id=some o):∀(d e:List D) (v:List aP),jg H d e->bB J F w d v->bB J (λb=>F b\/jU J b) w e v
 |_,_,v,.nil,h=>by simp only[bB] at h⊢;exact h
 |_,_,v,.cons d e a b h k,hv=>by
  simp only[bB] at hv⊢;obtain⟨u,us,rfl,h2,h3⟩:=hv;exact⟨u,us,rfl,Ip aC hG _ _ u h h2,wY aC hG _ _ us k h3⟩
theorem NA(aC:cH J F w G)(hG:∀(id:Nat) (o:ao),H[id]? = some o->G id=some o):∀(d e:List D) (b o:Nat),jg H d e->eY J F w b d o->eY J (λb=>F b\/jU J b) w b e o
 |_,_,b,o,.nil,h=>by simp only[eY]
 |_,_,b,o,.cons d e x y h k,hv=>by
  simp only[eY] at hv⊢;obtain⟨⟨u,h1,h2,h3⟩,h4⟩:=hv;exact⟨⟨u,h1,h2,Ip aC hG _ _ u h h3⟩,NA aC hG _ _ b (o+1) k h4⟩
theorem Uf(aC:cH J F w G)(hG:∀(id:Nat) (o:ao),H[id]? = some o->G id=some o):∀(d e:List<|List D) (b ak o:Nat),n4 H d e->fD J F w b ak d o->fD J (λb=>F b\/jU J b) w b ak e o
 |_,_,b,ak,o,.nil,h=>by simp only[fD]
 |_,_,b,ak,o,.cons d e x y h k,hv=>by
  simp only[fD] at hv⊢;obtain⟨h1,h2,h3⟩:=hv;exact⟨by rw[<-UW _ _ h];exact h1,NA aC hG _ _ b o h h2,Uf aC hG _ _ b ak (o+ak) k h3⟩
theorem UW:∀(d e:List D),jg H d e->d.length=e.length
 |_,_,.nil=>rfl
 |_,_,.cons d e a b _ k=>by simp[UW a b k]
theorem Pb:∀(d e:List<|List D),n4 H d e->d.length=e.length
 |_,_,.nil=>rfl
 |_,_,.cons d e a b _ k=>by simp[Pb a b k]
end
theorem NS{J':bf}{F':Nat->Prop}{w':ba}:∀(ds:List D) (vs:List aP),AW ds->bB J F w ds vs->bB J' F' w' ds vs
 |[],vs,_,h=>by simp only[bB] at h⊢;exact h
 |d::r,vs,hs,h=>by
  simp only[AW] at hs;simp only[bB] at h⊢;obtain⟨v,us,rfl,h2,h3⟩:=h
  cases e:isScalar d with
  |false=>rw[e] at hs;cases hs
  |true =>
   rw[e] at hs;refine⟨v,us,rfl,?_,NS r us hs h3⟩;cases d<;>simp[isScalar] at e;simpa only[rep] using h2
theorem zsp{d:D}{v:aP}(hb:Gq d)(h:rep J F w d v):rep J' F' w' d v:=by
 cases d<;>simp[Gq] at hb
 case sc=>simpa only[rep] using h
 case agg cs=>simp only[rep] at h⊢;obtain⟨vs,h1,h2⟩:=h;exact⟨vs,h1,NS cs vs hb h2⟩
 case aI cs=>simp only[rep] at h⊢;obtain⟨vs,h1,h2⟩:=h;exact⟨vs,h1,NS cs vs hb h2⟩
end
section
variable{P:bI}{seq:Bool}{o:Oper}{env:Env}{H:List ao}{K:pQ}
variable{f:FuncId}
theorem BJ{vs:Array aP}{a:Act}{K:Act->ba->Prop}{Q:Exit->Act->ba->Prop}{R:Ending->ba->Prop}(jX:(execOp a.eval o).run P w=.ok (.enter f vs) w)(hc:Calls P f vs w R)
  (hR:∀e w',R e w'->∃v,e=.returned v/\K (a.put o.dst v) w'):o.wp P a w K Q:=by
 unfold Oper.wp;rw[jX,Oper.upon_enter];exact hc.mono λe w' h=>by
  obtain⟨v,rfl,hk⟩:=hR e w' h;exact hk
def wM(P:bI)(o:Oper)(env:Env)(H:List ao)(K:pQ):Prop :=
 ∀(J:bf) (F:Nat->Prop) (w:ba) (a:Act),cH J F w (λi=>H[i]?)->(∀id,J id≠none->id<H.length)->(∀x∈o.op.operands,rep J F w (fU env x)<|a.eval x) ->
  ∀(K2:Act->ba->Prop) (Q:Exit->Act->ba->Prop),
   (∀d H2 rd wr v w' J' F',K d H2 rd wr->rep J' F' w' d v->cH J' F' w' (λi=>H2[i]?)->Ext J F w J' F' w'->(∀id,J' id≠none->id<H2.length)->K2 (a.put o.dst v) w')->o.wp P a w K2 Q
theorem U8{d:D}{H2:List ao}{rd wr:List Nat}(h:VS P o env H d H2)(hK:K d H2 rd wr):wM P o env H K:=λJ F w a aC kA aU K2 Q FP =>
 h.2 J F w a aC kA aU K2 Q λv w' J' F' h1 h2 h3 h4=>FP d H2 rd wr v w' J' F' hK h1 h2 h3 h4
theorem zst(h:Sound P o env H K):wM P o env H K:=let⟨_,_,_,_,h1,h2⟩:=h;U8 h1.seq h2
theorem wV:∀H:List ao,yH H=H.map ao.frozen
 |[]=>rfl
 |o::r=>by simp only[yH,fi,wV r]
theorem Vk{args:List D}{vals:Act->List aP}(jX:∀(a:Act) (w:ba),Az P f->(∀(J:bf) (F:Nat->Prop),(∀x∈o.op.operands,rep J F w (fU env x)<|a.eval x)->(execOp a.eval o).run P w=.ok (.enter f (vals a).toArray) w))
  (iH:∀(J:bf) (F:Nat->Prop) (w:ba) (a:Act),(∀x∈o.op.operands,rep J F w (fU env x)<|a.eval x)->bB J F w args (vals a)) (h:Nr P seq f args H K) :
  Sound P o env H K\/(seq=true/\wM P o env H K):=by
 rcases h with⟨d,⟨hf,hp⟩,hK⟩|⟨args',d,hd,⟨hf,hp⟩,hb,hK⟩|⟨hs,d,H2,⟨hf,hl,hp⟩,hK⟩|⟨d,H2,hu,huo,hA,hK⟩|⟨d,H2,L,hA,hK⟩|⟨hs,args',d,hd,⟨hf,hp⟩,hK⟩|⟨d,L,hA,hK⟩
 ·refine .inl ⟨d,H,[],[],⟨λ_ _=>rfl,aT _,(λ_ h=>by cases h),λJ F w a G aC aU _ _ K Q hK=>?_⟩,hK⟩;refine BJ (jX a w hf J F aU) (hp J F w _ aC.lt<|iH J F w a aU) λe w' hR=>?_;obtain⟨v,F',rfl,h1,h2,h3⟩:=hR;refine⟨v,rfl,hK v w' J F' (kq (HN J) (λ_ h=>h) (λ_ _=>rfl) _ _ h2) ?_ (Ext.Wr aC h3) λ_ h _=>h⟩;rw[zN];exact aC.wS (λb hb=>h3.block b hb<|p' b) h3.size h3.grow (λb hb=>(h3.pc b hb).imp_right λq=>q.resolve_left<|p' b) h1
 ·refine .inl ⟨d,H,List.range H.length,[],⟨λ_ _=>rfl,aT _,(λ_ h=>by cases h),λJ F w a G aC aU cW _ K Q hK=>?_⟩,hK⟩;have hG:∀(id:Nat) (o:ao),H[id]? = some o->G id=some o:=λid o h=>by
   rw[cW id (.inl ?_)]
   ·exact h
   rw[fX];rcases dY id H.length with hl|hl
   ·exact hl
   rw[cY hl] at h;cases h
  have ck:∀b,F b\/jU J b->b<w.heap.size:=λb hb=>hb.elim (aC.lt b) λ⟨i,s,hi,hs⟩=>aC.jy hi hs;refine BJ (jX a w hf J F aU) (hp J _ w _ (aC.lt.mono (λ_ h=>.inl h) (λ_ _=>rfl) ck)<|wY aC hG _ _ _ hd<|iH J F w a aU) λe w' hR=>?_;obtain⟨v,F',rfl,h1,h2,h3⟩:=hR;have kE:∀b,b<w.heap.size->w'.heap[b]? = w.heap[b]?:=λb hb=>h3.block b hb<|p' b;refine⟨v,rfl,hK v w' J F (zsp hb h2) ?_ ⟨h3.os,h3.tape,h3.output,h3.size,λb hb _=>kE b hb,λb hb=>kE b<|aC.lt b hb,bf.le_refl J,λ_ h=>h,λb hb=>.inl hb,λb hb=>.inl hb⟩ λ_ h _=>h⟩;rw[zN];exact aC.wS kE h3.size (λ_ h=>h) (λb hb=>.inl hb) λb hb=>vh (aC.lt b hb) h3.size
 ·refine .inr ⟨hs,U8 (d:=d) (H2:=H2) (rd:=[]) (wr:=[]) ⟨hl,λJ F w a aC kA aU K Q hK=>?_⟩ hK⟩;refine BJ (jX a w hf J F aU) (hp J F w _ aC kA<|iH J F w a aU) λe w' hR=>?_;obtain⟨v,J',F',rfl,h1,h2,h3,h4⟩:=hR;exact⟨v,rfl,hK v w' J' F' h3 h1 h4 h2⟩
 ·refine .inl ⟨d,H2,xQ H2.length,xQ H2.length,⟨λid hid=>?_,hA.len,λid hid=>(zl id _).1 hid,λJ F w a G aC aU cW Gh K Q hK=>?_⟩,hK⟩
  ·have h1:¬id<H2.length:=λh=>hid<|(zl id _).2 h;have:=hA.len;rw[cY<|by omega,cY<|by omega]
  have core:=MU (G:=G) (G':=upd G (xQ H2.length) H2) (λi=>i) hA (λi j _ _ h=>h) aC (λi o ho=>by
   rw[G9,cW i (.inl<|(zl i _).2<|vh (nI ho) hA.len)];exact ho) (λi h1 h2=>Gh i h1<|(zl i _).2 h2) (by rw[vl];exact iH J F w a aU) (λi o ho=>by
   rw[G9];unfold upd;rw[ae<|(zl i _).2<|nI ho];exact ho) (λj hj=>by
   unfold upd;rw[ab λh=>hj j ((zl j _).1 h) rfl]) hu (AY huo)
  refine BJ (jX a w hA.ok J F aU) core λe w' hR=>?_;obtain⟨v,J',F',rfl,h1,h2,h3,h4⟩:=hR;rw[HC] at h3;refine⟨v,rfl,hK v w' J' F' h3 h1 h4 λid hid hw=>?_⟩
  cases e:J' id with
  |none=>rfl
  |some s =>
   rcases h2 id (by rw[e];simp) with q|⟨i,q1,q2⟩
   ·exact absurd hid q
   subst q2;exact absurd ((zl i _).2 q1) hw
 ·refine .inl ⟨d,H2,L,L,⟨λid hid=>hA.frame id hid,hA.len,λid hid=>hA.lt id hid,λJ F w a G aC aU cW Gh K Q hK=>?_⟩,hK⟩;refine BJ (jX a w hA.ok J F aU) (hA.run J F w _ G aC (λid hid=>cW id (.inl hid)) (λid hid h=>Gh id h hid)<|iH J F w a aU) λe w' hR=>?_;obtain⟨v,J',F',rfl,h1,h2,h3,h4⟩:=hR;refine⟨v,rfl,hK v w' J' F' h3 h1 h4 λid hid hw=>?_⟩
  cases e:J' id with
  |none=>rfl
  |some s =>
   rcases h2 id (by rw[e];simp) with q|q
   ·exact absurd hid q
   exact absurd q hw
 ·refine .inr ⟨hs,λJ F w a aC kA aU K2 Q FP=>?_⟩;have ck:∀b,F b\/jU J b->b<w.heap.size:=λb hb=>hb.elim (aC.lt b) λ⟨i,s,hi,hs⟩=>aC.jy hi hs;refine BJ (jX a w hf J F aU) (hp J (λb=>F b\/jU J b) w _ (aC.lt.mono (λ_ h=>.inl h) (λ_ _=>rfl) ck)<|wY aC (λ_ _ h=>h) _ _ _ hd<|iH J F w a aU) λe w' hR=>?_;obtain⟨v,F',rfl,h1,h2,h3⟩:=hR;have kE:∀b,b<w.heap.size->w'.heap[b]? = w.heap[b]?:=λb hb=>h3.block b hb<|p' b;refine⟨v,rfl,FP d _ [] [] v w' J F' hK (kq (HN J) (λ_ h=>h) (λ_ _=>rfl) _ _ h2) ⟨λi s hs=>?_,aC.one,λi s b o g1 g2 g3 g4=>?_,aC.lt.mono (λb hb=>h3.grow b (.inl hb)) (λb hb=>kE b<|aC.lt b hb) h1⟩ ?_ λid hid=>?_⟩
  ·obtain⟨o,q1,q2⟩:=aC.obj i s hs;refine⟨o.frozen,?_,?_⟩
   ·rw[wV,cU,q1];rfl
   have q3:=rI (J':=J) (F':=F') (w':=w') (bf.le_refl J) (λb hb=>h3.grow b (.inl hb)) (λb hb=>kE b<|aC.lt b hb) (λb hb=>kE b<|aC.jy hs hb) q2
   cases o with
   |row m cs =>
    obtain⟨k1,k2,k3,k4,k5,b,vals,te,t1,t2,t3,t4,t5⟩:=q3;exact⟨k1,k2,k3,k4,k5,b,vals,te,t1,t2,t3,t4,λ_=>h3.grow b (.inr ⟨i,s,hs,by simp[Site.c9,k1,t1]⟩)⟩
   |vec m v e xs =>
    obtain⟨k1,k2,k3,k4,k5,k6⟩:=q3;refine⟨k1,k2,k3,k4,k5,?_⟩;by_cases hz:s.cap=0
    ·exact .inl hz
    rcases k6 with k6|⟨b,o,vals,te,t1,t2,t3,t4,t5⟩
    ·exact .inl k6
    exact .inr ⟨b,o,vals,te,t1,t2,t3,t4,λ_=>h3.grow b (.inr ⟨i,s,hs,by simp[Site.c9,k1,hz,t1]⟩)⟩
   |eU m I=>exact q3
  ·exfalso;rw[wV,cU] at g3
   cases e:H[i]? with
   |none=>rw[e] at g3;cases g3
   |some x =>
    rw[e] at g3;cases x<;>cases g3<;>cases g4
  ·exact⟨h3.os,h3.tape,h3.output,h3.size,λb hb _=>kE b hb,λb hb=>kE b<|aC.lt b hb,bf.le_refl J,λb hb=>h3.grow b (.inl hb),λb hb=>.inl hb,λb hb=>by
    rcases h3.pc b hb with q|q|q
    ·rcases q with q|q
     ·exact .inl q
     exact .inr (.inl q)
    ·exact absurd q<|p' b
    exact .inr (.inr q)⟩
  have:=kA id hid;rw[wV,aK];exact this
 refine .inl ⟨d,H,L,[],⟨λ_ _=>rfl,aT _,(λ_ h=>by cases h),λJ F w a G aC aU cW _ K Q hK=>?_⟩,hK⟩;refine BJ (jX a w hA.ok J F aU) (hA.run J F w _ G aC (λid hid=>cW id (.inl hid))<|iH J F w a aU) λe w' hR=>?_;obtain⟨v,J',F',rfl,h1,h2,h3,h4⟩:=hR;refine⟨v,rfl,hK v w' J' F' h3 (by rw[zN];exact h1) h4 λid hid _=>?_⟩
 cases e:J' id with
 |none=>rfl
 |some s=>exact absurd hid<|h2 id<|by rw[e];simp
theorem LU{J:bf}{F:Nat->Prop}{w:ba}{a:Act}:∀(xs:List a8),(∀x∈xs,rep J F w (fU env x)<|a.eval x)->bB J F w (xs.map<|fU env) (xs.map a.eval)
 |[],_=>by simp only[gm,bB]
 |x::r,h=>by
  simp only[fi,bB];exact⟨_,_,rfl,h x<|by simp,LU r λy hy=>h y<|by simp[hy]⟩
theorem Sv{args:Array aP}(h:Az P f):(callFunc f args).run P w=.ok (.enter f args) w:=by
 obtain⟨fn,h1,h2,h3⟩:=h;simp only[beq_eq_false_iff_ne,ne_eq] at h2;simp[callFunc,program,Sem.run,h1,h2,pure];intro hb;simp[hb] at h3
variable{args:Array a8}{ts:Array bl}
theorem Za(ho:o.op=.call { callee:=.value (.func f),args,argTypes:=ts })(h:step P seq (.call f args.toList) env H K) :
  Sound P o env H K\/(seq=true/\wM P o env H K):=by
 simp only[step,Jv] at h;refine Vk (vals:=λa=>args.toList.map a.eval) (λa w hf J F aU=>?_) (λJ F w a aU=>LU _ λx hx=>aU x ?_) h
 ·have e1:args.map a.eval=(args.toList.map a.eval).toArray:=(by apply Array.ext';simp);simp[execOp,ho,resolve,Deferred.ofValue,Act.eval,invoke,Sv hf,Sem.run,pure,e1]
 simp[ho,Op.operands,Call.operands];exact .inr<|by simpa using hx
variable{x:a8}
theorem XZ(ho:o.op=.call { callee:=.value x,args,argTypes:=ts })(h:step P seq (.dN x args.toList) env H K) :
  Sound P o env H K\/(seq=true/\wM P o env H K):=by
 simp only[step,gB,Jv] at h;split at h
 ·rename_i f first cap e
  have BI:∀(J:bf) (F:Nat->Prop) (w:ba) (a:Act),(∀x∈o.op.operands,rep J F w (fU env x)<|a.eval x)->∃vs us,a.eval x=.func (.func f) vs.toArray us.toArray/\bB J F w first vs/\bB J F w cap us:=λJ F w a aU=>by
   have:=aU x (by simp[ho,Op.operands,Call.operands]);rw[e] at this;simpa only[rep] using this
  refine Vk (vals:=λa=>match a.eval x with
   | .func _ vs us=>vs.toList++args.toList.map a.eval++us.toList
   |_=>[]) (λa w hf J F aU=>?_) (λJ F w a aU=>?_) h
  ·obtain⟨vs,us,e1,_,_⟩:=BI J F w a aU;simp only[e1];simp only[execOp,ho,resolve,e1,Deferred.ofValue,pure,Sem.run_bind,Sem.run,Result.andThen_ok,invoke,Sv hf]
   congr 2
   apply Array.ext';simp
  obtain⟨vs,us,e1,e2,e3⟩:=BI J F w a aU;simp only[e1];refine Gu (Gu (by simpa using e2)<|LU _ λy hy=>aU y ?_) (by simpa using e3);simp[ho,Op.operands,Call.operands];exact .inr<|by simpa using hy
 exact h.elim
theorem zur{t u e e':bl}{y:a8}{z:aP}(ha:args.toList=[x,y])(ko:ts.toList=[t,u])(ht:P.underlying t=some (.slice e))(hu:P.underlying u=some (.slice e'))(hz:(P.info? e).bind (·.zero)=some z)(qZ:z.cells.size=P.cellsOf e)(l5:0<P.cellsOf e)(Bg:0<P.bytesOf e)
  (ho:o.op=.call { callee:=.builtin .append,args,argTypes:=ts }) (h:step P seq (.append (P.cellsOf e) (P.bytesOf e) x y) env H K):Sound P o env H K:=by
 have ea:args=#[x,y]:=Array.ext' (by simpa using ha);have et:ts=#[t,u]:=Array.ext' (by simpa using ko);subst ea et;simp only[step,gB] at h;obtain⟨ys,rd,h,hy⟩:=Qd h;split at h
 ·rename_i e1;obtain⟨h1,h2⟩:=h;rw[xX] at h2;exact Zw ht hu hz qZ l5 Bg rfl ho e1 hy h1 h2
 ·rename_i id aw lo hi e1;obtain⟨ob,h1,h2⟩:=(lB _ _ _).1 h;split at h2
  ·rename_i cf lU zs;obtain⟨hv,h2⟩:=h2;subst hv;obtain⟨he,h3,h4⟩:=(qP _ _ _).1 h2;subst he;obtain⟨_,h5⟩:=(vU _ _ _ _).1 h4;exact zlq ht hu hz qZ l5 Bg rfl ho e1 h1 hy h3 h5
  exact h2.elim
 exact h.elim
end
end
end Go.Proofs.YtolilnhippapaaaGreat
