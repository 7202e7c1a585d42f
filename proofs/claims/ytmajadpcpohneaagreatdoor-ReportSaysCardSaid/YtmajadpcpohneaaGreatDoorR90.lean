/-
  Parts of a proof, joined. No statement is proved here.
-/
import Derived.WalkKit
import Derived.Below
import Derived.Lib.Hide
import Derived.Laws.MakeOwn
import Derived.Laws.Append
import Derived.Deep.AppendSrc
import Derived.Maps.Keyed
import Derived.Laws.BytesString
import Derived.Carry
namespace Go.Proofs.YtmajadpcpohneaaGreatDoor
set_option linter.unusedSimpArgs false
set_option linter.unusedVariables false
set_option maxRecDepth 100000
set_option maxHeartbeats 8000000
set_option linter.unusedSectionVars false
theorem ab : type_of% @if_neg := @if_neg
theorem a8 : type_of% @List.getD_eq_getElem?_getD := @List.getD_eq_getElem?_getD
theorem aX : type_of% @List.getElem?_eq_getElem := @List.getElem?_eq_getElem
theorem ae : type_of% @if_pos := @if_pos
theorem aI : type_of% @List.length_map := @List.length_map
theorem aS : type_of% @Nat.le_refl := @Nat.le_refl
theorem bO : type_of% @Int.toNat_natCast := @Int.toNat_natCast
theorem cL : type_of% @List.length_append := @List.length_append
theorem cV : type_of% @List.mem_singleton := @List.mem_singleton
theorem dG : type_of% @List.getElem?_eq_none := @List.getElem?_eq_none
theorem fG : type_of% @List.take_of_length_le := @List.take_of_length_le
theorem bH : type_of% @congrArg := @congrArg
theorem dC : type_of% @List.length_cons := @List.length_cons
theorem dz : type_of% @List.mem_append := @List.mem_append
theorem iz : type_of% @List.getElem?_append_left := @List.getElem?_append_left
theorem dM : type_of% @List.take_length := @List.take_length
theorem jF : type_of% @List.getElem?_append_right := @List.getElem?_append_right
theorem fx : type_of% @List.getElem?_map := @List.getElem?_map
theorem fg : type_of% @List.length_take := @List.length_take
theorem dP : type_of% @List.drop_zero := @List.drop_zero
theorem dq : type_of% @List.mem_map := @List.mem_map
theorem iD : type_of% @List.mem_iff_getElem := @List.mem_iff_getElem
theorem fy : type_of% @List.length_nil := @List.length_nil
theorem gr : type_of% @Bool.and_eq_true := @Bool.and_eq_true
theorem eQ : type_of% @List.mem_cons := @List.mem_cons
theorem ig : type_of% @List.append_assoc := @List.append_assoc
theorem gI : type_of% @decide_eq_false := @decide_eq_false
theorem ja : type_of% @decide_eq_true_eq := @decide_eq_true_eq
theorem fR : type_of% @List.map_cons := @List.map_cons
theorem iZ : type_of% @List.getElem_mem := @List.getElem_mem
theorem gQ : type_of% @decide_eq_true := @decide_eq_true
theorem lb : type_of% @List.length_singleton := @List.length_singleton
theorem jP : type_of% @List.take_add_one := @List.take_add_one
theorem gK : type_of% @Nat.lt_or_ge := @Nat.lt_or_ge
theorem kb : type_of% @List.all_eq_true := @List.all_eq_true
theorem jz : type_of% @List.mem_range := @List.mem_range
theorem mW : type_of% @ByteArray.size_append := @ByteArray.size_append
theorem j9 : type_of% @Bool.eq_iff_iff := @Bool.eq_iff_iff
theorem jc : type_of% @List.map_nil := @List.map_nil
theorem lD : type_of% @List.length_drop := @List.length_drop
theorem pM : type_of% @List.length_eq_zero_iff := @List.length_eq_zero_iff
theorem lv : type_of% @List.append_nil := @List.append_nil
theorem jI : type_of% @Nat.le_trans := @Nat.le_trans
theorem ib : type_of% @beq_iff_eq := @beq_iff_eq
theorem mJ : type_of% @List.any_eq_true := @List.any_eq_true
theorem o7 : type_of% @List.mem_of_getElem? := @List.mem_of_getElem?
theorem kP : type_of% @Bool.true_and := @Bool.true_and
theorem uB : type_of% @List.pairwise_iff_getElem := @List.pairwise_iff_getElem
theorem nG : type_of% @List.nil_append := @List.nil_append
theorem lp : type_of% @Nat.zero_add := @Nat.zero_add
theorem pS : type_of% @List.ext_getElem? := @List.ext_getElem?
theorem pH : type_of% @of_decide_eq_true := @of_decide_eq_true
theorem po : type_of% @IntKind.wrap_i64 := @IntKind.wrap_i64
theorem kZ : type_of% @Nat.zero_le := @Nat.zero_le
theorem oD : type_of% @List.map_append := @List.map_append
theorem vi : type_of% @List.getElem?_replicate := @List.getElem?_replicate
theorem wP : type_of% @Array.getElem?_eq_getElem := @Array.getElem?_eq_getElem
theorem pQ : type_of% @List.cons_append := @List.cons_append
theorem yq : type_of% @Array.getD_eq_getD_getElem? := @Array.getD_eq_getD_getElem?
theorem qf : type_of% @List.range_succ := @List.range_succ
theorem u7 : type_of% @List.contains_iff_mem := @List.contains_iff_mem
theorem pT : type_of% @Bool.false_and := @Bool.false_and
theorem vy : type_of% @List.take_succ_cons := @List.take_succ_cons
theorem vj : type_of% @List.map_congr_left := @List.map_congr_left
theorem uY : type_of% @Int.toNat_of_nonneg := @Int.toNat_of_nonneg
theorem sj : type_of% @Option.getD_some := @Option.getD_some
theorem oa : type_of% @Nat.add_mul := @Nat.add_mul
theorem sq : type_of% @Bool.or_eq_true := @Bool.or_eq_true
theorem um : type_of% @List.drop_length := @List.drop_length
theorem uH : type_of% @List.not_mem_nil := @List.not_mem_nil
theorem yH : type_of% @Nat.mul_le_mul_right := @Nat.mul_le_mul_right
theorem Ct : type_of% @List.drop_eq_getElem_cons := @List.drop_eq_getElem_cons
theorem xR : type_of% @List.mem_of_mem_take := @List.mem_of_mem_take
theorem xt : type_of% @Bool.false_eq_true := @Bool.false_eq_true
theorem s5 : type_of% @List.take_zero := @List.take_zero
theorem tU : type_of% @List.length_set := @List.length_set
theorem tZ : type_of% @List.any_append := @List.any_append
theorem uQ : type_of% @Bool.not_eq_true := @Bool.not_eq_true
theorem yI : type_of% @List.getD_cons_succ := @List.getD_cons_succ
theorem xK : type_of% @List.getElem?_range := @List.getElem?_range
theorem zy : type_of% @List.mem_append_right := @List.mem_append_right
theorem Bt : type_of% @decide_eq_false_iff_not := @decide_eq_false_iff_not
theorem B0 : type_of% @List.getElem?_cons_succ := @List.getElem?_cons_succ
theorem yV : type_of% @Nat.lt_of_lt_of_le := @Nat.lt_of_lt_of_le
theorem rp : type_of% @Int.lt_or_le := @Int.lt_or_le
theorem xS : type_of% @Nat.lt_trichotomy := @Nat.lt_trichotomy
theorem yK : type_of% @List.any_eq_false := @List.any_eq_false
theorem Bz : type_of% @Nat.eq_of_beq_eq_true := @Nat.eq_of_beq_eq_true
theorem v7 : type_of% @Nat.min_eq_left := @Nat.min_eq_left
theorem Bq : type_of% @Nat.pow_le_pow_right := @Nat.pow_le_pow_right
theorem ua : type_of% @Nat.sub_zero := @Nat.sub_zero
theorem EP : type_of% @List.getElem?_set_self := @List.getElem?_set_self
theorem DA : type_of% @List.drop_eq_nil_of_le := @List.drop_eq_nil_of_le
theorem B4 : type_of% @Nat.eq_zero_or_pos := @Nat.eq_zero_or_pos
theorem zK : type_of% @Option.bind_some := @Option.bind_some
theorem vW : type_of% @Bool.false_or := @Bool.false_or
theorem wM : type_of% @Bool.or_false := @Bool.or_false
theorem DS : type_of% @List.getElem?_set_ne := @List.getElem?_set_ne
theorem GQ : type_of% @Nat.add_sub_cancel_left := @Nat.add_sub_cancel_left
theorem zg : type_of% @List.mem_filter := @List.mem_filter
theorem Cu : type_of% @Option.some.inj := @Option.some.inj
theorem wU : type_of% @Nat.add_zero := @Nat.add_zero
theorem xb : type_of% @Nat.sub_self := @Nat.sub_self
theorem N4 : type_of% @List.findIdx?_eq_some_iff_getElem := @List.findIdx?_eq_some_iff_getElem
theorem Dr : type_of% @List.getElem?_drop := @List.getElem?_drop
theorem F3 : type_of% @List.length_replicate := @List.length_replicate
theorem yD : type_of% @List.map_map := @List.map_map
theorem Fh : type_of% @List.mem_append_left := @List.mem_append_left
theorem Mn : type_of% @List.drop_append_of_le_length := @List.drop_append_of_le_length
theorem Ea : type_of% @List.ext_getElem := @List.ext_getElem
theorem Bk : type_of% @Nat.mul_le_mul := @Nat.mul_le_mul
theorem y8 : type_of% @Bool.true_or := @Bool.true_or
theorem Gc : type_of% @List.filter_append := @List.filter_append
theorem C4 : type_of% @Option.map_some := @Option.map_some
theorem FX : type_of% @Bool.not_eq_true' := @Bool.not_eq_true'
theorem Hm : type_of% @List.getElem?_set := @List.getElem?_set
theorem FG : type_of% @Bool.eq_false_iff := @Bool.eq_false_iff
theorem Gi : type_of% @List.all_eq_false := @List.all_eq_false
theorem Cf : type_of% @Nat.mul_comm := @Nat.mul_comm
theorem Gr : type_of% @List.getElem_map := @List.getElem_map
theorem II : type_of% @List.drop_succ_cons := @List.drop_succ_cons
theorem It : type_of% @List.getD_cons_zero := @List.getD_cons_zero
theorem I6 : type_of% @List.length_pos_iff := @List.length_pos_iff
theorem E8 : type_of% @Int.natCast_mul := @Int.natCast_mul
theorem BQ : type_of% @Nat.mul_one := @Nat.mul_one
abbrev ak := List (List Int)
abbrev ah := List Int
abbrev aq := Nat → Bool
abbrev aB:=ByteArray
abbrev bn:=Operand
abbrev bG:=Program
abbrev bp:=TypeId
abbrev aW:=Value
abbrev bl:=World
open Go.RowKit
theorem oo:(∀{α:Type} [BEq α] [LawfulBEq α] {a b:α},(a != b)↔a≠b)/\(∀{α:Type} (a b:α),(a≠b)=¬a=b)/\(∀{α:Type} [BEq α] [LawfulBEq α] {a b:α},(a != b)=false↔a=b) /\
  (∀{α:Type} [BEq α] [LawfulBEq α] {a b:α},(a==b)↔a=b)/\(∀{α:Type} [BEq α] [LawfulBEq α] {a b:α},(a==b)=false↔a≠b)/\(∀{p:Prop} [Decidable p],(decide p=true)=p)/\(∀{p:Prop} [Decidable p],decide p=false↔¬p) /\
  (∀{α β:Type} {as:List α} (f:α->β),(List.map f as).length=as.length)/\(∀b:Bool,(¬b)=(b=false))/\(∀b:Bool,(¬b=false)=(b=true))/\(∀a b:Bool,((a&&b)=true)=(a=true/\b))/\(∀a b:Bool,((a||b)=true)=(a=true\/b)) /\
  (∀{x y:Bool},(x&&y)=false↔x=false\/y=false)/\(∀{x y:Bool},(x||y)=false↔x=false/\y=false)/\(∀b:Bool,((!b)=true)=(b=false))/\(∀b:Bool,((!b)=false)=(b=true))/\(!true)=false/\(!false)=true /\
  (∀{a b:Bool},(!a)=b↔a=!b)/\(¬True)=False/\(¬False)=True/\(∀b:Bool,(true||b))/\(∀b:Bool,(false||b)=b)/\(∀b:Bool,(b||true))/\(∀b:Bool,(b||false)=b)/\(∀b:Bool,(true&&b)=b)/\(∀b:Bool,(b&&true)=b) /\
  (∀b:Bool,(false&&b)=false)/\(∀b:Bool,(b&&false)=false)/\(∀p:Prop,(True/\p)=p)/\(∀p:Prop,(p/\True)=p)/\(∀p:Prop,(p\/False)=p)/\(∀p:Prop,(False\/p)=p)/\(∀p:Prop,(True\/p)=True)/\(∀p:Prop,(p\/True)=True) /\
  (∀p:Prop,(False/\p)=False)/\(∀p:Prop,(p/\False)=False)/\(true=false)=False/\(false=true)=False :=
 ⟨bne_iff_ne,ne_eq,bne_eq_false_iff_eq,ib,beq_eq_false_iff_ne,ja,Bt,aI,uQ,Bool.not_eq_false,gr,sq,Bool.and_eq_false_iff,Bool.or_eq_false_iff,FX,Bool.not_eq_false',Bool.not_true,Bool.not_false,
  Bool.not_eq_eq_eq_not,not_true_eq_false,not_false_eq_true,y8,vW,Bool.or_true,wM,kP,Bool.and_true,pT,Bool.and_false,true_and,and_true,or_false,false_or,true_or,or_true,false_and,and_false,Bool.true_eq_false,xt⟩
theorem ll:(∀{α β:Type} {as:List α} (f:α->β),(List.map f as).length=as.length)/\(∀{α:Type} {a:α} {as:List α},(a::as).length=as.length+1)/\(∀{α:Type},([]:List α).length=0)/\(∀{α:Type} {as bs:List α},(as++bs).length=as.length+bs.length) /\
  (∀{α:Type} {i:Nat} {l:List α},(l.take i).length=min i l.length)/\(∀{α:Type} {i:Nat} {l:List α},(l.drop i).length=l.length-i)/\(∀{α:Type} {l:List α},l.drop 0=l)/\(∀{α:Type} {a:α} {as:List α} {i:Nat},(a::as).take (i+1)=a::as.take i)/\(∀{α:Type} {l:List α},l.take 0=[]) :=
 ⟨aI,dC,fy,cL,fg,lD,dP,vy,s5⟩
inductive D where
 |dL
 |sc (v:aW)
 |loc (id off:Nat)
 |elt (id ar i off:Nat)
 |ax (cs:List D)
 |aM (an:Nat) (xs:List (List D))
 |own (id ar lo hi:Nat)
 |fn (f:Fn) (first cap:List D)
 |agg (cs:List D)
 |aJ (cs:List D)
 |mp (id:Nat)
 deriving Inhabited
inductive al where
 |row (m:Bool) (cs:List D) (t:Option bp:=none)
 |vec (m:Bool) (ar an:Nat) (xs:List (List D)) (t:Bool:=false)
 |dV (m:Bool) (I:Array MapEntry->Prop)
 deriving Inhabited
structure Site where
 row:Bool
 ar:Nat
 ad:Option Addr
 an:Nat
 cap:Nat
 len:Nat
def Site.cE(s:Site):Option Nat:=if s.row=false/\s.cap=0 then none else s.ad.map (·.block)
abbrev bh:=Nat->Option Site
def gC:aW->Bool
 | .agg _|.tuple _=>false
 |_=>true
section
variable(J:bh)(F:Nat->Prop)(w:bl)
mutual
def rep:D->aW->Prop
 | .dL,_=>True
 | .sc u,v=>v=u
 | .loc id off,v=>∃s b,J id=some s/\s.row=true/\s.ad=some ⟨b,0,none⟩/\v=.pointer (some ⟨b,off,none⟩)
 | .elt id ar i off,v=>∃s a,J id=some s/\v=.pointer (some a)/\ar<=s.ar/\(ar=s.ar->∃b o,s.row=false/\s.ad=some ⟨b,o,none⟩/\i<s.len/\a=⟨b,o+i*s.an+off,none⟩)
 | .ax cs,v=>∃b o,v=.pointer (some ⟨b,o,none⟩)/\F b/\dY b cs o
 | .aM an xs,v=>∃A n c,v=.slice A n c/\n=xs.length/\n<=c/\(n=0\/∃b o,A=some ⟨b,o,none⟩/\F b/\fm b an xs o)
 | .own id ar lo hi,v=>∃s A n c,J id=some s/\v=.slice A n c/\ar<=s.ar/\(ar=s.ar->s.row=false/\lo<=hi/\hi<=s.len/\n=hi-lo/\c=s.cap-lo/\(s.cap=lo\/∃b o,s.ad=some ⟨b,o,none⟩/\A=some ⟨b,o+lo*s.an,none⟩))
 | .fn f first cap,v=>∃vs us,v=.func f vs.toArray us.toArray/\bA first vs/\bA cap us
 | .agg cs,v=>∃vs,v=.agg vs.toArray/\bA cs vs
 | .aJ cs,v=>∃vs,v=.tuple vs.toArray/\bA cs vs
 | .mp id,v=>∃s b,J id=some s/\s.row=true/\s.ad=some ⟨b,0,none⟩/\v=.map (some b)
def bA:List D->List aW->Prop
 |[],vs=>vs=[]
 |d::ds,vs=>∃v us,vs=v::us/\rep d v/\bA ds us
def dY(b:Nat):List D->Nat->Prop
 |[],_=>True
 |c::r,o=>(∃u,w.cell? ⟨b,o,none⟩=some u/\gC u=true/\rep c u)/\dY b r (o+1)
def fm(b an:Nat):List (List D)->Nat->Prop
 |[],_=>True
 |x::r,o=>x.length=an/\dY b x o/\fm b an r (o+an)
end
end
def bh.le(J J':bh):Prop:=∀id s,J id=some s->∃s',J' id=some s'/\s.ar<=s'.ar/\(s.ar=s'.ar\/s.row->s'=s)
variable(J:bh)
theorem bh.le_refl:J.le J:=λ_ s h=>⟨s,h,aS _,λ_=>rfl⟩
variable{J':bh}
theorem bh.le_trans{J J'':bh}(h:J.le J')(k:J'.le J''):J.le J'':=λid s e=>by
 obtain⟨s1,e1,l1,q1⟩:=h id s e;obtain⟨s2,e2,l2,q2⟩:=k id s1 e1;refine⟨s2,e2,jI l1 l2,λq=>?_⟩;rcases q with q|q
 ·rw[q2 (.inl<|by omega),q1 (.inl<|by omega)]
 have h1:=q1 (.inr q);subst h1;exact q2 (.inr q)
variable{w w':bl}
theorem cell_of_heap{b:Nat}(h:w'.heap[b]? = w.heap[b]?)(o:Nat):w'.cell? ⟨b,o,none⟩=w.cell? ⟨b,o,none⟩:=by
 simp only[World.cell?,h]
section
variable{J J':bh}{F F':Nat->Prop}{w w':bl}
mutual
theorem kO(hJ:J.le J')(hF:∀b,F b->F' b)(hw:∀b,F b->w'.heap[b]? = w.heap[b]?):∀(d:D) (v:aW),rep J F w d v->rep J' F' w' d v
 | .dL,v,_=>by simp only[rep]
 | .sc u,v,h=>by simpa only[rep] using h
 | .loc id off,v,h=>by
  simp only[rep] at h⊢;obtain⟨s,b,h1,h2,h3,h4⟩:=h;obtain⟨s',e,_,q⟩:=hJ id s h1;rw[q (.inr h2)] at e;exact⟨s,b,e,h2,h3,h4⟩
 | .elt id ar i off,v,h=>by
  simp only[rep] at h⊢;obtain⟨s,a,h1,h4,h2,h3⟩:=h;obtain⟨s',e,l,q⟩:=hJ id s h1;refine⟨s',a,e,h4,by omega,λq'=>?_⟩;rw[q (.inl (by omega))];exact h3 (by omega)
 | .ax cs,v,h=>by
  simp only[rep] at h⊢;obtain⟨b,o,h1,h2,h3⟩:=h;exact⟨b,o,h1,hF b h2,FM hJ hF hw b (cell_of_heap (hw b h2)) cs o h3⟩
 | .aM an xs,v,h=>by
  simp only[rep] at h⊢;obtain⟨A,n,c,h1,h2,hc,h3⟩:=h;refine⟨A,n,c,h1,h2,hc,h3.imp id λ⟨b,o,h4,h5,h6⟩=>⟨b,o,h4,hF b h5,Jq hJ hF hw b an (cell_of_heap (hw b h5)) xs o h6⟩⟩
 | .own id ar lo hi,v,h=>by
  simp only[rep] at h⊢;obtain⟨s,A,n,c,h1,h4,h2,h3⟩:=h;obtain⟨s',e,l,q⟩:=hJ id s h1;refine⟨s',A,n,c,e,h4,by omega,λq'=>?_⟩;rw[q (.inl (by omega))];exact h3 (by omega)
 | .fn f first cap,v,h=>by
  simp only[rep] at h⊢;obtain⟨vs,us,h1,h2,h3⟩:=h;exact⟨vs,us,h1,B8 hJ hF hw first vs h2,B8 hJ hF hw cap us h3⟩
 | .agg cs,v,h=>by
  simp only[rep] at h⊢;obtain⟨vs,h1,h2⟩:=h;exact⟨vs,h1,B8 hJ hF hw cs vs h2⟩
 | .aJ cs,v,h=>by
  simp only[rep] at h⊢;obtain⟨vs,h1,h2⟩:=h;exact⟨vs,h1,B8 hJ hF hw cs vs h2⟩
 | .mp id,v,h=>by
  simp only[rep] at h⊢;obtain⟨s,b,h1,h2,h3,h4⟩:=h;obtain⟨s',e,_,q⟩:=hJ id s h1;rw[q (.inr h2)] at e;exact⟨s,b,e,h2,h3,h4⟩
theorem B8(hJ:J.le J')(hF:∀b,F b->F' b)(hw:∀b,F b->w'.heap[b]? = w.heap[b]?):∀(ds:List D) (vs:List aW),bA J F w ds vs->bA J' F' w' ds vs
 |[],vs,h=>by simpa only[bA] using h
 |d::ds,vs,h=>by
  simp only[bA] at h⊢;obtain⟨v,us,h1,h2,h3⟩:=h;exact⟨v,us,h1,kO hJ hF hw d v h2,B8 hJ hF hw ds us h3⟩
theorem FM(hJ:J.le J')(hF:∀b,F b->F' b)(hw:∀b,F b->w'.heap[b]? = w.heap[b]?)(b:Nat)(hb:∀o,w'.cell? ⟨b,o,none⟩=w.cell? ⟨b,o,none⟩):∀(ds:List D) (o:Nat),dY J F w b ds o->dY J' F' w' b ds o
 |[],o,h=>by simp only[dY]
 |c::r,o,h=>by
  simp only[dY] at h⊢;obtain⟨⟨u,h1,h0,h2⟩,h3⟩:=h;exact⟨⟨u,by rw[hb];exact h1,h0,kO hJ hF hw c u h2⟩,FM hJ hF hw b hb r (o+1) h3⟩
theorem Jq(hJ:J.le J')(hF:∀b,F b->F' b)(hw:∀b,F b->w'.heap[b]? = w.heap[b]?)(b an:Nat)(hb:∀o,w'.cell? ⟨b,o,none⟩=w.cell? ⟨b,o,none⟩):∀(xs:List<|List D) (o:Nat),fm J F w b an xs o->fm J' F' w' b an xs o
 |[],o,h=>by simp only[fm]
 |x::r,o,h=>by
  simp only[fm] at h⊢;obtain⟨h1,h2,h3⟩:=h;exact⟨h1,FM hJ hF hw b hb x o h2,Jq hJ hF hw b an hb r (o+an) h3⟩
end
theorem rn{b:Nat}:∀(cs:List D) (o j:Nat) (c:D),cs[j]? = some c->dY J F w b cs o->∃u,w.cell? ⟨b,o+j,none⟩=some u/\gC u/\rep J F w c u
 |[],_,_,_,h,_=>by simp at h
 |c::r,o,0,_,h,k=>by
  simp only[dY] at k;simp at h;subst h;exact k.1
 |c::r,o,j+1,d,h,k=>by
  simp only[dY] at k;have:=rn r (o+1) j d (by simpa using h) k.2;rwa [show o+1+j=o+(j+1) by omega] at this
theorem vq{b an:Nat}:∀(xs:List<|List D) (o j:Nat) (x:List D),xs[j]? = some x->fm J F w b an xs o->x.length=an/\dY J F w b x (o+j*an)
 |[],_,_,_,h,_=>by simp at h
 |x::r,o,0,_,h,k=>by
  simp only[fm] at k;simp at h;subst h;exact⟨k.1,by simpa using k.2.1⟩
 |x::r,o,j+1,d,h,k=>by
  simp only[fm] at k;have:=vq r (o+an) j d (by simpa using h) k.2.2;rwa [show o+an+j*an=o+(j+1)*an by rw[oa];omega] at this
theorem rU{b:Nat}:∀(cs:List D) (o:Nat),(∀(j:Nat) (c:D),cs[j]? = some c->∃u,w.cell? ⟨b,o+j,none⟩=some u/\gC u/\rep J F w c u)->dY J F w b cs o
 |[],_,_=>by simp only[dY]
 |c::r,o,h=>by
  simp only[dY];refine⟨by simpa using h 0 c rfl,rU r (o+1) λj d hd=>?_⟩;have:=h (j+1) d (by simpa using hd);rwa [show o+(j+1)=o+1+j by omega] at this
theorem wN{b an:Nat}:∀(xs:List<|List D) (o:Nat),(∀(j:Nat) (x:List D),xs[j]? = some x->x.length=an/\dY J F w b x (o+j*an))->fm J F w b an xs o
 |[],_,_=>by simp only[fm]
 |x::r,o,h=>by
  simp only[fm];refine⟨(h 0 x rfl).1,by simpa using (h 0 x rfl).2,wN r (o+an) λj d hd=>?_⟩;have:=h (j+1) d (by simpa using hd);rwa [show o+(j+1)*an=o+an+j*an by rw[oa];omega] at this
theorem nS:∀(ds:List D) (vs:List aW),bA J F w ds vs->vs.length=ds.length
 |[],vs,h=>by simp only[bA] at h;simp[h]
 |d::ds,vs,h=>by
  simp only[bA] at h;obtain⟨v,us,rfl,_,h3⟩:=h;simp[nS ds us h3]
theorem uu:∀(ds:List D) (vs:List aW) (j:Nat) (d:D),ds[j]? = some d->bA J F w ds vs->∃v,vs[j]? = some v/\rep J F w d v
 |[],_,_,_,h,_=>by simp at h
 |d::ds,vs,0,_,h,k=>by
  simp only[bA] at k;obtain⟨v,us,rfl,h2,_⟩:=k;simp at h;subst h;exact⟨v,rfl,h2⟩
 |d::ds,vs,j+1,e,h,k=>by
  simp only[bA] at k;obtain⟨v,us,rfl,_,h3⟩:=k;simpa using uu ds us j e (by simpa using h) h3
theorem Fg:∀(ds:List D) (vs:List aW),vs.length=ds.length->(∀(j:Nat) (d:D) (v:aW),ds[j]? = some d->vs[j]? = some v->rep J F w d v)->bA J F w ds vs
 |[],vs,h,_=>by simp only[bA];exact pM.1 h
 |d::ds,[],h,_=>by simp at h
 |d::ds,v::vs,h,k=>by
  simp only[bA];exact⟨v,vs,rfl,k 0 d v rfl rfl,Fg ds vs (by simpa using h) λj e u he hu=>k (j+1) e u (by simpa using he)<|by simpa using hu⟩
theorem Gx{a b:List D}:∀{va vb:List aW},bA J F w a va->bA J F w b vb->bA J F w (a++b) (va++vb):=by
 induction a with
 |nil=>intro va vb h k;simp only[bA] at h;subst h;simpa using k
 |cons d ds ih =>
  intro va vb h k;simp only[bA] at h;obtain⟨v,us,rfl,h2,h3⟩:=h;simp only[pQ,bA]
  grind
end
def al.mut:al->Bool|.row m _ _=>m|.vec m _ _ _ _=>m|.dV m _=>m
def Ci:List<|Nat×List D:=[(0,[.sc (.int .u64 1),.sc (.int .u64 10),.sc (.int .u64 100),.sc (.int .u64 1000),.sc (.int .u64 10000),.sc (.int .u64 100000),.sc (.int .u64 1000000),.sc (.int .u64 10000000),.sc (.int .u64 100000000),.sc (.int .u64 1000000000),.sc (.int .u64 10000000000),.sc (.int .u64 100000000000),.sc (.int .u64 1000000000000),.sc (.int .u64 10000000000000),.sc (.int .u64 100000000000000),.sc (.int .u64 1000000000000000),.sc (.int .u64 10000000000000000),.sc (.int .u64 100000000000000000),.sc (.int .u64 1000000000000000000),.sc (.int .u64 10000000000000000000)])]
structure FOK(F:Nat->Prop)(w:bl):Prop where
 lt:∀b,F b->b<w.heap.size
 gl:∀g cs,(g,cs)∈Ci->F g/\dY (λ_=>none) F w g cs 0/\∃vals te fz,w.heap[g]? = some (.cells vals te fz)/\vals.size=cs.length
instance {F:Nat->Prop} {w:bl}:CoeFun (FOK F w) λ_=>∀b,F b->b<w.heap.size:=⟨FOK.lt⟩
variable{F F':Nat->Prop}
theorem FOK.mono(h:FOK F w)(hF:∀b,F b->F' b)(hw:∀b,F b->w'.heap[b]? = w.heap[b]?)(cG:∀b,F' b->b<w'.heap.size):FOK F' w' where
 lt:=cG
 gl g cs hg:=by
  obtain⟨h1,h2,vals,te,fz,h3,h4⟩:=h.gl g cs hg;have k:=kO (J:=λ_=>none) (J':=λ_=>none) (bh.le_refl _) hF hw (.ax cs) (.pointer<|some ⟨g,0,none⟩) (by simp only[rep];exact⟨g,0,rfl,h1,h2⟩);simp only[rep] at k;obtain⟨b,o,e,k1,k2⟩:=k;cases e;exact⟨k1,k2,vals,te,fz,(hw g h1).trans h3,h4⟩
theorem FOK.rep{F:Nat->Prop}{w:bl}(h:FOK F w)(J:bh){g:Nat}{cs:List D}(hg:(g,cs)∈Ci):rep J F w (.ax cs) (.pointer<|some ⟨g,0,none⟩):=by
 obtain⟨h1,h2,_⟩:=h.gl g cs hg;exact kO (J:=λ_=>none) (J':=J) (λ_ _ q=>by cases q) (λ_ q=>q) (λ_ _=>rfl) (.ax cs) (.pointer<|some ⟨g,0,none⟩)<|by simp only[_root_.Go.Proofs.YtmajadpcpohneaaGreatDoor.rep];exact⟨g,0,rfl,h1,h2⟩
def uf:Nat:=46
def Kt:Nat:=5
def GW:Bool->bp->bp
 |true,_=>Kt
 |false,t=>t
section
variable(J:bh)(F:Nat->Prop)(w:bl)
def pc(s:Site):al->Prop
 | .row m cs t=>s.row=true/\s.ar=0/\s.an=1/\s.len=cs.length/\s.cap=cs.length/\∃b vals te,s.ad=some ⟨b,0,none⟩/\w.heap[b]? = some (.cells vals (t.getD te) (0,0))/\vals.size=cs.length/\dY J F w b cs 0/\(m=false->F b)
 | .vec m ar an xs t=>s.row=false/\s.ar=ar/\s.an=an/\s.len=xs.length/\s.len<=s.cap/\(s.cap=0\/∃b o vals te,s.ad=some ⟨b,o,none⟩/\w.heap[b]? = some (.cells vals (GW t te) (0,0))/\o+s.cap*an<=vals.size/\fm J F w b an xs o/\(m=false->F b))
 | .dV _ I=>s.row=true/\∃b es clock,s.ad=some ⟨b,0,none⟩/\w.heap[b]? = some (.map es clock)/\I es
structure cC(H:Nat->Option al):Prop where
 obj:∀id s,J id=some s->∃o,H id=some o/\pc J F w s o
 one:∀id jQ s s' b,J id=some s->J jQ=some s'->s.cE=some b->s'.cE=some b->id=jQ
 apart:∀id s b o,J id=some s->s.cE=some b->H id=some o->o.mut->¬F b
 lt:FOK F w
def jV(b:Nat):Prop:=∃id s,J id=some s/\s.cE=some b
end
structure Ext(J:bh)(F:Nat->Prop)(w:bl)(J':bh)(F':Nat->Prop)(w':bl):Prop where
 os:w'.os=w.os
 tape:w'.tape=w.tape
 output:w'.output=w.output
 size:w.heap.size<=w'.heap.size
 block:∀b,b<w.heap.size->¬jV J b->w'.heap[b]? = w.heap[b]?
 frozen:∀b,F b->w'.heap[b]? = w.heap[b]?
 le:J.le J'
 grow:∀b,F b->F' b
 px:∀b,jV J' b->jV J b\/w.heap.size<=b
 pJ:∀b,F' b->F b\/jV J b\/w.heap.size<=b
theorem Ext.refl(F:Nat->Prop)(w:bl):Ext J F w J F w:=⟨rfl,rfl,rfl,aS _,λ_ _ _=>rfl,λ_ _=>rfl,bh.le_refl J,λ_ h=>h,λ_ h=>.inl h,λ_ h=>.inl h⟩
theorem Ext.trans{J J' J'':bh}{F F' F'':Nat->Prop}{w w' w'':bl}(h:Ext J F w J' F' w')(k:Ext J' F' w' J'' F'' w''):Ext J F w J'' F'' w'' where
 os:=k.os.trans h.os
 tape:=k.tape.trans h.tape
 output:=k.output.trans h.output
 size:=jI h.size k.size
 block b hb ho:=by
  have h1:¬jV J' b:=λh'=>(h.px b h').elim ho (λh''=>by omega);rw[k.block b (by have:=h.size;omega) h1,h.block b hb ho]
 frozen b hb:=(k.frozen b<|h.grow b hb).trans<|h.frozen b hb
 le:=bh.le_trans h.le k.le
 grow b hb:=k.grow b<|h.grow b hb
 px b hb:=(k.px b hb).elim (h.px b) λh'=>.inr<|jI h.size h'
 pJ b hb:=by
  rcases k.pJ b hb with h1|h1|h1
  ·exact h.pJ b h1
  ·exact(h.px b h1).elim (λh2=>.inr (.inl h2)) (λh2=>.inr (.inr h2))
  exact .inr (.inr<|jI h.size h1)
variable{J:bh}
theorem Kj(h:Ext J F w J' F' w'){d:D}{v:aW}(k:rep J F w d v):rep J' F' w' d v:=kO h.le h.grow h.frozen d v k
inductive POp where
 |move (x:bn)
 |pick (c a b:bn)
 |alloc (z:List aW)
 |box (x:bn) (t:Option bp:=none)
 |build (z:List aW) (parts:List (Nat×Nat×bn))
 |GH (an n:Nat) (parts:List bn)
 |nv (a:bn)
 |xI (n:Nat) (a:bn)
 |store (n:Nat) (a v:bn)
 |Pl (x:bn)
 |bin (op:BinOp) (x y:bn)
 |eqb (neq:Bool) (x y:bn)
 |eqa (neq:Bool) (ks:List Nat) (x y:bn)
 |HM (neq:Bool) (x:bn)
 |un (op:UnOp) (x:bn)
 |ext (i:Nat) (x:bn)
 |kM (off:Nat) (x:bn)
 |DJ (an:Nat) (x i:bn)
 |Lr (len an:Nat) (x i:bn)
 |LI (x i:bn)
 |Oe (len an:Nat) (agg:Bool) (x i:bn)
 |Ps (f:Fn) (first cap:List bn)
 |LZ (an bytes:Nat) (z:List aW) (l c:bn)
 |slc (an:Nat) (x:bn) (lo hi:Option bn)
 |len (x:bn)
 |NL (x:bn)
 |append (an bytes:Nat) (x y:bn) (q:Bool:=false)
 |clr (u:aW) (x:bn)
 |mx (big:Bool) (x y:bn)
 |call (f:FuncId) (args:List bn)
 |Qf (x:bn) (args:List bn)
 |conv (k:IntKind) (x:bn)
 |PE (kt:bp)
 |look (kt:bp) (z:aW) (m x:bn)
 |MD (kt:bp) (m x:bn)
 |QD (kt:bp) (m x v:bn)
structure cO where
 dst:Option Tmp
 op:POp
 guard:Option<|Tmp×Bool
 mask:Nat
def qm(d s:Nat):cO:=⟨some d,.move (.tmp s),none,0⟩
def qw(d s m:Nat):cO:=⟨some d,.move (.tmp s),none,m⟩
def q(d:Nat)(o:POp):cO:=⟨some d,o,none,0⟩
def qd(d:Nat)(o:POp)(m:Nat):cO:=⟨some d,o,none,m⟩
def qn(o:POp):cO:=⟨none,o,none,0⟩
def qk(o:POp)(m:Nat):cO:=⟨none,o,none,m⟩
inductive PC where
 |skip
 |ops (l:List cO) (draw:Bool)
 |seq (a b:PC)
 |cond (c:bn) (a b:PC)
 |block (id:Nat) (c:PC)
 |loop (c:PC)
 |exit (id:Nat)
 |ret
 |stop (c:PC)
def PC.bare:PC->PC
 | .seq a b=>.seq a.bare b.bare
 | .cond c a b=>.cond c a.bare b.bare
 | .block id c=>.block id c.bare
 | .loop c=>.loop c.bare
 | .stop c=>c.bare
 |c=>c
abbrev Env:=List<|Nat×D
def lift:aW->D
 | .agg cs=>.agg<|cs.toList.map .sc
 |v=>.sc v
def iv(t:Nat):Env->D
 |[]=>.dL
 |(k,d)::r=>match Nat.beq t k with|true=>d|false=>iv t r
def BA(g:Nat):List (Nat×List D)->D
 |[]=>.sc (.pointer<|some ⟨g,0,none⟩)
 |(k,cs)::r=>match Nat.beq g k with|true=>.ax cs|false=>BA g r
theorem V4(h:FOK F w)(g:Nat):rep J F w (BA g Ci) (.pointer<|some ⟨g,0,none⟩):=by
 have key:∀l:List<|Nat×List D,(∀x∈l,x∈Ci)->rep J F w (BA g l) (.pointer<|some ⟨g,0,none⟩):=λl=>by
  induction l with
  |nil=>intro _;simp only[BA,rep]
  |cons x r ih =>
   intro hl;obtain⟨k,cs⟩:=x;simp only[BA]
   cases e:Nat.beq g k with
   |true =>
    have:=Bz e;subst this;exact h.rep J<|hl _<|by simp
   |false=>exact ih λy hy=>hl y<|by simp[hy]
 grind
def fW(env:Env):bn->D
 | .tmp t=>iv t env
 | .const v=>lift v
 | .global g=>BA g Ci
 | .func f=>.fn (.func f) [] []
def ux(t:Nat)(K:D->Prop):Env->Prop
 |[]=>K .dL
 |(k,d)::r=>match Nat.beq t k with|true=>K d|false=>ux t K r
def scK:List aW->(List D->Prop)->Prop
 |[],K=>K []
 |v::r,K=>scK r λcs=>K (.sc v::cs)
def dT(env:Env)(x:bn)(K:D->Prop):Prop :=
 match x with
 | .tmp t=>ux t K env
 | .const v=>match v with
  | .agg cs=>scK cs.toList λl=>K (.agg l)
  |v=>K (.sc v)
 | .global g=>K<|BA g Ci
 | .func f=>K (.fn (.func f) [] [])
def A3(env:Env):List bn->(List D->Prop)->Prop
 |[],K=>K []
 |x::r,K=>dT env x λd=>A3 env r λds=>K<|d::ds
def atK:List D->Nat->(D->Prop)->Prop
 |[],_,_=>False
 |c::_,0,K=>K c
 |_::r,n+1,K=>atK r n K
def wv:List D->Nat->(List D->Prop)->Prop
 |_,0,K=>K []
 |[],_+1,_=>False
 |c::r,n+1,K=>wv r n λcs=>K<|c::cs
def uD:List D->Nat->(List D->Prop)->Prop
 |cs,0,K=>K cs
 |[],_+1,_=>False
 |_::r,n+1,K=>uD r n K
def ya:D->Bool
 | .agg _|.aJ _|.dL=>false
 | .sc (.agg _)|.sc (.tuple _)=>false
 |_=>true
def HF:List D->Bool
 |[]=>true
 |c::r=>match ya c with|true=>HF r|false=>false
def Ey(d:D)(K:List D->Prop):Prop :=
 match d with
 | .agg cs=>match HF cs with|true=>K cs|false=>False
 |d=>match ya d with|true=>K [d]|false=>False
def tx:List D->Nat->List D->(List D->Prop)->Prop
 |r,0,[],K=>K r
 |_::r,0,c::cs,K=>tx r 0 cs λr'=>K<|c::r'
 |[],0,_::_,_=>False
 |[],_+1,_,_=>False
 |x::r,n+1,cs,K=>tx r n cs λr'=>K<|x::r'
def qB:List al->Nat->al->(List al->Prop)->Prop
 |[],_,_,_=>False
 |_::r,0,o,K=>K<|o::r
 |x::r,n+1,o,K=>qB r n o λr'=>K<|x::r'
def tN:List al->al->(List al->Nat->Prop)->Prop
 |[],o,K=>K [o] 0
 |x::r,o,K=>tN r o λr' n=>K (x::r')<|n+1
def kx:List al->Nat->(al->Prop)->Prop
 |[],_,_=>False
 |o::_,0,K=>K o
 |_::r,n+1,K=>kx r n K
def ifK(c:Bool)(A B:Prop):Prop:=match c with
 |true=>A
 |false=>B
theorem pW{c:Bool}{A B:Prop}(h:c->A)(k:c=false->B):ifK c A B:=by
 cases c
 ·exact k rfl
 exact h rfl
def pG(a b:Nat)(A:Prop):Prop:=match Nat.beq a b with
 |true=>A
 |false=>False
abbrev qA:=D->List al->List Nat->List Nat->Prop
def InR(k:IntKind)(z:Int):Prop:=k.wrap z=z
def Cn(k:IntKind)(z:Int)(K:D->Prop):Prop:=(InR k z/\K (.sc (.int k z)))\/∀u,u=k.wrap z->K (.sc (.int k u))
def kh(op:BinOp)(k:IntKind)(x y:Int):Int :=
 let a:=BitVec.ofInt k.bits x
 let b:=BitVec.ofInt k.bits y
 match op with
 | .and=>k.wrap (a &&& b).toNat
 | .or=>k.wrap (a ||| b).toNat
 | .xor=>k.wrap (a ^^^ b).toNat
 |_=>k.wrap (a &&& ~~~b).toNat
def DC:IntKind->Nat
 | .i8=>0|.i16=>1|.i32=>2|.i64=>3|.u8=>4|.u16=>5|.u32=>6|.u64=>7
def PY(op:BinOp)(x y:D)(K:D->Prop):Prop :=
 match x,y with
 | .sc (.int k a),.sc (.int k' b) =>
  match op with
  | .shl=>0<=b/\Cn k (a*2^min b.toNat k.bits) K
  | .shr=>0<=b/\K (.sc (.int k<|a.fdiv<|2^min b.toNat k.bits))
  |op=>match Nat.beq (DC k) (DC k') with
   |false=>False
   |true =>
    match op with
    | .add=>Cn k (a+b) K
    | .sub=>Cn k (a-b) K
    | .mul=>Cn k (a*b) K
    | .quo=>b≠0/\Cn k (a.tdiv b) K
    | .rem=>b≠0/\K (.sc (.int k<|a.tmod b))
    | .eql=>K (.sc (.bool<|a==b))
    | .neq=>K (.sc (.bool<|a != b))
    | .lss=>K (.sc (.bool<|decide (a<b)))
    | .leq=>K (.sc (.bool<|decide (a<=b)))
    | .gtr=>K (.sc (.bool<|decide (a>b)))
    | .geq=>K (.sc (.bool<|decide (a>=b)))
    | .and=>K (.sc (.int k<|kh .and k a b))
    | .or=>K (.sc (.int k<|kh .or k a b))
    | .andNot=>K (.sc (.int k<|kh .andNot k a b))
    |_=>False
 | .sc (.string a),.sc (.string b) =>
  match op with
  | .add=>(((a.size+b.size:Nat):Int)<=9223372036854775807)/\K (.sc (.string<|a++b))
  | .eql=>K (.sc (.bool<|a.toList==b.toList))
  | .neq=>K (.sc (.bool<|!(a.toList==b.toList)))
  |_=>False
 |_,_=>False
def eqbK(neq:Bool)(x y:D)(K:D->Prop):Prop :=
 match x,y with
 | .sc (.bool a),.sc (.bool b)=>match neq with
  |false=>K (.sc (.bool<|a==b))
  |true=>K (.sc (.bool<|!(a==b)))
 |_,_=>False
def ub(neq b:Bool):Bool:=match neq with
 |true=>!b
 |false=>b
def MU(c:Nat)(x y:D)(K:Bool->Prop):Prop :=
 match c,x,y with
 |0,.sc (.int k a),.sc (.int k' b)=>pG (DC k) (DC k')<|K<|a==b
 |1,.sc (.bool a),.sc (.bool b)=>K<|a==b
 |2,.sc (.string a),.sc (.string b)=>K<|a.toList==b.toList
 |_,_,_=>False
def AI:List Nat->List D->List D->(Bool->Prop)->Prop
 |[],[],[],K=>K true
 |c::cs,x::xs,y::ys,K=>MU c x y λr=>AI cs xs ys λq=>K<|r&&q
 |_,_,_,_=>False
def P3(neq:Bool)(ks:List Nat)(x y:D)(K:D->Prop):Prop :=
 match x,y with
 | .agg xs,.agg ys=>AI ks xs ys λb=>K (.sc (.bool<|ub neq b))
 |_,_=>False
def T0(seq:Bool)(neq:Bool)(x:D)(K:D->Prop):Prop :=
 match x with
 | .sc (.slice none 0 0)=>K (.sc (.bool<|!neq))
 | .aM _ xs=>seq=true/\∀b:Bool,(b=true->xs=[])->K (.sc (.bool<|ub neq b))
 |_=>False
def unK(op:UnOp)(x:D)(K:D->Prop):Prop :=
 match op,x with
 | .not,.sc (.bool b)=>K (.sc (.bool<|!b))
 |_,_=>False
def Dv(env:Env)(x:Option bn)(dflt:Nat)(K:Nat->Prop):Prop :=
 match x with
 |none=>K dflt
 |some x=>dT env x λd=>match d with
  | .sc (.int _ i)=>0<=i/\K i.toNat
  |_=>False
def KG(env:Env):List (Nat×Nat×bn)->List D->(List D->Prop)->Prop
 |[],cs,K=>K cs
 |(off,n,x)::r,cs,K=>dT env x λd=>Ey d λxs=>pG n xs.length<|tx cs off xs λgA=>KG env r gA K
def Ji(env:Env)(an:Nat):List bn->(List (List D)->Prop)->Prop
 |[],K=>K []
 |x::r,K=>dT env x λd=>Ey d λxs=>pG an xs.length<|Ji env an r λrows=>K<|xs::rows
def CL (P : Program) (f : FuncId) : Prop := ∃ fn, P.funcs[f]? = some fn ∧ (fn.name == "runtime.NumGoroutine") = false ∧ fn.body.isNone = false
structure bZ(P:bG)(f:FuncId)(args:List D)(H:List al)(d:D)(H2:List al):Prop where
 ok:CL P f
 len:H.length<=H2.length
 run:∀(J:bh) (F:Nat->Prop) (w:bl) (vs:List aW),cC J F w (λi=>H[i]?)->(∀id,J id≠none->id<H.length)->bA J F w args vs ->
  Calls P f vs.toArray w λe w'=>∃v J' F',e=.returned v/\cC J' F' w' (λi=>H2[i]?)/\(∀id,J' id≠none->id<H2.length)/\rep J' F' w' d v/\Ext J F w J' F' w'
structure ov(P:bG)(f:FuncId)(args:List D)(H:List al)(d:D)(H2:List al)(L:List Nat):Prop where
 ok:CL P f
 len:H.length<=H2.length
 frame:∀id,id ∉ L->H2[id]? = H[id]?
 lt:∀id∈L,id<H2.length
 run:∀(J:bh) (F:Nat->Prop) (w:bl) (vs:List aW) (G:Nat->Option al),cC J F w G->(∀id∈L,G id=H[id]?)->(∀id∈L,H.length<=id->J id=none)->bA J F w args vs ->
  Calls P f vs.toArray w λe w'=>∃v J' F',e=.returned v/\cC J' F' w' (λid=>if id∈L then H2[id]? else G id)/\(∀id,J' id≠none->J id≠none\/id∈L)/\rep J' F' w' d v/\Ext J F w J' F' w'
structure B7(P:bG)(f:FuncId)(args:List D)(H:List al)(d:D)(L:List Nat):Prop where
 ok:CL P f
 run:∀(J:bh) (F:Nat->Prop) (w:bl) (vs:List aW) (G:Nat->Option al),cC J F w G->(∀id∈L,G id=H[id]?)->bA J F w args vs ->
  Calls P f vs.toArray w λe w'=>∃v J' F',e=.returned v/\cC J' F' w' G/\(∀id,J' id≠none->J id≠none)/\rep J' F' w' d v/\Ext J F w J' F' w'
def jX:bh:=λ_=>none
structure ao(P:bG)(f:FuncId)(args:List D)(d:D):Prop where
 ok:CL P f
 run:∀(J:bh) (F:Nat->Prop) (w:bl) (vs:List aW),FOK F w->bA J F w args vs ->
  Calls P f vs.toArray w λe w'=>∃v F',e=.returned v/\(∀b,F' b->b<w'.heap.size)/\rep jX F' w' d v/\Ext jX F w jX F' w'
mutual
inductive Deep(H:List al):D->D->Prop
 |refl (d:D):Deep H d d
 |dL (d:D):Deep H d .dL
 |none (an:Nat):Deep H (.sc (.slice none 0 0)) (.aM an [])
 |loc (id off:Nat) (m:Bool) (cs ds:List D) (h:H[id]? = some (.row m cs)) (k:jr H (cs.drop off) ds):Deep H (.loc id off) (.ax ds)
 |own (id ar lo hi an:Nat) (m:Bool) (xs ys:List (List D)) (h:H[id]? = some (.vec m ar an xs)) (k:oy H ((xs.take hi).drop lo) ys):Deep H (.own id ar lo hi) (.aM an ys)
 |fn (f:Fn) (a b c e:List D) (h:jr H a b) (k:jr H c e):Deep H (.fn f a c) (.fn f b e)
 |agg (a b:List D) (h:jr H a b):Deep H (.agg a) (.agg b)
 |aJ (a b:List D) (h:jr H a b):Deep H (.aJ a) (.aJ b)
inductive jr(H:List al):List D->List D->Prop
 |nil:jr H [] []
 |cons (d e:D) (a b:List D) (h:Deep H d e) (k:jr H a b):jr H (d::a) (e::b)
inductive oy(H:List al):List (List D)->List (List D)->Prop
 |nil:oy H [] []
 |cons (x y:List D) (a b:List (List D)) (h:jr H x y) (k:oy H a b):oy H (x::a) (y::b)
end
def isScalar:D->Bool
 | .sc _=>true
 |_=>false
def Ck:List D->Bool
 |[]=>true
 |d::r=>match isScalar d with|true=>Ck r|false=>false
def HE:D->Bool
 | .sc _=>true
 | .aJ ds|.agg ds=>Ck ds
 |_=>false
mutual
def aK(m:Nat):D->Prop
 | .dL|.sc _=>True
 | .loc id _|.elt id _ _ _|.own id _ _ _|.mp id=>id<m
 | .ax cs|.agg cs|.aJ cs=>aG m cs
 | .aM _ xs=>bB m xs
 | .fn _ a b=>aG m a/\aG m b
def aG(m:Nat):List D->Prop
 |[]=>True
 |d::r=>aK m d/\aG m r
def bB(m:Nat):List (List D)->Prop
 |[]=>True
 |d::r=>aG m d/\bB m r
end
def al.under(m:Nat):al->Prop
 | .row _ cs _=>aG m cs
 | .vec _ _ _ xs _=>bB m xs
 | .dV _ _=>True
def dX(m:Nat):List al->Prop
 |[]=>True
 |o::r=>o.under m/\dX m r
def yo:Nat->List Nat
 |0=>[]
 |n+1=>n::yo n
def al.frozen:al->al
 | .row _ cs t=>.row false cs t
 | .vec _ v e xs t=>.vec false v e xs t
 | .dV _ I=>.dV false I
def y':List al->List al
 |[]=>[]
 |o::r=>o.frozen::y' r
def N'(P:bG)(seq:Bool)(f:FuncId)(args:List D)(H:List al)(K:qA):Prop :=
 (∃d,ao P f args d/\K d H [] [])\/(∃args' d,jr H args args'/\ao P f args' d/\HE d/\K d H (List.range H.length) []) \/
  (seq=true/\∃d H2,bZ P f args H d H2/\K d H2 [] []) \/
  (∃d H2,aG H.length args/\dX H.length H/\bZ P f args H d H2/\K d H2 (yo H2.length) (yo H2.length)) \/
  (∃d H2 L,ov P f args H d H2 L/\K d H2 L L) \/
  (seq=true/\∃args' d,jr H args args'/\ao P f args' d/\K d (y' H) [] []) \/
  (∃d L,B7 P f args H d L/\K d H L [])
def iF(k:Nat)(bytes:Nat)(m:Nat):Prop:=(k+m)*bytes<=140737488355328
def Po(H:List al)(an:Nat)(dy:D)(K:List (List D)->List Nat->Prop):Prop :=
 match dy with
 | .aM oh ys=>pG an oh<|K ys []
 | .own id ar lo hi=>kx H id λo=>match o with
  | .vec _ bY oh zs=>ar=bY/\pG an oh (K ((zs.take hi).drop lo) [id])
  |_=>False
 | .sc (.slice none 0 0)=>K [] []
 |_=>False
def impK:Bool->Bool->Prop->Prop
 |true,false,_=>False
 |_,_,K=>K
theorem zvU{a b:Bool}{K:Prop}(h:impK a b K):(a=true->b)/\K:=by cases a<;>cases b<;>first|exact h.elim|exact⟨by simp,h⟩
def oe(s:aB):List<|List D:=(byteCells s).map λv=>[.sc v]
def L4(H:List al)(an:Nat)(dy:D)(K:List (List D)->List Nat->Prop):Prop :=
 match dy with
 | .sc (.string s)=>pG an 1<|K (oe s) []
 |d=>Po H an d K
def ma(P:bG)(kt:bp)(f:aW->Option aW):Array MapEntry->Prop:=λes =>
 (∀e∈es.toList,∃l,keyOf P kt e.key=some l)/\(∀e∈es.toList,f e.key=some e.val)/\∀key v,f key=some v->∃e∈es.toList,e.key=key
noncomputable def qS(f:aW->Option aW)(key v:aW):aW->Option aW:=λk=>open Classical in if k=key then some v else f k
def scV:D->aW
 | .sc v=>v
 |_=>undef
def G2(d:D)(K:aW->Prop):Prop:=match d with
 | .sc v=>K v
 | .agg cs=>Ck cs=true/\K (.agg (cs.map scV).toArray)
 |_=>False
def step(P:bG)(seq:Bool)(p:POp)(env:Env)(H:List al)(K:qA):Prop :=
 match p with
 | .move x=>dT env x λd=>K d H [] []
 | .pick c a b=>dT env c λdc=>match dc with
  | .sc (.bool t)=>ifK t (dT env a λd=>K d H [] [])<|dT env b λd=>K d H [] []
  |_=>False
 | .alloc z=>scK z λcs=>tN H (.row true cs) λH' id=>K (.loc id 0) H' [] [id]
 | .box x t=>dT env x λd=>Ey d λcs=>tN H (.row true cs t) λH' id=>K (.loc id 0) H' [] [id]
 | .build z parts=>scK z λzs=>KG env parts zs λcs=>K (.agg cs) H [] []
 | .GH an n parts=>Ji env an parts λrows=>pG n rows.length<|tN H (.vec true 0 an rows) λH' id=>K (.own id 0 0 n) H' [] [id]
 | .nv a=>dT env a λd=>match d with
  | .loc id off=>kx H id λo=>match o with
   | .row _ cs _=>atK cs off λc=>K c H [id] []
   |_=>False
  | .ax cs=>atK cs 0 λc=>K c H [] []
  | .elt id ar i off=>kx H id λo=>match o with
   | .vec _ bY _ xs=>ar=bY/\∃row,xs[i]? = some row/\atK row off λc=>K c H [id] []
   |_=>False
  |_=>False
 | .xI n a=>dT env a λd=>match d with
  | .loc id off=>kx H id λo=>match o with
   | .row _ cs _=>uD cs off λr=>wv r n λc=>K (.agg c) H [id] []
   |_=>False
  | .ax cs=>wv cs n λc=>K (.agg c) H [] []
  | .elt id ar i off=>kx H id λo=>match o with
   | .vec _ bY _ xs=>ar=bY/\∃row,xs[i]? = some row/\uD row off λr=>wv r n λc=>K (.agg c) H [id] []
   |_=>False
  |_=>False
 | .store n a x=>dT env a λd=>dT env x λdx=>Ey dx λxs=>pG n xs.length (match d with
  | .loc id off=>kx H id λo=>match o with
   | .row true cs t=>tx cs off xs λgA=>qB H id (.row true gA t) λH'=>K (.sc undef) H' [] [id]
   |_=>False
  | .elt id ar i off=>kx H id λo=>match o with
   | .vec true bY an ys=>ar=bY/\∃row,ys[i]? = some row/\tx row off xs λzKO=>qB H id (.vec true bY an<|ys.set i zKO) λH'=>K (.sc undef) H' [] [id]
   |_=>False
  |_=>False)
 | .Pl x=>dT env x λd=>match d with
  | .loc ..|.ax ..|.elt ..|.fn (.func _) ..=>K d H [] []
  |_=>False
 | .bin op x y=>dT env x λdx=>dT env y λdy=>PY op dx dy λd=>K d H [] []
 | .eqb neq x y=>dT env x λdx=>dT env y λdy=>eqbK neq dx dy λd=>K d H [] []
 | .eqa neq ks x y=>dT env x λdx=>dT env y λdy=>P3 neq ks dx dy λd=>K d H [] []
 | .HM neq x=>dT env x λdx=>T0 seq neq dx λd=>K d H [] []
 | .un op x=>dT env x λdx=>unK op dx λd=>K d H [] []
 | .ext i x=>dT env x λd=>match d with
  | .aJ cs=>atK cs i λc=>K c H [] []
  |_=>False
 | .kM off x=>dT env x λd=>match d with
  | .loc id o=>K (.loc id<|o+off) H [] []
  | .elt id ar i o=>K (.elt id ar i<|o+off) H [] []
  | .ax cs=>uD cs off λr=>K (.ax r) H [] []
  |_=>False
 | .DJ an x i=>dT env x λdx=>dT env i λdi=>match di with
  | .sc (.int _ z)=>match dx with
   | .aM oh xs=>pG an oh (0<=z/\∃row,xs[z.toNat]? = some row/\K (.ax row) H [] [])
   | .own id ar lo hi=>kx H id λo=>match o with
    | .vec _ bY oh _=>ar=bY/\pG an oh (0<=z/\z<(hi-lo:Nat)/\K (.elt id ar (lo+z.toNat) 0) H [id] [])
    |_=>False
   |_=>False
  |_=>False
 | .Lr len an x i=>dT env x λdx=>dT env i λdi=>match di with
  | .sc (.int _ z)=>0<=z/\z<(len:Nat)/\match dx with
   | .loc id o=>K (.loc id<|o+z.toNat * an) H [] []
   | .elt id ar i o=>K (.elt id ar i<|o+z.toNat * an) H [] []
   | .ax cs=>uD cs (z.toNat * an) λr=>K (.ax r) H [] []
   |_=>False
  |_=>False
 | .Oe len an agg x i=>dT env x λdx=>dT env i λdi=>match di with
  | .sc (.int _ z)=>match dx with
   | .agg cs=>0<=z/\z<(len:Nat)/\match agg with
    |true=>uD cs (z.toNat * an) λr=>wv r an λc=>K (.agg c) H [] []
    |false=>∃c,cs[z.toNat * an]? = some c/\K c H [] []
   |_=>False
  |_=>False
 | .LI x i=>dT env x λdx=>dT env i λdi=>match dx,di with
  | .sc (.string s),.sc (.int _ z)=>0<=z/\∃b,s[z.toNat]? = some b/\K (.sc (.int .u8 b.toNat)) H [] []
  |_,_=>False
 | .Ps f first cap=>A3 env first λds=>A3 env cap λcs=>K (.fn f ds cs) H [] []
 | .LZ an bytes z l c=>dT env l λdl=>dT env c λdc=>match dl,dc with
  | .sc (.int .i64 nl),.sc (.int .i64 nc)=>0<=nl/\nl<=nc/\nc*bytes<=140737488355328 /\
   tN H (.vec true 0 an<|List.replicate nl.toNat<|z.map .sc) λH' id=>K (.own id 0 0 nl.toNat) H' [] [id]
  |_,_=>False
 | .slc an x lo hi=>dT env x λdx=>match dx with
  | .aM oh xs=>pG an oh<|Dv env hi xs.length λh=>Dv env lo 0 λl=>l<=h/\h<=xs.length/\K (.aM oh<|(xs.take h).drop l) H [] []
  | .own id ar a b=>kx H id λo=>match o with
   | .vec _ bY oh _=>ar=bY/\pG an oh (Dv env hi (b-a) λh=>Dv env lo 0 λl=>l<=h/\h<=b-a/\K (.own id ar (a+l)<|a+h) H [id] [])
   |_=>False
  |_=>False
 | .len x=>dT env x λdx=>match dx with
  | .aM _ xs=>K (.sc (.int .i64 xs.length)) H [] []
  | .own id ar lo hi=>kx H id λo=>match o with
   | .vec _ bY _ _=>ar=bY/\K (.sc (.int .i64 (hi-lo:Nat))) H [id] []
   |_=>False
  | .sc (.slice none 0 0)=>K (.sc (.int .i64 0)) H [] []
  |_=>False
 | .NL x=>dT env x λdx=>match dx with
  | .sc (.string s)=>K (.sc (.int .i64 s.size)) H [] []
  |_=>False
 | .append an bytes x y q=>dT env x λdx=>dT env y λdy=>L4 H an dy λys rd =>
  match dx with
   | .sc (.slice none 0 0)=>iF 0 bytes ys.length/\tN H (.vec true 0 an ys) λH' id=>K (.own id 0 0 ys.length) H' rd [id]
   | .own id ar lo hi=>kx H id λo=>match o with
    | .vec true bY oh zs t=>ar=bY/\pG an oh (impK t q (iF (hi-lo) bytes ys.length /\
     qB H id (.vec true (ar+1) an ((zs.take hi).drop lo++ys) t) λH'=>K (.own id (ar+1) 0<|hi-lo+ys.length) H' rd [id]))
    |_=>False
   |_=>False
 | .clr u x=>dT env x λdx=>match dx with
  | .own id ar lo hi=>kx H id λo=>match o with
   | .vec true bY an zs=>ar=bY/\pG an 1 (qB H id (.vec true ar 1<|zs.take lo++List.replicate (hi-lo) [.sc u]++zs.drop hi) λH'=>K (.aJ []) H' [] [id])
   |_=>False
  |_=>False
 | .mx big x y=>dT env x λdx=>dT env y λdy=>match dx with
  | .sc (.int k n)=>match dy with
   | .sc (.int _ m)=>match big with
    |true=>K (.sc (.int k<|max n m)) H [] []
    |false=>K (.sc (.int k<|min n m)) H [] []
   |_=>False
  |_=>False
 | .call f args=>A3 env args λds=>N' P seq f ds H K
 | .Qf x args=>dT env x λdx=>match dx with
  | .fn (.func f) first cap=>A3 env args λds=>N' P seq f (first++ds++cap) H K
  |_=>False
 | .conv k x=>dT env x λd=>match d with
  | .sc (.int _ n)=>Cn k n λd=>K d H [] []
  |_=>False
 | .PE kt=>tN H (.dV true<|ma P kt λ_=>none) λH' id=>K (.mp id) H' [] [id]
 | .look kt z m x=>dT env m λdm=>dT env x λdx=>match dm with
  | .mp id=>kx H id λo=>match o with
   | .dV _ I=>G2 dx λkey=>∃f,I=ma P kt f/\Maps.Keyed P kt/\(∃l,keyOf P kt key=some l)/\(∀v,f key=some v->K (.aJ [.sc v,.sc (.bool true)]) H [id] [])/\(f key=none->K (.aJ [.sc z,.sc (.bool false)]) H [id] [])
   |_=>False
  |_=>False
 | .MD kt m x=>dT env m λdm=>dT env x λdx=>match dm with
  | .mp id=>kx H id λo=>match o with
   | .dV _ I=>G2 dx λkey=>∃f,I=ma P kt f/\Maps.Keyed P kt/\(∃l,keyOf P kt key=some l)/\∃v,f key=some v/\K (.sc v) H [id] []
   |_=>False
  |_=>False
 | .QD kt m x v=>dT env m λdm=>dT env x λdx=>dT env v λdv=>match dm with
  | .mp id=>kx H id λo=>match o with
   | .dV true I=>G2 dx λkey=>match dv with
    | .sc u=>∃f,I=ma P kt f/\Maps.Keyed P kt/\(∃l,keyOf P kt key=some l)/\f key=none/\qB H id (.dV true<|ma P kt<|qS f key u) λH'=>K (.sc undef) H' [] [id]
    |_=>False
   |_=>False
  |_=>False
def nj(P:bG):List cO->Env->List al->(Env->List al->Prop)->Prop
 |[],env,H,K=>K env H
 |o::r,env,H,K =>
  match o.guard with
  |none=>step P true o.op env H λd H' _ _=>match o.dst with
   |some t=>nj P r ((t,d)::env) H' K
   |none=>nj P r env H' K
  |some (t,b)=>ux t (λg=>match g with
   | .sc (.bool c)=>match b with
    |true=>ifK c
     (step P true o.op env H λd H' _ _=>match o.dst with
      |some u=>nj P r ((u,d)::env) H' K
      |none=>nj P r env H' K)
     (match o.dst with
      |some u=>nj P r ((u,.sc undef)::env) H K
      |none=>nj P r env H K)
    |false=>ifK c
     (match o.dst with
      |some u=>nj P r ((u,.sc undef)::env) H K
      |none=>nj P r env H K)
     (step P true o.op env H λd H' _ _=>match o.dst with
      |some u=>nj P r ((u,d)::env) H' K
      |none=>nj P r env H' K)
   | .sc (.tuple _)=>match o.dst with
    |some u=>nj P r ((u,.sc undef)::env) H K
    |none=>nj P r env H K
   |_=>False) env
def B3(p:POp)(env:Env):Option<|Nat×Nat:=match p with
 | .nv a=>match fW env a with
  | .loc id k=>some (id,k)
  |_=>none
 |_=>none
abbrev Trace:=List<|(List Nat×List Nat)×(Option (Nat×Nat)×D×List al)
def oq(P:bG):List cO->Env->List al->(Env->List al->Trace->Prop)->Prop
 |[],env,H,K=>K env H []
 |o::r,env,H,K =>
  match o.guard with
  |none=>step P false o.op env H λd H' rd wr=>match o.dst with
   |some t=>oq P r ((t,d)::env) H' λe h tr=>K e h<|((rd,wr),(B3 o.op env,d,H'))::tr
   |none=>oq P r env H' λe h tr=>K e h<|((rd,wr),(B3 o.op env,d,H'))::tr
  |some (t,b)=>ux t (λg=>match g with
   | .sc (.bool c)=>match b with
    |true=>ifK c
     (step P false o.op env H λd H' rd wr=>match o.dst with
      |some u=>oq P r ((u,d)::env) H' λe h tr=>K e h<|((rd,wr),(none,d,H'))::tr
      |none=>oq P r env H' λe h tr=>K e h<|((rd,wr),(none,d,H'))::tr)
     (match o.dst with
      |some u=>oq P r ((u,.sc undef)::env) H λe h tr=>K e h<|(([],[]),(none,.sc undef,H))::tr
      |none=>oq P r env H λe h tr=>K e h<|(([],[]),(none,.sc undef,H))::tr)
    |false=>ifK c
     (match o.dst with
      |some u=>oq P r ((u,.sc undef)::env) H λe h tr=>K e h<|(([],[]),(none,.sc undef,H))::tr
      |none=>oq P r env H λe h tr=>K e h<|(([],[]),(none,.sc undef,H))::tr)
     (step P false o.op env H λd H' rd wr=>match o.dst with
      |some u=>oq P r ((u,d)::env) H' λe h tr=>K e h<|((rd,wr),(none,d,H'))::tr
      |none=>oq P r env H' λe h tr=>K e h<|((rd,wr),(none,d,H'))::tr)
   | .sc (.tuple _)=>match o.dst with
    |some u=>oq P r ((u,.sc undef)::env) H λe h tr=>K e h<|(([],[]),(none,.sc undef,H))::tr
    |none=>oq P r env H λe h tr=>K e h<|(([],[]),(none,.sc undef,H))::tr
   |_=>False) env
def uk(x:Nat):List Nat->Bool
 |[]=>false
 |y::r=>match Nat.beq x y with|true=>true|false=>uk x r
def meets:List Nat->List Nat->Bool
 |[],_=>false
 |x::r,l=>match uk x l with|true=>true|false=>meets r l
def vv(a b:List Nat×List Nat):Bool:=meets a.2 b.1||meets a.2 b.2||meets b.2 a.1
def xy(m i:Nat):Bool:=match Nat.beq ((m/2^i)%2) 1 with|true=>true|false=>false
def EH(m:Nat)(b:List Nat×List Nat):Nat->List (List Nat×List Nat)->Bool
 |_,[]=>true
 |i,a::r=>match (xy m i||!vv a b) with|true=>EH m b (i+1) r|false=>false
def DD(pre:List<|List Nat×List Nat):List cO->Trace->Bool
 |o::r,(b,_)::tr=>match EH o.mask b 0 pre with|true=>DD (pre++[b]) r tr|false=>false
 |_,_=>true
def Dg(pre:List<|List Nat×List Nat):List cO->Trace->Bool
 |o::r,(b,(q,_))::tr=>match EH o.mask b 0 pre with
  |true=>match q with
   |some _=>Dg (pre++[([],b.2)]) r tr
   |none=>Dg (pre++[b]) r tr
  |false=>false
 |_,_=>true
def Y8(H:List al)(id k:Nat)(d:D)(K:Prop):Prop:=kx H id λo=>match o with
 | .row _ cs _=>atK cs k λc=>c=d/\K
 |_=>False
def Ha(m:Nat)(wr:List Nat)(H:List al)(K:Prop):List (Nat×(Nat×Nat)×D)->Prop
 |[]=>K
 |(i,(id,k),d)::r=>match (xy m i||!uk id wr) with
  |true=>Ha m wr H K r
  |false=>Y8 H id k d<|Ha m wr H K r
def Eh(K:Prop):Nat->List (Nat×(Nat×Nat)×D)->List cO->Trace->Prop
 |i,ws,o::r,(b,(q,d,H))::tr=>Ha o.mask b.2 H (match q with
  |some l=>Eh K (i+1) (ws++[(i,l,d)]) r tr
  |none=>Eh K (i+1) ws r tr) ws
 |_,_,_,_=>K
def Ij(P:bG)(l:List cO)(env:Env)(H:List al)(K:Env->List al->Prop):Prop:=oq P l env H λe h tr=>match DD [] l tr with
 |true=>K e h
 |false=>match Dg [] l tr with
  |true=>Eh (K e h) 0 [] l tr
  |false=>False
def zA7(P:bG)(t:bp):Bool:=match P.underlying t with|some (.int _)=>true|_=>false
def zBp(P:bG)(t:bp):Bool:=match P.underlying t with|some .string=>true|_=>false
def JE(P:bG)(t:bp):Bool:=match P.underlying t with|some .bool=>true|_=>false
def isNil(P:bG)(t:bp)(y:bn):Bool :=
 match P.underlying t,y with
 |some (.slice _),.const (.slice none 0 0)=>true
 |_,_=>false
def AR(P:bG)(t:bp):Option Nat:=match P.underlying t with
 |some (.int _)=>some 0
 |some .bool=>some 1
 |some .string=>some 2
 |_=>none
def FJ(P:bG):Nat->List Field->Option (List Nat)
 |_,[]=>some []
 | i, f :: r => if f.name ≠ "_" ∧ f.offset = i then match AR P f.type, FJ P (i + 1) r with
  |some c,some cs=>some<|c::cs
  |_,_=>none
  else none
def Kw(P:bG)(t:bp):Option<|List Nat:=match P.underlying t with
 |some (.struct fs)=>if P.stoodInHeld t=false/\P.eqGuardType P.depth t=false then FJ P 0 fs.toList else none
 |some (.array n e)=>if P.eqGuardType P.depth t=false/\P.cellsOf e=1/\(P.info? e).isSome=true then (AR P e).map (List.replicate n ·) else none
 |_=>none
def yF(place:Nat->Option (Nat×Nat)):List (Nat×bn)->Option (List<|Nat×Nat×bn)
 |[]=>some []
 |(i,x)::r=>match place i,yF place r with
  |some (off,n),some l=>some<|(off,n,x)::l
  |_,_=>none
def zT:Nat->List (Nat×bn)->Option (List bn)
 |_,[]=>some []
 |k,(i,x)::r=>if i=k then (zT (k+1) r).map (x::·) else none
def qV(P:bG)(t:bp):Option Bool:=match P.underlying t with
 |some (.struct _)|some (.array _ _)=>some true
 |some _=>some false
 |none=>none
def Ra:TypeDesc->Bool
 | .slice _=>true
 | .string=>true
 |_=>false
theorem zvB{P:bG}{u:bp}{ud:TypeDesc}(hu:P.underlying u=some ud)(h:Ra ud):(∃e',P.underlying u=some (.slice e'))\/P.underlying u=some .string:=by
 cases ud<;>first|(cases h;done)|exact .inl ⟨_,hu⟩|exact .inr hu
def cop(P:bG)(o:Oper):Option POp :=
 match o.op with
 | .move x|.assign x=>some (.move x)
 | .pick c a b=>some (.pick c a b)
 | .alloc t=>match (P.info? t).bind (·.zero) with
  |some z=>if z.cells.toList.all gC then some (.alloc z.cells.toList) else none
  |none=>none
 | .box t x=>some (.box x<|match Nat.beq t uf with|true=>some t|false=>none)
 | .build t parts=>match (P.info? t).bind (·.zero),P.underlying t with
  |some z,some (.struct fs)=>match fs.toList.mapM (λf=>(P.info? f.type).map λi=>(f.offset,i.size)) with
   |some places=>(yF (places.toArray[·]?) parts.toList).map (.build z.cells.toList)
   |none=>none
  |some z,some (.array _ e)=>match P.info? e with
   |some ie=>(yF (λi=>some (i*ie.size,ie.size)) parts.toList).map (.build z.cells.toList)
   |none=>none
  |_,_=>none
 | .buildSlice t n parts=>match P.underlying t with
  |some (.slice e)=>match (P.info? e).bind (·.zero) with
   |some _=>if n*P.cellsOf e<=16777216/\0<P.cellsOf e then match zT 0 parts.toList with
    |some xs=>some (.GH (P.cellsOf e) n xs)
    |none=>none
    else none
   |none=>none
  |_=>none
 | .load t a=>match qV P t with
  |some true=>some (.xI (P.cellsOf t) a)
  |some false=>some (.nv a)
  |none=>none
 | .store t a v=>if P.cellsOf t=0 then none else some (.store (P.cellsOf t) a v)
 | .nilCheck x=>some (.Pl x)
 | .binOp op t x y _ =>
  if zA7 P t||zBp P t then some (.bin op x y)
  else match op with
   | .eql=>if JE P t then some (.eqb false x y) else match Kw P t with
    |some ks=>some (.eqa false ks x y)
    |none=>if isNil P t y then some (.HM false x) else none
   | .neq=>if JE P t then some (.eqb true x y) else match Kw P t with
    |some ks=>some (.eqa true ks x y)
    |none=>if isNil P t y then some (.HM true x) else none
   |_=>none
 | .unOp op _ x=>some (.un op x)
 | .extract x i=>some (.ext i x)
 | .fieldAddr s x f=>match P.underlying s with
  |some (.struct fs)=>match fs[f]? with
   |some fd=>if P.cellsOf fd.type=0 then none else some (.kM fd.offset x)
   |none=>none
  |_=>none
 | .indexAddr t x i=>match P.underlying t with
  |some (.slice e)=>if P.cellsOf e=0 then none else some (.DJ (P.cellsOf e) x i)
  |some (.array n e)=>if P.cellsOf e=0 then none else some (.Lr n (P.cellsOf e) x i)
  |_=>none
 | .index t x i=>match P.underlying t with
  |some .string=>some (.LI x i)
  |some (.array n e)=>match qV P e with
   |some ag=>some (.Oe n (P.cellsOf e) ag x i)
   |none=>none
  |_=>none
 | .makeFunc f first cap=>some (.Ps f first.toList cap.toList)
 | .makeSlice t l c=>match P.underlying t with
  |some (.slice e)=>match (P.info? e).bind (·.zero) with
   |some z=>if z.cells.size=P.cellsOf e/\0<P.cellsOf e/\0<P.bytesOf e/\z.cells.toList.all gC=true then some (.LZ (P.cellsOf e) (P.bytesOf e) z.cells.toList l c) else none
   |none=>none
  |_=>none
 | .slice t x lo hi none=>match P.underlying t with
  |some (.slice e)=>if 0<P.cellsOf e then some (.slc (P.cellsOf e) x lo hi) else none
  |_=>none
 | .call { callee:=.builtin .len,args,argTypes }=>match args.toList,argTypes.toList with
  |[x],[t]=>match P.underlying t with
   |some (.slice _)=>some (.len x)
   |some .string=>some (.NL x)
   |_=>none
  |_,_=>none
 | .call { callee:=.builtin .append,args,argTypes }=>match args.toList,argTypes.toList with
  |[x,y],[t,u]=>match P.underlying t,P.underlying u with
   |some (.slice e),some ud=>match Ra ud,(P.info? e).bind (·.zero) with
    |true,some z=>if z.cells.size=P.cellsOf e/\0<P.cellsOf e/\0<P.bytesOf e then some (.append (P.cellsOf e) (P.bytesOf e) x y<|Nat.beq e Kt) else none
    |_,_=>none
   |_,_=>none
  |_,_=>none
 | .call { callee:=.builtin .clear,args,argTypes }=>match args.toList,argTypes.toList with
  |[x],[t]=>match P.underlying t with
   |some (.slice e)=>match (P.info? e).bind (·.zero) with
    |some z=>match z.cells.toList with
     |[u]=>if P.cellsOf e=1/\gC u=true then some (.clr u x) else none
     |_=>none
    |none=>none
   |_=>none
  |_,_=>none
 | .call { callee:=.builtin .max,args,.. }=>match args.toList with
  |[x,y]=>some (.mx true x y)
  |_=>none
 | .call { callee:=.builtin .min,args,.. }=>match args.toList with
  |[x,y]=>some (.mx false x y)
  |_=>none
 | .call { callee:=.value (.func f),args,.. }=>match P.funcs[f]? with
  | some fn => if fn.name == "runtime.NumGoroutine" || fn.body.isNone then none else some (.call f args.toList)
  |none=>none
 | .call { callee:=.value x,args,.. }=>some (.Qf x args.toList)
 | .convert src dst x=>match P.underlying src,P.underlying dst with
  |some (.int _),some (.int k)=>some (.conv k x)
  |_,_=>none
 | .makeMap t none=>match P.underlying t with
  |some (.map k _)=>some (.PE k)
  |_=>none
 | .lookup t m x true=>match P.underlying t with
  |some (.map k e)=>match (P.info? e).bind (·.zero) with
   |some z=>if gC z=true then some (.look k z m x) else none
   |none=>none
  |_=>none
 | .lookup t m x false=>match P.underlying t with
  |some (.map k _)=>some (.MD k m x)
  |_=>none
 | .mapUpdate t m x v=>match P.underlying t with
  |some (.map k _)=>some (.QD k m x v)
  |_=>none
 |_=>none
def Nb(n:Nat)(o:Oper):Bool:=match o.dst with
 |some d=>decide (d<n)
 |none=>true
def oN(o:Oper):List Nat:=(o.after.toList.filter<|Region.binds .any).map (·.on)
def Ai(ms:List Nat):List Nat->Nat
 |[]=>0
 |i::r=>2^i ||| ms.getD i 0 ||| Ai ms r
def r9:List Nat->List Oper->List Nat
 |acc,[]=>acc
 |acc,o::r=>r9 (acc++[Ai acc<|oN o]) r
def HO(ops:Array Oper)(m:Nat)(o:Oper):Nat->List Oper->Bool
 |_,[]=>true
 |i,x::r=>(m.testBit i||x.apart ops o)&&HO ops m o (i+1) r
def BM(ops:Array Oper)(ms:List Nat):List Oper->List Oper->Bool
 |_,[]=>true
 |pre,o::r=>(oN o).all (·<pre.length)&&HO ops (ms.getD pre.length 0) o 0 pre&&BM ops ms (pre++[o]) r
def NY(P:bG)(n:Nat)(ops:Array Oper)(mask:Nat)(o:Oper):Option cO :=
 match Nb n o,cop P o,o.guard with
 |true,some p,none=>some ⟨o.dst,p,none,mask⟩
 |true,some p,some (j,b)=>match (ops[j]?).bind (·.dst) with
  |some t=>some ⟨o.dst,p,some (t,b),mask⟩
  |none=>none
 |_,_,_=>none
def qF(P:bG)(n:Nat)(ops:Array Oper):List Nat->List Oper->Option (List cO)
 |_,[]=>some []
 |ms,o::r=>match NY P n ops (ms.headD 0) o,qF P n ops ms.tail r with
  |some p,some l=>some<|p::l
  |_,_=>none
def EY(P:bG)(n:Nat)(ops:Array Oper)(draw:Bool):Option (List cO) :=
 match draw with
 |false=>qF P n ops [] ops.toList
 |true=>match P.follows .mixedOrders&&BM ops (r9 [] ops.toList) [] ops.toList with
  |true=>qF P n ops (r9 [] ops.toList) ops.toList
  |false=>none
def comp(P:bG)(n:Nat):Code->Option PC
 | .skip=>some .skip
 | .region _ ops draw=>(EY P n ops draw).map (.ops · draw)
 | .seq a b=>match comp P n a,comp P n b with
  |some x,some y=>some (.seq x y)
  |_,_=>none
 | .cond c a b=>match comp P n a,comp P n b with
  |some x,some y=>some (.cond c x y)
  |_,_=>none
 | .block id c=>(comp P n c).map (.block id)
 | .loop c=>(comp P n c).map .loop
 | .exit id=>some (.exit id)
 | .ret=>some .ret
 |_=>none
structure jt(n:Nat)(J:bh)(F:Nat->Prop)(env:Env)(H:List al)(a:Act)(w:bl):Prop where
 defers:a.defers=[]
 size:a.tmps.size=n
 tmps:∀t,rep J F w (iv t env)<|a.tmps.getD t undef
 ok:cC J F w λi=>H[i]?
 dom:∀id,J id≠none->id<H.length
abbrev iY:=Exit->Env->List al->Prop
@[irreducible] def PWp(P:bG)(n:Nat)(p:PC)(Q:iY)(env:Env)(H:List al):Prop :=
 ∀c,comp P n c=some p.bare->∀(J:bh) (F:Nat->Prop) (a:Act) (w:bl),jt n J F env H a w ->
  c.wp P (λe a' w'=>∃env' H' J' F',Q e env' H'/\jt n J' F' env' H' a' w'/\Ext J F w J' F' w') a w
def pw(P:bG)(n:Nat):PC->iY->Env->List al->Prop
 | .skip,Q,env,H=>Q .normal env H
 | .ops l d,Q,env,H=>match d with
  |false=>nj P l env H λenv H=>Q .normal env H
  |true=>Ij P l env H λenv H=>Q .normal env H
 | .seq a b,Q,env,H=>pw P n a (λe env H=>match e with
  | .normal=>pw P n b Q env H
  |e=>Q e env H) env H
 | .cond c a b,Q,env,H=>dT env c λd=>match d with
  | .sc (.bool t)=>ifK t (pw P n a Q env H)<|pw P n b Q env H
  |_=>False
 | .block id c,Q,env,H=>pw P n c (λe env H=>match e with
  | .exit jQ=>match Nat.beq jQ id with
   |true=>Q .normal env H
   |false=>Q (.exit jQ) env H
  |e=>Q e env H) env H
 | .loop c,Q,env,H=>PWp P n (.loop c) Q env H
 | .exit id,Q,env,H=>Q (.exit id) env H
 | .ret,Q,env,H=>Q .ret env H
 | .stop c,Q,env,H=>PWp P n c Q env H
def St.le(n:Nat)(env:Env)(H:List al)(env':Env)(H':List al):Prop:=∀J F a w,jt n J F env H a w->∃J' F',jt n J' F' env' H' a w/\Ext J F w J' F' w
def uI(env:Env):Env->Prop
 |[]=>True
 |(t,d)::r=>iv t env=d/\uI env r
def zCz{ι:Type}(n:Nat)(Q:iY)(E:ι->Env)(O:ι->List al)(G:ι->Prop)(m:ι->Nat)(k:Nat):iY
 | .normal,env,H=>∃j,G j/\m j<k/\St.le n env H (E j) (O j)
 |e,env,H=>Q e env H
inductive RV where
 |tmp (t:Nat)
 |agg (t n:Nat)
 |one (t:Nat)
def crv(P:bG):ResultVar->Option RV
 | .tmp t=>some (.tmp t)
 | .cell t ty=>match qV P ty with
  |some true=>some (.agg t<|P.cellsOf ty)
  |some false=>some (.one t)
  |none=>none
def xn(P:bG):List ResultVar->Option (List RV)
 |[]=>some []
 |r::l=>match crv P r,xn P l with
  |some x,some y=>some<|x::y
  |_,_=>none
structure wT(P:bG)(f:FuncId)(n:Nat)(rs:List RV)(p:PC):Prop where
 out : ∃ fn, P.funcs[f]? = some fn ∧ fn.ntmps = n ∧ (fn.name == "runtime.NumGoroutine") = false ∧ xn P fn.results.toList = some rs ∧ fn.body.bind (comp P n) = some p.bare
def wu(env:Env)(H:List al):List RV->(List D->Prop)->Prop
 |[],K=>K []
 | .tmp t::r,K=>ux t (λd=>wu env H r λds=>K<|d::ds) env
 | .agg t n::r,K=>ux t (λd=>match d with
  | .loc id off=>kx H id λo=>match o with
   | .row _ cs=>uD cs off λgA=>wv gA n λc=>wu env H r λds=>K (.agg c::ds)
   |_=>False
  |_=>False) env
 | .one t::r,K=>ux t (λd=>match d with
  | .loc id off=>kx H id λo=>match o with
   | .row _ cs=>atK cs off λc=>wu env H r λds=>K<|c::ds
   |_=>False
  |_=>False) env
def DP(rs:List RV)(R:D->List al->Prop):iY
 | .normal,env,H|.ret,env,H=>wu env H rs λds=>match ds with
  |[d]=>R d H
  |ds=>R (.aJ ds) H
 |_,_,_=>False
def params:Nat->List D->Env
 |_,[]=>[]
 |k,d::r=>(k,d)::params (k+1) r
mutual
def Pure:D->Prop
 | .dL|.sc _=>True
 | .loc ..|.elt ..|.own ..|.mp ..=>False
 | .ax cs|.agg cs|.aJ cs=>aA cs
 | .aM _ xs=>dF xs
 | .fn _ a b=>aA a/\aA b
def aA:List D->Prop
 |[]=>True
 |d::r=>Pure d/\aA r
def dF:List (List D)->Prop
 |[]=>True
 |d::r=>aA d/\dF r
end
section
def upd(G:Nat->Option al)(wr:List Nat)(H2:List al):Nat->Option al:=λid=>if id∈wr then H2[id]? else G id
theorem AV(G:Nat->Option al)(H2:List al):upd G [] H2=G:=by funext id;simp[upd]
structure OpS(P:bG)(o:Oper)(env:Env)(rd wr:List Nat)(H:List al)(d:D)(H2:List al):Prop where
 frame:∀id,id ∉ wr->H2[id]? = H[id]?
 len:H.length<=H2.length
 lt:∀id∈wr,id<H2.length
 run:∀(J:bh) (F:Nat->Prop) (w:bl) (a:Act) (G:Nat->Option al),cC J F w G->(∀x∈o.op.operands,rep J F w (fW env x)<|a.eval x) ->
  (∀id,id∈rd\/id∈wr->G id=H[id]?)->(∀id,H.length<=id->id∈wr->J id=none) ->
  ∀(K:Act->bl->Prop) (Q:Exit->Act->bl->Prop),
   (∀v w' J' F',rep J' F' w' d v->cC J' F' w' (upd G wr H2)->Ext J F w J' F' w'->(∀id,J id=none->id ∉ wr->J' id=none)->K (a.put o.dst v) w')->o.wp P a w K Q
theorem OpS.value{P:bG}{o:Oper}{env:Env}{rd:List Nat}{H:List al}{d:D}
  (h:∀(J:bh) (F:Nat->Prop) (w:bl) (a:Act) (G:Nat->Option al),cC J F w G->(∀x∈o.op.operands,rep J F w (fW env x)<|a.eval x) ->
   (∀id∈rd,G id=H[id]?)->∃v,(execOp a.eval o).run P w=.ok (.value v) w/\rep J F w d v):OpS P o env rd [] H d H where
 frame _ _:=rfl
 len:=aS _
 lt _ h:=by cases h
 run J F w a G az bd cD _ K Q hK:=by
  obtain⟨v,h1,h2⟩:=h J F w a G az bd λid hid=>cD id (.inl hid);unfold Oper.wp;rw[h1,Oper.upon_value];exact hK v w J F h2 (by rw[AV];exact az) (Ext.refl _ _ _) λ_ h _=>h
theorem AM(t:Nat)(K:D->Prop):∀env,ux t K env=K (iv t env)
 |[]=>rfl
 |(k,d)::r=>by
  simp only[ux,iv];cases Nat.beq t k
  ·exact AM t K r
  rfl
theorem JX:∀(l:List aW) (K:List D->Prop),scK l K=K (l.map .sc)
 |[],K=>rfl
 |v::r,K=>by simp only[scK,JX r,fR]
theorem iq(env:Env)(x:bn)(K:D->Prop):dT env x K=K (fW env x):=by
 cases x with
 |tmp t=>exact AM t K env
 |const v=>cases v<;>first|rfl|simp only[dT,fW,lift,JX]
 |global g=>rfl
 |func f=>rfl
theorem Ks(env:Env):∀(xs:List bn) (K:List D->Prop),A3 env xs K=K (xs.map<|fW env)
 |[],K=>rfl
 |x::r,K=>by simp only[A3,iq,Ks env r,fR]
theorem yG:∀(cs:List D) (n:Nat) (K:D->Prop),atK cs n K↔∃c,cs[n]? = some c/\K c
 |[],n,K=>by simp[atK]
 |c::r,0,K=>by simp[atK]
 |c::r,n+1,K=>by simp only[atK,B0];exact yG r n K
theorem C6:∀(cs:List D) (n:Nat) (K:List D->Prop),wv cs n K↔n<=cs.length/\K (cs.take n)
 |cs,0,K=>by simp[wv]
 |[],n+1,K=>by simp[wv]
 |c::r,n+1,K=>by simp only[wv,C6 r n,dC,vy,Nat.add_le_add_iff_right]
theorem Dj:∀(cs:List D) (n:Nat) (K:List D->Prop),uD cs n K↔n<=cs.length/\K (cs.drop n)
 |cs,0,K=>by cases cs<;>simp[uD]
 |[],n+1,K=>by simp[uD]
 |c::r,n+1,K=>by simp only[uD,Dj r n,dC,II,Nat.add_le_add_iff_right]
theorem lX:∀(H:List al) (n:Nat) (K:al->Prop),kx H n K↔∃c,H[n]? = some c/\K c
 |[],n,K=>by simp[kx]
 |c::r,0,K=>by simp[kx]
 |c::r,n+1,K=>by simp only[kx,B0];exact lX r n K
theorem wX:∀(H:List al) (n:Nat) (o:al) (K:List al->Prop),qB H n o K↔n<H.length/\K (H.set n o)
 |[],n,o,K=>by simp[qB]
 |c::r,0,o,K=>by simp[qB]
 |c::r,n+1,o,K=>by simp only[qB,wX r n,dC,List.set_cons_succ,Nat.add_lt_add_iff_right]
theorem yg:∀(H:List al) (o:al) (K:List al->Nat->Prop),tN H o K↔K (H++[o]) H.length
 |[],o,K=>by simp[tN]
 |c::r,o,K=>by simp only[tN,yg r,dC,pQ]
theorem Er:∀(r:List D) (n:Nat) (cs:List D) (K:List D->Prop),tx r n cs K↔n+cs.length<=r.length/\K (r.take n++cs++r.drop (n+cs.length))
 |[],0,[],K=>by simp[tx]
 |[],0,c::cs,K=>by simp[tx]
 |[],n+1,cs,K=>by simp[tx]
 |x::r,0,[],K=>by simp[tx]
 |x::r,0,c::cs,K=>by
  simp only[tx,Er r 0 cs,dC,s5,nG,lp,pQ,II,Nat.add_le_add_iff_right]
 |x::r,n+1,cs,K=>by
  simp only[tx,Er r n cs,dC,vy,pQ];rw[show n+1+cs.length=n+cs.length+1 by omega,II,Nat.add_le_add_iff_right]
theorem rH(a b:Nat)(A:Prop):pG a b A↔a=b/\A:=by
 unfold pG;cases e:Nat.beq a b
 ·simp only[false_iff,not_and];intro h;subst h;simp at e
 simp[Bz e]
def D.cells:D->List D
 | .agg cs=>cs
 |d=>[d]
def storable(d:D):Bool:=match d with
 | .agg cs=>HF cs
 |d=>ya d
theorem KK(d:D)(K:List D->Prop):Ey d K↔storable d/\K d.cells:=by
 cases d<;>simp only[Ey,storable,D.cells];repeat grind
section
variable{J:bh}{F:Nat->Prop}{w:bl}
theorem Sm:∀(cs:List D),HF cs->∀c∈cs,ya c=true
 |[],_,c,h=>by cases h
 |c::r,h,d,hd=>by
  simp only[HF] at h
  cases e:ya c with
  |false=>rw[e] at h;cases h
  |true =>
   rw[e] at h;rcases eQ.1 hd with rfl|hd
   ·exact e
   exact Sm r h d hd
theorem Vx{c:D}{v:aW}(h:ya c)(k:rep J F w c v):gC v:=by
 cases c<;>simp only[rep] at k
 case sc u=>subst k;cases v<;>first|rfl|simp[ya] at h
 case loc=>obtain⟨_,_,_,_,_,rfl⟩:=k;rfl
 case ax=>obtain⟨_,_,rfl,_⟩:=k;rfl
 case aM=>obtain⟨_,_,_,rfl,_⟩:=k;rfl
 case fn=>obtain⟨_,_,rfl,_⟩:=k;rfl
 case elt=>obtain⟨_,_,_,rfl,_⟩:=k;rfl
 case own=>obtain⟨_,_,_,_,_,rfl,_⟩:=k;rfl
 case mp=>obtain⟨_,_,_,_,_,rfl⟩:=k;rfl
 all_goals simp[ya] at h
end
theorem La(k:IntKind)(z:Int)(K:D->Prop)(h:Cn k z K):K (.sc (.int k<|k.wrap z)):=by
 rcases h with⟨h1,h2⟩|h
 ·unfold InR at h1;rw[h1];exact h2
 grind
variable(P:bG)
theorem C2(w:bl)(op:BinOp)(t:bp)(x y:bn)(k k':IntKind)(a b:Int):(eqGuard op t x y (.int k a) (.int k' b)).run P w=.ok () w:=by
 cases op<;>simp[eqGuard,pure,Sem.run]
theorem S3(w:bl)(op:BinOp)(t:bp)(x y:bn)(a b:aB):(eqGuard op t x y (.string a) (.string b)).run P w=.ok () w:=by
 cases op<;>simp[eqGuard,pure,Sem.run]
theorem Rx(w:bl)(op:BinOp)(t:bp)(x y:bn)(a b:Bool):(eqGuard op t x y (.bool a) (.bool b)).run P w=.ok () w:=by
 cases op<;>simp[eqGuard,pure,Sem.run]
theorem Wv{k k':IntKind}(h:Nat.beq (DC k)<|DC k'):k=k':=by
 cases k<;>cases k'<;>first|rfl|cases h
theorem zqE(op:BinOp)(dx dy:D)(K:D->Prop)(h:PY op dx dy K) :
  ∃u v r,dx=.sc u/\dy=.sc v/\K (.sc r)/\∀(P:bG) (w:bl) (t:bp) (x y:bn),((do eqGuard op t x y u v;binOp op t u v:Sem aW)).run P w=.ok r w:=by
 unfold PY at h;split at h
 ·rename_i k a k' b;split at h
  ·obtain⟨h0,h⟩:=h;refine⟨_,_,_,rfl,rfl,La _ _ _ h,λP w t x y=>?_⟩;simp[C2,binOp,Op.shift,show ¬b<0 by omega,pure,Sem.run]
  ·obtain⟨h0,h⟩:=h;refine⟨_,_,_,rfl,rfl,h,λP w t x y=>?_⟩;simp[C2,binOp,Op.shift,show ¬b<0 by omega,pure,Sem.run]
  rename_i qo ss;split at h
  ·exact h.elim
  rename_i hk;have hk:=Wv hk;subst hk;cases op<;>simp only at h;all_goals try exact h.elim
  case add|sub|mul=>exact⟨_,_,_,rfl,rfl,La _ _ _ h,λP w t x y=>by simp[C2,binOp,Op.intArith,pure,Sem.run]⟩
  case quo=>exact⟨_,_,_,rfl,rfl,La _ _ _ h.2,λP w t x y=>by simp[C2,binOp,Op.intDiv,pure,Sem.run,h.1]⟩
  case rem=>exact⟨_,_,_,rfl,rfl,h.2,λP w t x y=>by simp[C2,binOp,Op.intDiv,pure,Sem.run,h.1]⟩
  all_goals exact⟨_,_,_,rfl,rfl,h,λP w t x y=>by simp[C2,binOp,Op.intCmp,Op.intBits,pure,Sem.run,kh]⟩
 ·rename_i a b;cases op<;>simp only at h;all_goals try exact h.elim
  case add=>exact⟨_,_,_,rfl,rfl,h.2,λP w t x y=>by
   have h1:=h.1;have h2:(a.size:Int)+(b.size:Int)<=9223372036854775807:=(by omega);simp[S3,binOp,Op.stringOp,pure,Sem.run,h2]⟩
  all_goals exact⟨_,_,_,rfl,rfl,h,λP w t x y=>by simp[S3,binOp,Op.stringOp,pure,Sem.run]⟩
 exact h.elim
section
variable{P:bG}{seq:Bool}{o:Oper}{env:Env}{H:List al}{K:qA}
def Sound(P:bG)(o:Oper)(env:Env)(H:List al)(K:qA):Prop:=∃d H2 rd wr,OpS P o env rd wr H d H2/\K d H2 rd wr
theorem iE{d:D}{rd:List Nat}(hK:K d H rd [])
  (h:∀(J:bh) (F:Nat->Prop) (w:bl) (a:Act) (G:Nat->Option al),cC J F w G->(∀x∈o.op.operands,rep J F w (fW env x)<|a.eval x) ->
   (∀id∈rd,G id=H[id]?)->∃v,(execOp a.eval o).run P w=.ok (.value v) w/\rep J F w d v):Sound P o env H K:=⟨d,H,rd,[],OpS.value h,hK⟩
variable{x:bn}
theorem YU(ho:o.op=.move x\/o.op=.assign x)(h:step P seq (.move x) env H K):Sound P o env H K:=by
 simp only[step,iq] at h;refine iE h λJ F w a G _ bd _=>⟨a.eval x,?_,?_⟩
 ·rcases ho with e|e<;>simp[execOp,e,pure,Sem.run]
 rcases ho with e|e<;>exact bd x<|by simp[e,Op.operands]
theorem zwo{A B:Prop}:ifK true A B=A:=rfl
theorem ztD{A B:Prop}:ifK false A B=B:=rfl
variable{y:bn}
theorem zBi{c:bn}(ho:o.op=.pick c x y)(h:step P seq (.pick c x y) env H K):Sound P o env H K:=by
 simp only[step,iq] at h
 cases hc:fW env c with
 |sc u =>
  cases u with
  |bool t =>
   rw[hc] at h
   cases t with
   |true =>
    simp only[zwo] at h;refine iE h λJ F w a G _ bd _=>⟨a.eval x,?_,bd x<|by simp[ho,Op.operands]⟩;have h1:=bd c (by simp[ho,Op.operands]);rw[hc] at h1;simp only[rep] at h1;simp[execOp,ho,pure,Sem.run,h1,asBool]
   |false =>
    simp only[ztD] at h;refine iE h λJ F w a G _ bd _=>⟨a.eval y,?_,bd y<|by simp[ho,Op.operands]⟩;have h1:=bd c (by simp[ho,Op.operands]);rw[hc] at h1;simp only[rep] at h1;simp[execOp,ho,pure,Sem.run,h1,asBool]
  |_=>grind
 |_=>grind
theorem zvQ(ho:o.op=.nilCheck x)(h:step P seq (.Pl x) env H K):Sound P o env H K:=by
 simp only[step,iq] at h;have key:∀v,(∃a,v=Value.pointer (some a))\/(∃f us vs,v=.func (.func f) us vs)->∀(w:bl) (ρ:bn->aW),ρ x=v->(execOp ρ o).run P w=.ok (.value v) w:=by
  rintro v (⟨a,rfl⟩|⟨f,us,vs,rfl⟩) w ρ e<;>simp[execOp,ho,e,pure,Sem.run]
 cases hx:fW env x with
 |loc id off =>
  rw[hx] at h;refine iE h λJ F w a G _ bd _=>?_;have h1:=bd x (by simp[ho,Op.operands]);rw[hx] at h1;refine⟨_,key _ (.inl ?_) w _ rfl,h1⟩;simp only[rep] at h1
  grind
 |elt id ar i off =>
  rw[hx] at h;refine iE h λJ F w a G _ bd _=>?_;have h1:=bd x (by simp[ho,Op.operands]);rw[hx] at h1;refine⟨_,key _ (.inl ?_) w _ rfl,h1⟩;simp only[rep] at h1
  grind
 |ax cs =>
  rw[hx] at h;refine iE h λJ F w a G _ bd _=>?_;have h1:=bd x (by simp[ho,Op.operands]);rw[hx] at h1;refine⟨_,key _ (.inl ?_) w _ rfl,h1⟩;simp only[rep] at h1
  grind
 |fn f first cap =>
  rw[hx] at h
  cases f with
  |func f =>
   refine iE h λJ F w a G _ bd _=>?_;have h1:=bd x (by simp[ho,Op.operands]);rw[hx] at h1;refine⟨_,key _ (.inr ?_) w _ rfl,h1⟩;simp only[rep] at h1
   grind
  |_=>exact h.elim
 |_=>grind
variable{op:BinOp}{t yt:bp}
theorem ZP(ho:o.op=.binOp op t x y yt)(h:step P seq (.bin op x y) env H K):Sound P o env H K:=by
 simp only[step,iq] at h;obtain⟨u,v,r,h1,h2,h3,h4⟩:=zqE _ _ _ _ h;refine iE h3 λJ F w a G _ bd _=>⟨r,?_,by simp only[rep]⟩;have k1:=bd x (by simp[ho,Op.operands]);have k2:=bd y (by simp[ho,Op.operands]);rw[h1] at k1;rw[h2] at k2;simp only[rep] at k1 k2;simp only[execOp,ho,k1,k2];have:=h4 P w t x y;simp only[Sem.run_bind] at this⊢;rw[this];rfl
theorem run_equal_bool(ht:P.underlying t=some .bool)(a b:Bool)(w:bl):(Op.equal t (.bool a) (.bool b)).run P w=.ok (a==b) w:=by
 unfold Op.equal;rw[show Op.maxDepth=9999+1 from rfl];unfold Op.equalIn;simp[underlying,program,Sem.run,ht,pure]
variable{neq:Bool}
theorem Q8(pR:op=if neq then .neq else .eql)(ht:P.underlying t=some .bool)(ho:o.op=.binOp op t x y yt)(h:step P seq (.eqb neq x y) env H K):Sound P o env H K:=by
 simp only[step,iq] at h;unfold eqbK at h;split at h
 ·rename_i u v e1 e2
  cases neq with
  |false =>
   simp only[xt,if_false] at pR;refine iE h λJ F w a G _ bd _=>⟨_,?_,rfl⟩;have k1:=bd x (by simp[ho,Op.operands]);have k2:=bd y (by simp[ho,Op.operands]);rw[e1] at k1;rw[e2] at k2;simp only[rep] at k1 k2;simp[execOp,ho,k1,k2,pR,Rx,binOp,run_equal_bool ht,Sem.run,pure]
  |true =>
   simp only[if_true] at pR;refine iE h λJ F w a G _ bd _=>⟨_,?_,rfl⟩;have k1:=bd x (by simp[ho,Op.operands]);have k2:=bd y (by simp[ho,Op.operands]);rw[e1] at k1;rw[e2] at k2;simp only[rep] at k1 k2;simp[execOp,ho,k1,k2,pR,Rx,binOp,run_equal_bool ht,Sem.run,pure]
 exact h.elim
theorem Vg{c:Nat}{x y:D}{K:Bool->Prop}(h:MU c x y K) :
  ∃u v b,x=.sc u/\y=.sc v/\K b/\∀(P:bG) (t:bp),AR P t=some c->(∀(us:Array aW) (i:Nat) (w:bl) (z:aW),us[i]? = some z->(part t us i).run P w=.ok z w)/\∀d w,(Op.equalIn (d+1) t u v).run P w=.ok b w:=by
 unfold MU at h;split at h
 ·rename_i k a k' b;obtain⟨e1,h2⟩:=(rH _ _ _).1 h;have e1:k=k':=Wv (by rw[e1];exact Nat.beq_refl _);subst e1;refine⟨_,_,_,rfl,rfl,h2,λP t ht=>?_⟩;unfold AR at ht;split at ht<;>try (cases ht;done)
  rename_i k0 e;exact⟨λus i w z hz=>by simp[part,isAgg,run_underlying e,hz],λd w=>run_equalIn_int w d t k k0 a b e⟩
 ·refine⟨_,_,_,rfl,rfl,h,λP t ht=>?_⟩;unfold AR at ht;split at ht<;>try (cases ht;done)
  rename_i e;exact⟨λus i w z hz=>by simp[part,isAgg,run_underlying e,hz],λd w=>run_equalIn_bool' w d t _ _ e⟩
 ·refine⟨_,_,_,rfl,rfl,h,λP t ht=>?_⟩;unfold AR at ht;split at ht<;>try (cases ht;done)
  rename_i e;exact⟨λus i w z hz=>by simp[part,isAgg,run_underlying e,hz],λd w=>run_equalIn_string w d t _ _ e⟩
 exact h.elim
theorem RX:∀{ks:List Nat} {xs ys:List D} {K:Bool->Prop},AI ks xs ys K->∃b,K b /\
  ∀(P:bG) (us vs:Array aW) (J:bh) (F:Nat->Prop) (w0:bl) (fs:List Field) (i:Nat),FJ P i fs=some ks ->
   bA J F w0 xs (us.toList.drop i)->bA J F w0 ys (vs.toList.drop i)->∀d w,(Op.eqFields (d+1) us vs fs).run P w=.ok b w
 |[],xs,ys,K,h=>by
  cases xs<;>cases ys<;>simp only[AI] at h;refine⟨_,h,λP us vs J F w0 fs i hf _ _ d w=>?_⟩
  cases fs with
  |nil=>simp[Op.eqFields,Sem.run,pure]
  |cons f r =>
   simp only[FJ] at hf;repeat' (split at hf)
   all_goals cases hf
 |c::cs,xs,ys,K,h=>by
  cases xs<;>cases ys<;>simp only[AI] at h;rename_i x xs y ys;obtain⟨u,v,b,rfl,rfl,h,hP⟩:=Vg h;obtain⟨q,hq,hR⟩:=RX h;refine⟨_,hq,λP us vs J F w0 fs i hf h1 h2 d w=>?_⟩
  cases fs with
  |nil=>cases hf
  |cons f r =>
   simp only[FJ] at hf;split at hf
   ·rename_i hc;split at hf
    ·rename_i c' gA e1 e2;cases hf;obtain⟨hp,he⟩:=hP P f.type e1;simp only[bA,rep] at h1 h2;obtain⟨u',PM,g1,rfl,g2⟩:=h1;obtain⟨v',Oa,g3,rfl,g4⟩:=h2;have k1:us[i]? = some u':=by
      have:=bH (λl=>l[0]?) g1;simpa using this
     have k2:vs[i]? = some v':=by
      have:=bH (λl=>l[0]?) g3;simpa using this
     have k3:us.toList.drop (i+1)=PM:=by
      have:=bH List.tail g1;simpa [List.tail_drop] using this
     have k4:vs.toList.drop (i+1)=Oa:=by
      have:=bH List.tail g3;simpa [List.tail_drop] using this
     have hr:=hR P us vs J F w0 r (i+1) e2 (k3▸g2) (k4▸g4) d;have p1:=hp us i w u' k1;have p2:=hp vs i w v' k2;simp only[Op.eqFields,ae hc.1,hc.2,Sem.run_bind,p1,p2,Result.andThen_ok,he d w,Sem.run_ite];cases b
     ·simp[Sem.run,pure]
     simp[hr w]
    cases hf
   cases hf
theorem Sj{c:Nat}:∀{n:Nat} {xs ys:List D} {K:Bool->Prop},AI (List.replicate n c) xs ys K->∃b,K b /\
  ∀(P:bG) (us vs:Array aW) (J:bh) (F:Nat->Prop) (w0:bl) (e:bp) (i:Nat),AR P e=some c ->
   bA J F w0 xs (us.toList.drop i)->bA J F w0 ys (vs.toList.drop i)->∀d w,(Op.eqItems (d+1) e 1 us vs<|List.range' i n).run P w=.ok b w
 |0,xs,ys,K,h=>by
  cases xs<;>cases ys<;>simp only[List.replicate,AI] at h;exact⟨_,h,λP us vs J F w0 e i hf _ _ d w=>by simp[Op.eqItems,Sem.run,pure]⟩
 |n+1,xs,ys,K,h=>by
  cases xs<;>cases ys<;>simp only[List.replicate,AI] at h;rename_i x xs y ys;obtain⟨u,v,b,rfl,rfl,h,hP⟩:=Vg h;obtain⟨q,hq,hR⟩:=Sj h;refine⟨_,hq,λP us vs J F w0 e i hf h1 h2 d w=>?_⟩;obtain⟨hp,he⟩:=hP P e hf;simp only[bA,rep] at h1 h2;obtain⟨u',PM,g1,rfl,g2⟩:=h1;obtain⟨v',Oa,g3,rfl,g4⟩:=h2;have k1:us[i]? = some u':=by
   have:=bH (λl=>l[0]?) g1;simpa using this
  have k2:vs[i]? = some v':=by
   have:=bH (λl=>l[0]?) g3;simpa using this
  have k3:us.toList.drop (i+1)=PM:=by
   have:=bH List.tail g1;simpa [List.tail_drop] using this
  have k4:vs.toList.drop (i+1)=Oa:=by
   have:=bH List.tail g3;simpa [List.tail_drop] using this
  have hr:=hR P us vs J F w0 e (i+1) hf (k3▸g2) (k4▸g4) d;have p1:=hp us i w u' k1;have p2:=hp vs i w v' k2;simp only[List.range'_succ,Op.eqItems,BQ,Sem.run_bind,p1,p2,Result.andThen_ok,he d w,Sem.run_ite];cases b
  ·simp[Sem.run,pure]
  simp[hr w]
theorem Xs{ks:List Nat}(pR:op=if neq then .neq else .eql)(ht:Kw P t=some ks)(ho:o.op=.binOp op t x y yt)(h:step P seq (.eqa neq ks x y) env H K):Sound P o env H K:=by
 simp only[step,iq] at h;unfold Kw at ht;split at ht
 ·rename_i fs hu;split at ht
  ·rename_i hg;unfold P3 at h;split at h
   ·rename_i xs ys e1 e2;have lU:P.fieldsOf t=fs:=(by simp[Program.fieldsOf,hu]);obtain⟨b,hK,hr⟩:=RX h;refine iE hK λJ F w a G _ bd _=>?_;have k1:=bd x (by simp[ho,Op.operands]);have k2:=bd y (by simp[ho,Op.operands]);rw[e1] at k1;rw[e2] at k2;simp only[rep] at k1 k2;obtain⟨us,k1,r1⟩:=k1;obtain⟨vs,k2,r2⟩:=k2;have kR:=hr P us.toArray vs.toArray J F w fs.toList 0 ht (by simpa using r1) (by simpa using r2) 9998 w;have heq:(Op.equalIn 10000 t (.agg us.toArray) (.agg vs.toArray)).run P w=.ok b w:=by
     rw[show(10000:Nat)=9999+1 from rfl,run_equalIn_struct w 9999 t _ _ (by rw[lU];exact hu) hg.1,lU];exact kR
    cases neq with
    |false =>
     simp only[xt,if_false] at pR;exact⟨_,by simp[execOp,ho,k1,k2,pR,run_eqGuard_agg w _ t x y _ _ hg.2,run_eql_struct,heq,Sem.run,pure,ub],rfl⟩
    |true =>
     simp only[if_true] at pR;exact⟨_,by simp[execOp,ho,k1,k2,pR,run_eqGuard_agg w _ t x y _ _ hg.2,run_neq_struct,heq,Sem.run,pure,ub],rfl⟩
   exact h.elim
  cases ht
 ·rename_i n e hu;split at ht
  ·rename_i hg
   cases YF:AR P e with
   |none=>grind
   |some c =>
    rw[YF] at ht;cases ht;obtain⟨inf,hi⟩:=Option.isSome_iff_exists.1 hg.2.2;unfold P3 at h;split at h
    ·rename_i xs ys e1 e2;obtain⟨b,hK,hr⟩:=Sj h;refine iE hK λJ F w a G _ bd _=>?_;have k1:=bd x (by simp[ho,Op.operands]);have k2:=bd y (by simp[ho,Op.operands]);rw[e1] at k1;rw[e2] at k2;simp only[rep] at k1 k2;obtain⟨us,k1,r1⟩:=k1;obtain⟨vs,k2,r2⟩:=k2;have kR:=hr P us.toArray vs.toArray J F w e 0 YF (by simpa using r1) (by simpa using r2) 9998 w;have heq:(Op.equalIn 10000 t (.agg us.toArray) (.agg vs.toArray)).run P w=.ok b w:=by
      rw[show(10000:Nat)=9999+1 from rfl,run_equalIn_array w 9999 _ _ hu hi,hg.2.1,List.range_eq_range'];exact kR
     cases neq with
     |false =>
      simp only[xt,if_false] at pR;exact⟨_,by simp[execOp,ho,k1,k2,pR,run_eqGuard_agg w _ t x y _ _ hg.1,run_eql_struct,heq,Sem.run,pure,ub],rfl⟩
     |true =>
      simp only[if_true] at pR;exact⟨_,by simp[execOp,ho,k1,k2,pR,run_eqGuard_agg w _ t x y _ _ hg.1,run_neq_struct,heq,Sem.run,pure,ub],rfl⟩
    exact h.elim
  cases ht
 cases ht
theorem s_un{op:UnOp}(ho:o.op=.unOp op t x)(h:step P seq (.un op x) env H K):Sound P o env H K:=by
 simp only[step,iq] at h;unfold unK at h;split at h
 ·rename_i b e;refine iE h λJ F w a G _ bd _=>⟨_,?_,rfl⟩;have k1:=bd x (by simp[ho,Op.operands]);rw[e] at k1;simp only[rep] at k1;simp[execOp,ho,k1,Op.unary,Sem.run,pure]
 exact h.elim
theorem zCR{i:Nat}(ho:o.op=.extract x i)(h:step P seq (.ext i x) env H K):Sound P o env H K:=by
 simp only[step,iq] at h;split at h
 ·rename_i cs e;obtain⟨c,h1,h2⟩:=(yG _ _ _).1 h;refine iE h2 λJ F w a G _ bd _=>?_;have k1:=bd x (by simp[ho,Op.operands]);rw[e] at k1;simp only[rep] at k1;obtain⟨vs,k2,k3⟩:=k1;obtain⟨v,k4,k5⟩:=uu _ _ _ _ h1 k3;refine⟨v,?_,k5⟩;simp[execOp,ho,k2,Instr.extract,k4,Sem.run,pure]
 exact h.elim
theorem zBz{f:Fn}{first cap:Array bn}(ho:o.op=.makeFunc f first cap)(h:step P seq (.Ps f first.toList cap.toList) env H K):Sound P o env H K:=by
 simp only[step,Ks] at h;refine iE h λJ F w a G _ bd _=>⟨.func f (first.map a.eval)<|cap.map a.eval,?_,?_⟩
 ·simp[execOp,ho,Instr.makeFunc,Sem.run,pure]
 simp only[rep];refine⟨first.toList.map a.eval,cap.toList.map a.eval,?_,?_,?_⟩
 ·congr 1<;>(apply Array.ext' ;simp)
 ·refine Fg _ _ (by simp) λj d v hd hv=>?_;rw[fx] at hd hv
  cases e:first.toList[j]? with
  |none=>grind
  |some x =>
   rw[e] at hd hv;simp only[C4,Option.some.injEq] at hd hv;subst hd;subst hv;exact bd x<|by simp[ho,Op.operands];exact .inl<|by simpa using o7 e
 refine Fg _ _ (by simp) λj d v hd hv=>?_;rw[fx] at hd hv
 cases e:cap.toList[j]? with
 |none=>grind
 |some x =>
  rw[e] at hd hv;simp only[C4,Option.some.injEq] at hd hv;subst hd;subst hv;exact bd x<|by simp[ho,Op.operands];exact .inr<|by simpa using o7 e
theorem zBC{args:Array bn}{ts:Array bp}(ha:args.toList=[x])(kF:ts.toList=[t])(ht:P.underlying t=some .string)(ho:o.op=.call { callee:=.builtin .len,args,argTypes:=ts })(h:step P seq (.NL x) env H K):Sound P o env H K:=by
 have ea:args=#[x]:=Array.ext' (by simpa using ha);have et:ts=#[t]:=Array.ext' (by simpa using kF);subst ea et;simp only[step,iq] at h;split at h
 ·rename_i s e;refine iE h λJ F w a G _ bd _=>⟨_,?_,rfl⟩;have k1:=bd x (by simp[ho,Op.operands,Call.operands]);rw[e] at k1;simp only[rep] at k1;simp[execOp,ho,resolve,invoke,builtin,Builtin.len_,k1,Sem.run,pure,underlying,program,ht,goInt]
 exact h.elim
theorem zBL{i:bn}(ht:P.underlying t=some .string)(ho:o.op=.index t x i)(h:step P seq (.LI x i) env H K):Sound P o env H K:=by
 simp only[step,iq] at h;split at h
 ·rename_i s k z e1 e2;obtain⟨h0,b,hb,h⟩:=h;refine iE h λJ F w a G _ bd _=>⟨_,?_,rfl⟩;have k1:=bd x (by simp[ho,Op.operands]);have k2:=bd i (by simp[ho,Op.operands]);rw[e1] at k1;rw[e2] at k2;simp only[rep] at k1 k2;simp[execOp,ho,Instr.index,asIntOf,k1,k2,Sem.run,pure,underlying,program,ht,h0,hb]
 exact h.elim
end
end
section
theorem oK(b o n:Nat):(⟨b,o,none⟩:Addr).add n=⟨b,o+n,none⟩:=by
 unfold Addr.add;repeat grind
section
variable{J:bh}{F:Nat->Prop}{w:bl}
variable{b o:Nat}{cs:List D}
theorem Qo(h:dY J F w b cs o)(off n:Nat):dY J F w b ((cs.drop off).take n)<|o+off:=by
 refine rU _ _ λj c hc=>?_;have h1:cs[off+j]? = some c:=by
  grind
 have:=rn cs o (off+j) c h1 h
 grind
theorem Hl(h:dY J F w b cs o)(off:Nat):dY J F w b (cs.drop off)<|o+off:=by
 have:=Qo h off (cs.drop off).length
 grind
theorem KO{b:Nat}:∀(cs:List D) (o:Nat),dY J F w b cs o->∃vs:List aW,bA J F w cs vs/\(∀j v,vs[j]? = some v->w.cell? ⟨b,o+j,none⟩=some v)/\∀v∈vs,gC v=true
 |[],o,_=>⟨[],by simp only[bA],(λj v h=>by simp at h),(λv h=>by cases h)⟩
 |c::r,o,h=>by
  simp only[dY] at h;obtain⟨⟨u,h1,h0,h2⟩,h3⟩:=h;obtain⟨vs,k1,k2,k3⟩:=KO r (o+1) h3;refine⟨u::vs,by simp only[bA];exact⟨u,vs,rfl,h2,k1⟩,λj v hv=>?_,λv hv=>(eQ.1 hv).elim (λe=>e▸h0)<|k3 v⟩
  cases j with
  |zero=>simp at hv;subst hv;exact h1
  |succ j =>
   have:=k2 j v (by simpa using hv);rwa [show o+1+j=o+(j+1) by omega] at this
variable{P:bG}
variable{t:bp}
theorem KQ{b:Bool}(h:qV P t=some b):(isAgg t).run P w=.ok b w:=by
 unfold qV at h
 cases e:P.underlying t with
 |none=>grind
 |some d =>
  rw[e] at h;cases d<;>simp at h<;>subst h<;>simp[isAgg,underlying,program,Sem.run,e,pure]
theorem Vy{b:Bool}(h:qV P t=some b):∃i,P.info? t=some i/\i.size=P.cellsOf t:=by
 unfold qV Program.underlying at h
 cases e:P.info? t with
 |none=>grind
 |some i=>exact⟨i,rfl,by simp[Program.cellsOf,e]⟩
theorem wL{i:TypeInfo}(h:P.info? t=some i):(sizeOf t).run P w=.ok i.size w:=by
 simp[sizeOf,typeInfo,program,Sem.run,h,pure]
theorem TE(h:qV P t=some false){a:Addr}{u:aW}(hc:w.cell? a=some u):(Instr.loadAt t (.pointer<|some a)).run P w=.ok u w:=by
 simp[Instr.loadAt,Instr.sureAddr,loadVar,KQ h,load,Sem.run,hc,pure]
theorem Vz(h:qV P t=some true){vs:List aW}(hn:vs.length=P.cellsOf t)(hc:∀(j:Nat) (v:aW),vs[j]? = some v->w.cell? ⟨b,o+j,none⟩=some v) :
  (Instr.loadAt t (.pointer<|some ⟨b,o,none⟩)).run P w=.ok (.agg vs.toArray) w:=by
 obtain⟨i,h1,h2⟩:=Vy h;have h3:=run_loadCells_list (P:=P) (w:=w) ⟨b,o,none⟩ vs λj v hv=>by rw[oK];exact hc j v hv
 simp[Instr.loadAt,Instr.sureAddr,loadVar,KQ h,wL h1,h2,<-hn,Sem.run,pure,h3]
variable{G:Nat->Option al}{id:Nat}{s:Site}{m:Bool}
theorem M5(h:cC J F w G){t:Option bp}(h1:J id=some s)(h2:s.ad=some ⟨b,0,none⟩)(h3:G id=some (.row m cs t)):dY J F w b cs 0:=by
 obtain⟨o,k1,k2⟩:=h.obj id s h1;rw[h3] at k1;cases k1;obtain⟨_,_,_,_,_,b',_,_,e,_,_,k,_⟩:=k2
 grind
theorem vo(h:cC J F w G){ar an:Nat}{xs:List<|List D}{t:Bool}(h1:J id=some s)(h3:G id=some (.vec m ar an xs t)) :
  s.row=false/\s.ar=ar/\s.an=an/\s.len=xs.length/\s.len<=s.cap/\(s.cap=0\/∃b o vals te,s.ad=some ⟨b,o,none⟩/\w.heap[b]? = some (.cells vals (GW t te) (0,0))/\o+s.cap*an<=vals.size/\fm J F w b an xs o/\(m=false->F b)):=by
 obtain⟨o,k1,k2⟩:=h.obj id s h1;rw[h3] at k1;cases k1;exact k2
end
section
variable{P:bG}{seq:Bool}{o:Oper}{env:Env}{H:List al}{K:qA}
def G9(P:bG)(env:Env)(H:List al)(d:D)(rd:List Nat)(cs:List D):Prop :=
 ∀(J:bh) (F:Nat->Prop) (w:bl) (G:Nat->Option al) (v:aW),cC J F w G->(∀id∈rd,G id=H[id]?)->rep J F w d v->∃b o,v=.pointer (some ⟨b,o,none⟩)/\dY J F w b cs o
variable{off:Nat}{m:Bool}{cs:List D}
theorem NT{id:Nat}{t:Option bp}(h:H[id]? = some (.row m cs t)):G9 P env H (.loc id off) [id]<|cs.drop off:=λJ F w G v az cD hv=>by
 simp only[rep] at hv;obtain⟨s,b,h1,h2,h3,rfl⟩:=hv;have:=Hl (M5 az h1 h3<|by rw[cD id<|by simp];exact h) off;exact⟨b,off,rfl,by simpa using this⟩
theorem TL:G9 P env H (.ax cs) [] cs:=λJ F w G v az cD hv=>by
 simp only[rep] at hv;obtain⟨b,o,rfl,_,h⟩:=hv;exact⟨b,o,rfl,h⟩
variable{an:Nat}{xs:List<|List D}
theorem Q0{id ar i:Nat}{row:List D}(h:H[id]? = some (.vec m ar an xs))(hr:xs[i]? = some row):G9 P env H (.elt id ar i off) [id]<|row.drop off:=λJ F w G v az cD hv=>by
 simp only[rep] at hv;obtain⟨s,a,h1,rfl,h2,h3⟩:=hv;have hG:G id=some (.vec m ar an xs):=by rw[cD id<|by simp];exact h
 obtain⟨k1,k2,k3,k4,k5,k6⟩:=vo az h1 hG;obtain⟨b,o,q1,q2,q3,rfl⟩:=h3 k2.symm;rcases k6 with k6|⟨b',o',vals,te,e,_,_,k,_⟩
 ·omega
 rw[q2] at e;cases e;obtain⟨r1,r2⟩:=vq xs o i row hr k;have:=Hl r2 off;rw[k3];exact⟨b,_,rfl,this⟩
variable{t:bp}{x:bn}{rd:List Nat}
theorem NQ{c:D}(ht:qV P t=some false)(ho:o.op=.load t x)(hp:G9 P env H (fW env x) rd cs)(hc:cs[0]? = some c)(hK:K c H rd []):Sound P o env H K:=by
 refine iE hK λJ F w a G az bd cD=>?_;obtain⟨b,o',e,k⟩:=hp J F w G _ az cD<|bd x (by simp[ho,Op.operands]);obtain⟨u,k1,k2⟩:=rn cs o' 0 c hc k;rw[wU] at k1;refine⟨u,?_,k2.2⟩;simp[execOp,ho,e,TE ht k1,Sem.run,pure]
theorem O1(ht:qV P t=some true)(ho:o.op=.load t x)(hp:G9 P env H (fW env x) rd cs)(hn:P.cellsOf t<=cs.length)(hK:K (.agg<|cs.take<|P.cellsOf t) H rd []):Sound P o env H K:=by
 refine iE hK λJ F w a G az bd cD=>?_;obtain⟨b,o',e,k⟩:=hp J F w G _ az cD<|bd x (by simp[ho,Op.operands]);have k1:=Qo k 0<|P.cellsOf t;simp only[dP,wU] at k1;obtain⟨vs,k2,k3,_⟩:=KO _ _ k1;have hl:vs.length=P.cellsOf t:=by rw[nS _ _ k2,fg];omega
 refine⟨.agg vs.toArray,?_,by simp only[rep];exact⟨vs,rfl,k2⟩⟩;simp[execOp,ho,e,Vz ht hl k3,Sem.run,pure]
theorem zzy(ht:qV P t=some false)(ho:o.op=.load t x)(h:step P seq (.nv x) env H K):Sound P o env H K:=by
 simp only[step,iq] at h;split at h
 ·rename_i id off e;obtain⟨ob,h1,h2⟩:=(lX _ _ _).1 h;split at h2
  ·rename_i m cs _;obtain⟨c,h3,h4⟩:=(yG _ _ _).1 h2;exact NQ ht ho (e▸NT h1) (by rw[Dr];exact h3) h4
  grind
 ·rename_i cs e;obtain⟨c,h3,h4⟩:=(yG _ _ _).1 h;exact NQ ht ho (e▸TL) h3 h4
 ·rename_i id ar i off e;obtain⟨ob,h1,h2⟩:=(lX _ _ _).1 h;split at h2
  ·rename_i m bY an xs;obtain⟨rfl,row,h3,h4⟩:=h2;obtain⟨c,h5,h6⟩:=(yG _ _ _).1 h4;exact NQ ht ho (e▸Q0 h1 h3) (by rw[Dr];exact h5) h6
  grind
 exact h.elim
theorem ZM(ht:qV P t=some true)(ho:o.op=.load t x)(h:step P seq (.xI (P.cellsOf t) x) env H K):Sound P o env H K:=by
 simp only[step,iq] at h;split at h
 ·rename_i id off e;obtain⟨ob,h1,h2⟩:=(lX _ _ _).1 h;split at h2
  ·rename_i m cs _;obtain⟨_,h3⟩:=(Dj _ _ _).1 h2;obtain⟨h4,h5⟩:=(C6 _ _ _).1 h3;exact O1 ht ho (e▸NT h1) h4 h5
  grind
 ·rename_i cs e;obtain⟨h4,h5⟩:=(C6 _ _ _).1 h;exact O1 ht ho (e▸TL) h4 h5
 ·rename_i id ar i off e;obtain⟨ob,h1,h2⟩:=(lX _ _ _).1 h;split at h2
  ·rename_i m bY an xs;obtain⟨rfl,row,h3,h4⟩:=h2;obtain⟨_,h5⟩:=(Dj _ _ _).1 h4;obtain⟨h6,h7⟩:=(C6 _ _ _).1 h5;exact O1 ht ho (e▸Q0 h1 h3) h6 h7
  grind
 exact h.elim
def DI(d:D)(off:Nat)(K':D->Prop):Prop:=match d with
 | .loc id o=>K' (.loc id<|o+off)
 | .elt id ar i o=>K' (.elt id ar i<|o+off)
 | .ax cs=>uD cs off λr=>K' (.ax r)
 |_=>False
theorem Rh{d:D}{K':D->Prop}(h:DI d off K'):∃d',K' d'/\∀(J:bh) (F:Nat->Prop) (w:bl) (v:aW),rep J F w d v->∃a,v=.pointer (some a)/\rep J F w d' (.pointer<|some<|a.add off):=by
 unfold DI at h;split at h
 ·refine⟨_,h,λJ F w v hv=>?_⟩;simp only[rep] at hv⊢;obtain⟨s,b,h1,h2,h3,rfl⟩:=hv;exact⟨_,rfl,s,b,h1,h2,h3,by rw[oK]⟩
 ·refine⟨_,h,λJ F w v hv=>?_⟩;simp only[rep] at hv⊢;obtain⟨s,a,h1,rfl,h2,h3⟩:=hv;refine⟨_,rfl,s,_,h1,rfl,h2,λq=>?_⟩;obtain⟨b,o,q1,q2,q3,rfl⟩:=h3 q;exact⟨b,o,q1,q2,q3,by rw[oK,Nat.add_assoc]⟩
 ·rename_i cs;obtain⟨_,h2⟩:=(Dj _ _ _).1 h;refine⟨_,h2,λJ F w v hv=>?_⟩;simp only[rep] at hv⊢;obtain⟨b,o,rfl,hF,k⟩:=hv;exact⟨_,rfl,b,_,by rw[oK],hF,Hl k off⟩
 exact h.elim
theorem zyV{s:bp}{f:Nat}{fs:Array Field}{fd:Field}(hs:P.underlying s=some (.struct fs))(hf:fs[f]? = some fd)(hz:P.cellsOf fd.type≠0)(ho:o.op=.fieldAddr s x f)(h:step P seq (.kM fd.offset x) env H K):Sound P o env H K:=by
 simp only[step,iq] at h;have h':DI (fW env x) fd.offset λd=>K d H [] []:=by
  unfold DI;split at h<;>simp_all
 obtain⟨d',hK,hr⟩:=Rh h';refine iE hK λJ F w a G az bd cD=>?_;obtain⟨ad,e,k⟩:=hr J F w _<|bd x (by simp[ho,Op.operands]);have hi:∃i,P.info? fd.type=some i/\i.size≠0:=by
  unfold Program.cellsOf at hz
  cases e:P.info? fd.type with
  |none=>simp[e] at hz
  |some i=>exact⟨i,rfl,by simpa [e] using hz⟩
 obtain⟨i,iR,jK⟩:=hi;refine⟨_,?_,k⟩;simp[execOp,ho,e,Instr.fieldAt,Instr.sureAddr,fieldPlace,wL iR,jK,underlying,program,Sem.run,hs,hf,pure]
variable{e:bp}
theorem AB(hz:P.cellsOf e≠0):∃i,P.info? e=some i/\i.size=P.cellsOf e:=by
 unfold Program.cellsOf at hz⊢
 cases e:P.info? e with
 |none=>simp[e] at hz
 |some i=>exact⟨i,rfl,by simp[e]⟩
variable{i:bn}
theorem zzO(ht:P.underlying t=some (.slice e))(hz:P.cellsOf e≠0)(ho:o.op=.indexAddr t x i)(h:step P seq (.DJ (P.cellsOf e) x i) env H K):Sound P o env H K:=by
 simp only[step,iq] at h;obtain⟨ei,iR,jK⟩:=AB hz;have run:∀(w:bl) (a:Act) (k:IntKind) (z:Int) (ad:Addr) (n c:Nat),a.eval x=.slice (some ad) n c->a.eval i=.int k z->0<=z->z<n->(execOp a.eval o).run P w=.ok (.value (.pointer<|some<|ad.add<|z.toNat * P.cellsOf e)) w:=by
  intro w a k z ad n c h1 h2 h3 h4;simp[execOp,ho,h1,h2,Instr.indexAt,asIntOf,underlying,program,Sem.run,ht,pure,h3,h4,wL iR,jK]
 clear iR jK;generalize hE:P.cellsOf e=ez0 at h run hz;split at h
 ·rename_i k z ez;split at h
  ·rename_i oh xs ex;obtain⟨h3,h0,row,h1,h2⟩:=(rH _ _ _).1 h;refine iE h2 λJ F w a G az bd cD=>?_;have k1:=bd x (by simp[ho,Op.operands]);have k2:=bd i (by simp[ho,Op.operands]);rw[ex] at k1;rw[ez] at k2;simp only[rep] at k1 k2;obtain⟨A,n,c,q1,q2,_,q3⟩:=k1;have cG:z.toNat<xs.length:=by
    grind
   rcases q3 with q3|⟨b,o',q4,q5,q6⟩
   ·omega
   subst q4;obtain⟨r1,r2⟩:=vq xs o' z.toNat row h1 q6;refine⟨_,run w a k z _ n c q1 k2 h0<|by omega,?_⟩;simp only[rep];exact⟨b,_,by rw[oK,h3],q5,r2⟩
  ·rename_i id ar lo hi ex;obtain⟨ob,h1,h2⟩:=(lX _ _ _).1 h;split at h2
   ·rename_i m bY an xs;obtain⟨rfl,h2⟩:=h2;obtain⟨h3,h4,h5,h6⟩:=(rH _ _ _).1 h2;refine iE h6 λJ F w a G az bd cD=>?_;have k1:=bd x (by simp[ho,Op.operands]);have k2:=bd i (by simp[ho,Op.operands]);rw[ex] at k1;rw[ez] at k2;simp only[rep] at k1 k2;obtain⟨s,A,n,c,q1,q2,q3,q4⟩:=k1;have hG:G id=some (.vec m ar an xs):=(by rw[cD id<|by simp];exact h1);obtain⟨p1,p2,p3,p4,p5,-⟩:=vo az q1 hG;obtain⟨t1,t2,t3,t4,t5,t6⟩:=q4 p2.symm;rcases t6 with t6|⟨b,o',t6,t7⟩
    ·omega
    subst t7;refine⟨_,run w a k z _ n c q2 k2 h4<|by omega,?_⟩;simp only[rep];refine⟨s,_,q1,rfl,q3,λ_=>⟨b,o',t1,t6,by omega,?_⟩⟩;rw[oK,p3,<-h3,oa]
    grind
   grind
  exact h.elim
 exact h.elim
variable{n:Nat}
theorem zyr(ht:P.underlying t=some (.array n e))(hz:P.cellsOf e≠0)(ho:o.op=.indexAddr t x i)(h:step P seq (.Lr n (P.cellsOf e) x i) env H K):Sound P o env H K:=by
 simp only[step,iq] at h;obtain⟨ei,iR,jK⟩:=AB hz;split at h
 ·rename_i k z ez;obtain⟨h0,h1,h⟩:=h;have h':DI (fW env x) (z.toNat * P.cellsOf e) λd=>K d H [] []:=by
   unfold DI;split at h<;>simp_all
  obtain⟨d',hK,hr⟩:=Rh h';refine iE hK λJ F w a G az bd cD=>?_;obtain⟨ad,e1,k1⟩:=hr J F w _<|bd x (by simp[ho,Op.operands]);have k2:=bd i (by simp[ho,Op.operands]);rw[ez] at k2;simp only[rep] at k2;refine⟨_,?_,k1⟩;simp[execOp,ho,e1,k2,Instr.indexAt,Instr.sureAddr,asIntOf,underlying,program,Sem.run,ht,pure,h0,h1,wL iR,jK]
 exact h.elim
theorem zCB{args:Array bn}{ts:Array bp}(ha:args.toList=[x])(kF:ts.toList=[t])(ht:P.underlying t=some (.slice e))(ho:o.op=.call { callee:=.builtin .len,args,argTypes:=ts })(h:step P seq (.len x) env H K):Sound P o env H K:=by
 have ea:args=#[x]:=Array.ext' (by simpa using ha);have et:ts=#[t]:=Array.ext' (by simpa using kF);subst ea et;have run:∀(w:bl) (a:Act) (A:Option Addr) (n c:Nat),a.eval x=.slice A n c->(execOp a.eval o).run P w=.ok (.value (.int .i64 n)) w:=by
  intro w a A n c h1;simp[execOp,ho,resolve,invoke,builtin,Builtin.len_,h1,Sem.run,pure,underlying,program,ht,goInt]
 simp only[step,iq] at h;split at h
 ·rename_i an xs e1;refine iE h λJ F w a G az bd cD=>?_;have k1:=bd x (by simp[ho,Op.operands,Call.operands]);rw[e1] at k1;simp only[rep] at k1;obtain⟨A,n,c,q1,rfl,_⟩:=k1;exact⟨_,run w a A _ c q1,rfl⟩
 ·rename_i id ar lo hi e1;obtain⟨ob,h1,h2⟩:=(lX _ _ _).1 h;split at h2
  ·rename_i m bY an xs;obtain⟨rfl,h2⟩:=h2;refine iE h2 λJ F w a G az bd cD=>?_;have k1:=bd x (by simp[ho,Op.operands,Call.operands]);rw[e1] at k1;simp only[rep] at k1;obtain⟨s,A,n,c,q1,q2,q3,q4⟩:=k1;have hG:G id=some (.vec m ar an xs):=(by rw[cD id<|by simp];exact h1);obtain⟨p1,p2,_⟩:=vo az q1 hG;obtain⟨_,_,_,rfl,_⟩:=q4 p2.symm;exact⟨_,run w a A _ c q2,rfl⟩
  grind
 ·rename_i e1;refine iE h λJ F w a G az bd cD=>?_;have k1:=bd x (by simp[ho,Op.operands,Call.operands]);rw[e1] at k1;simp only[rep] at k1;exact⟨_,run w a _ 0 0 k1,rfl⟩
 exact h.elim
theorem Kf{x:Option bn}{dflt:Nat}{K':Nat->Prop}(h:Dv env x dflt K'):∃n,K' n /\
  ∀(J:bh) (F:Nat->Prop) (w:bl) (a:Act),(∀y∈x.toList,rep J F w (fW env y)<|a.eval y)->(x=none/\n=dflt)\/∃y k,x=some y/\a.eval y=.int k n:=by
 unfold Dv at h
 cases x with
 |none=>exact⟨dflt,h,λJ F w a _=>.inl ⟨rfl,rfl⟩⟩
 |some y =>
  simp only[iq] at h;split at h
  ·rename_i k i e;refine⟨i.toNat,h.2,λJ F w a hy=>.inr ⟨y,k,rfl,?_⟩⟩;have:=hy y (by simp);rw[e] at this;simp only[rep] at this
   grind
  exact h.elim
theorem Xg{i:TypeInfo}(ht:P.underlying t=some (.slice e))(hi:P.info? e=some i)(A:Option Addr)(len cap l h:Nat)(lo aT:Option aW)(w:bl)
  (h1:(lo=none/\l=0)\/∃k,lo=some (.int k l)) (h2:(aT=none/\h=len)\/∃k,aT=some (.int k h)) (NF:l<=h) (hc:h<=cap) :
  (Instr.sliceAt t (.slice A len cap) lo aT none).run P w=.ok (.slice (if cap=l then A else A.map (·.add (l*i.size))) (h-l)<|cap-l) w:=by
 have hb:(Instr.sliceBounds true len cap lo aT none).run P w=.ok (l,h,cap) w:=by
  rcases h1 with⟨rfl,rfl⟩|⟨k,rfl⟩<;>rcases h2 with⟨rfl,rfl⟩|⟨k',rfl⟩ <;>
   simp[Instr.sliceBounds,Instr.sliceBound,asIntOf,pure,Sem.run,NF,hc]
 simp[Instr.sliceAt,Instr.slice,underlying,program,Sem.run,ht,pure,hb,wL hi]
theorem Da{b o:Nat}(h:fm J F w b an xs o)(l n:Nat):fm J F w b an ((xs.take n).drop l)<|o+l*an:=by
 refine wN _ _ λj x hx=>?_;have h1:xs[l+j]? = some x:=by
  grind
 have:=vq xs o (l+j) x h1 h
 grind
theorem zC5{lo hi:Option bn}(ht:P.underlying t=some (.slice e))(hz:0<P.cellsOf e)(ho:o.op=.slice t x lo hi none)(h:step P seq (.slc (P.cellsOf e) x lo hi) env H K):Sound P o env H K:=by
 simp only[step,iq] at h;obtain⟨ei,iR,jK⟩:=AB (e:=e) (P:=P) (by omega);split at h
 ·rename_i oh xs e1;obtain⟨h3,h⟩:=(rH _ _ _).1 h;obtain⟨n,h,hn⟩:=Kf h;obtain⟨l,⟨h4,h5,h6⟩,hl⟩:=Kf h;refine iE h6 λJ F w a G az bd cD=>?_;have k1:=bd x (by simp[ho,Op.operands]);rw[e1] at k1;simp only[rep] at k1;obtain⟨A,len,c,q1,q2,qc,q3⟩:=k1;have du:=hn J F w a λy hy=>bd y (by simp[ho,Op.operands];exact .inr (.inr<|by simpa using hy));have dO:=hl J F w a λy hy=>bd y (by simp[ho,Op.operands];exact .inr (.inl<|by simpa using hy));refine⟨.slice (if c=l then A else A.map (·.add (l*ei.size))) (n-l)<|c-l,?_,?_⟩
  ·have:=Xg (P:=P) ht iR A len c l n (lo.map a.eval) (hi.map a.eval) w
    (by rcases dO with⟨rfl,rfl⟩|⟨y,k,rfl,q⟩
        ·exact .inl ⟨rfl,rfl⟩
        exact .inr ⟨k,by simp[q]⟩)
    (by rcases du with⟨rfl,rfl⟩|⟨y,k,rfl,q⟩
        ·exact .inl ⟨rfl,q2.symm⟩
        exact .inr ⟨k,by simp[q]⟩) h4 (by omega)
   simp[execOp,ho,q1,this,Sem.run,pure]
  simp only[rep];refine⟨_,_,_,rfl,by simp[lD,fg];omega,by omega,?_⟩;rcases q3 with q3|⟨b,o',rfl,q5,q6⟩
  ·grind
  by_cases fN:c=l
  ·grind
  rw[ab fN];exact .inr ⟨b,_,by simp only[C4,oK,jK,h3],q5,Da q6 l n⟩
 ·rename_i id ar p q e1;obtain⟨ob,h1,h2⟩:=(lX _ _ _).1 h;split at h2
  ·rename_i m bY an xs;obtain⟨rfl,h2⟩:=h2;obtain⟨h3,h⟩:=(rH _ _ _).1 h2;obtain⟨n,h,hn⟩:=Kf h;obtain⟨l,⟨h4,h5,h6⟩,hl⟩:=Kf h;refine iE h6 λJ F w a G az bd cD=>?_;have k1:=bd x (by simp[ho,Op.operands]);rw[e1] at k1;simp only[rep] at k1;obtain⟨s,A,len,c,q1,q2,q3,q4⟩:=k1;have hG:G id=some (.vec m ar an xs):=(by rw[cD id<|by simp];exact h1);obtain⟨p1,p2,p3,p4,p5,-⟩:=vo az q1 hG;obtain⟨t1,t2,t3,t4,t5,t6⟩:=q4 p2.symm;have T6:=Lib.hid t6;clear t6;have du:=hn J F w a λy hy=>bd y (by simp[ho,Op.operands];exact .inr (.inr<|by simpa using hy));have dO:=hl J F w a λy hy=>bd y (by simp[ho,Op.operands];exact .inr (.inl<|by simpa using hy));refine⟨.slice (if c=l then A else A.map (·.add (l*ei.size))) (n-l)<|c-l,?_,?_⟩
   ·have:=Xg (P:=P) ht iR A len c l n (lo.map a.eval) (hi.map a.eval) w
     (by rcases dO with⟨rfl,rfl⟩|⟨y,k,rfl,q⟩
         ·exact .inl ⟨rfl,rfl⟩
         exact .inr ⟨k,by simp[q]⟩)
     (by rcases du with⟨rfl,rfl⟩|⟨y,k,rfl,q⟩
         ·exact .inl ⟨rfl,by omega⟩
         exact .inr ⟨k,by simp[q]⟩) h4 (by omega)
    simp[execOp,ho,q2,this,Sem.run,pure]
   simp only[rep];refine⟨s,_,_,_,q1,rfl,q3,λ_=>⟨t1,by omega,by omega,by omega,by omega,?_⟩⟩;by_cases fN:c=l
   ·grind
   rcases T6.out with t6|⟨b,o',t6,rfl⟩
   ·grind
   rw[ab fN];refine .inr ⟨b,o',t6,?_⟩;simp only[C4,oK,jK,h3,p3,oa,Nat.add_assoc]
  grind
 exact h.elim
variable{ds:List D}{vs:List aW}
theorem SP(h:bA J F w ds vs)(n:Nat):bA J F w (ds.take n)<|vs.take n:=by
 have hl:=nS _ _ h;refine Fg _ _ (by simp[hl]) λj d v hd hv=>?_;rw[List.getElem?_take] at hd hv;split at hd
 ·rename_i hj;rw[ae hj] at hv;obtain⟨v',h1,h2⟩:=uu _ _ _ _ hd h
  grind
 cases hd
theorem VH(h:bA J F w ds vs)(n:Nat):bA J F w (ds.drop n)<|vs.drop n:=by
 have hl:=nS _ _ h;refine Fg _ _ (by simp[hl]) λj d v hd hv=>?_;rw[Dr] at hd hv;obtain⟨v',h1,h2⟩:=uu _ _ _ _ hd h
 grind
theorem zB8{ag:Bool}(ht:P.underlying t=some (.array n e))(yM:qV P e=some ag)(ho:o.op=.index t x i)(h:step P seq (.Oe n (P.cellsOf e) ag x i) env H K):Sound P o env H K:=by
 simp only[step,iq] at h;obtain⟨ie,iR,jK⟩:=Vy yM;split at h
 ·rename_i k z e2;split at h
  ·rename_i cs e1;obtain⟨h0,hz,h⟩:=h
   cases ag with
   |true =>
    simp only at h;obtain⟨h1,h2⟩:=(Dj _ _ _).1 h;obtain⟨h3,h4⟩:=(C6 _ _ _).1 h2;refine iE h4 λJ F w a G az bd cD=>?_;have k1:=bd x (by simp[ho,Op.operands]);have k2:=bd i (by simp[ho,Op.operands]);rw[e1] at k1;rw[e2] at k2;simp only[rep] at k1 k2;obtain⟨vs,q1,q2⟩:=k1;refine⟨.agg ((vs.drop<|z.toNat * P.cellsOf e).take<|P.cellsOf e).toArray,?_,by simp only[rep];exact⟨_,rfl,SP (VH q2 _) _⟩⟩;have e3:vs.toArray.extract (z.toNat * P.cellsOf e) (z.toNat * P.cellsOf e+P.cellsOf e)=((vs.drop<|z.toNat * P.cellsOf e).take<|P.cellsOf e).toArray:=by
     grind
    simp[execOp,ho,q1,k2,Instr.index,asIntOf,part,KQ yM,wL iR,jK,underlying,program,Sem.run,ht,pure,e3,h0,hz]
   |false =>
    simp only at h;obtain⟨c,h1,h2⟩:=h;refine iE h2 λJ F w a G az bd cD=>?_;have k1:=bd x (by simp[ho,Op.operands]);have k2:=bd i (by simp[ho,Op.operands]);rw[e1] at k1;rw[e2] at k2;simp only[rep] at k1 k2;obtain⟨vs,q1,q2⟩:=k1;obtain⟨v,q3,q4⟩:=uu _ _ _ _ h1 q2;refine⟨v,?_,q4⟩;simp[execOp,ho,q1,k2,Instr.index,asIntOf,part,KQ yM,wL iR,jK,underlying,program,Sem.run,ht,pure,q3,h0,hz]
  exact h.elim
 exact h.elim
end
end
section
variable{s:Site}
theorem sk(hJ:J.le J')(hF:∀b,F b->F' b)(hw:∀b,F b->w'.heap[b]? = w.heap[b]?){o:al}(hb:∀b,s.cE=some b->w'.heap[b]? = w.heap[b]?)(h:pc J F w s o):pc J' F' w' s o:=by
 cases o with
 |row m cs =>
  obtain⟨h1,h2,h3,h4,h5,b,vals,te,h6,h7,h8,h9,fh⟩:=h;have CP:w'.heap[b]? = w.heap[b]?:=hb b (by simp[Site.cE,h1,h6]);exact⟨h1,h2,h3,h4,h5,b,vals,te,h6,by rw[CP];exact h7,h8,FM hJ hF hw b (cell_of_heap CP) cs 0 h9,λq=>hF b<|fh q⟩
 |vec m ar an xs =>
  obtain⟨h1,h2,h3,h4,h5,h6⟩:=h;refine⟨h1,h2,h3,h4,h5,?_⟩;by_cases hz:s.cap=0
  ·grind
  obtain⟨b,o,vals,te,k1,k2,k3,k4,k5⟩:=h6.resolve_left hz;refine .inr ?_;have CP:w'.heap[b]? = w.heap[b]?:=hb b (by simp[Site.cE,hz,k1]);exact⟨b,o,vals,te,k1,by rw[CP];exact k2,k3,Jq hJ hF hw b an (cell_of_heap CP) xs o k4,λq=>hF b<|k5 q⟩
 |dV m I =>
  obtain⟨h1,b,es,clock,h2,h3,h4⟩:=h;have CP:w'.heap[b]? = w.heap[b]?:=hb b (by simp[Site.cE,h1,h2]);exact⟨h1,b,es,clock,h2,by rw[CP];exact h3,h4⟩
variable{G:Nat->Option al}
theorem cC.update{J':bh}{w':bl}{G':Nat->Option al}(h:cC J F w G)(id:Nat)(s':Site)(o':al)
  (Mb:∀i,J' i=if i=id then some s' else J i) (hG:∀i,G' i=if i=id then some o' else G i) (hle:J.le J')
  (hF:∀b,F b->w'.heap[b]? = w.heap[b]?) (eJ:w.heap.size<=w'.heap.size)
  (hold:∀i s b,i≠id->J i=some s->s.cE=some b->w'.heap[b]? = w.heap[b]?)
  (kv:∀b,s'.cE=some b->w.heap.size<=b\/∃s,J id=some s/\s.cE=some b)
  (cG:∀i s b,J i=some s->s.cE=some b->b<w.heap.size)
  (zj:∀b,s'.cE=some b->o'.mut->¬F b)
  (az:pc J' F w' s' o'):cC J' F w' G' where
 obj i s hi:=by
  rw[Mb] at hi;by_cases e:i=id
  ·subst e;rw[ae rfl] at hi;cases hi;exact⟨o',by rw[hG,ae rfl],az⟩
  rw[ab e] at hi;obtain⟨o,h1,h2⟩:=h.obj i s hi;exact⟨o,by rw[hG,ab e];exact h1,sk hle (λ_ h=>h) hF (λb hb=>hold i s b e hi hb) h2⟩
 one i i' s1 s2 b h1 h2 h3 h4:=by
  rw[Mb] at h1 h2;by_cases e:i=id<;>by_cases e':i'=id
  ·rw[e,e']
  ·rw[ae e] at h1;rw[ab e'] at h2;cases h1;rcases kv b h3 with q|⟨s,q1,q2⟩
   ·have:=cG i' s2 b h2 h4;omega
   rw[e];exact h.one id i' s s2 b q1 h2 q2 h4
  ·rw[ab e] at h1;rw[ae e'] at h2;cases h2;rcases kv b h4 with q|⟨s,q1,q2⟩
   ·have:=cG i s1 b h1 h3;omega
   rw[e'];exact h.one i id s1 s b h1 q1 h3 q2
  rw[ab e] at h1;rw[ab e'] at h2;exact h.one i i' s1 s2 b h1 h2 h3 h4
 apart i s b o hi hb hg hm:=by
  rw[Mb] at hi;rw[hG] at hg;by_cases e:i=id
  ·rw[ae e] at hi hg;cases hi;cases hg;exact zj b hb hm
  rw[ab e] at hi hg;exact h.apart i s b o hi hb hg hm
 lt:=h.lt.mono (λ_ q=>q) hF λb hb=>yV (h.lt b hb) eJ
variable{b:Nat}
theorem cC.jk(h:cC J F w G){i:Nat}(hi:J i=some s)(hb:s.cE=some b):b<w.heap.size:=by
 obtain⟨o,h1,h2⟩:=h.obj i s hi;have key:∀x:Nat,∀ob,w.heap[x]? = some ob->x<w.heap.size:=λx ob hx=>by
  grind
 cases o with
 |row m cs =>
  obtain⟨k1,_,_,_,_,b',vals,te,k6,k7,_⟩:=h2;simp[Site.cE,k1,k6] at hb
  grind
 |vec m ar an xs =>
  obtain⟨k1,_,_,_,_,k6⟩:=h2;rcases k6 with k6|⟨b',o,vals,te,q1,q2,_⟩
  ·simp[Site.cE,k1,k6] at hb
  unfold Site.cE at hb;repeat grind
 |dV m I =>
  obtain⟨k1,b',es,clock,q1,q2,_⟩:=h2;simp[Site.cE,k1,q1] at hb
  grind
theorem yd(w:bl)(o:Obj)(h:b<w.heap.size):(w.alloc o).heap[b]? = w.heap[b]?:=heap_alloc_old w o h
theorem cC.TO(h:cC J F w G)(id:Nat)(hid:J id=none)(s':Site)(o':al)(ob:Obj)(DT:s'.ad=some ⟨w.heap.size,0,none⟩)
  (az:pc (λi=>if i=id then some s' else J i) F (w.alloc ob) s' o') :
  cC (λi=>if i=id then some s' else J i) F (w.alloc ob) (λi=>if i=id then some o' else G i) /\
   Ext J F w (λi=>if i=id then some s' else J i) F (w.alloc ob):=by
 have hle:J.le λi=>if i=id then some s' else J i:=λi s hi=>by
  grind
 have x7:∀b,s'.cE=some b->b=w.heap.size:=λb hb=>by
  unfold Site.cE at hb;repeat grind
 refine⟨h.update id s' o' (λ_=>rfl) (λ_=>rfl) hle (λb hb=>yd w _<|h.lt b hb) (by simp) (λi s b _ hi hb=>yd w _<|h.jk hi hb) (λb hb=>.inl<|by rw[x7 b hb];exact aS _) (λi s b hi hb=>h.jk hi hb) (λb hb _ hF=>?_) az,?_⟩
 ·have:=h.lt b hF
  grind
 exact⟨rfl,rfl,rfl,by simp,λb hb _=>yd w _ hb,λb hb=>yd w _<|h.lt b hb,hle,λ_ h=>h,λb ⟨i,s,hi,hb⟩=>by
  dsimp only at hi;by_cases e:i=id
  ·grind
  rw[ab e] at hi;exact .inl ⟨i,s,hi,hb⟩,λb hb=>.inl hb⟩
theorem cC.alloc{J:bh}{F:Nat->Prop}{w:bl}{G:Nat->Option al}(h:cC J F w G)(id:Nat)(hid:J id=none)(s':Site)(o':al)(vals:Array aW)(te:bp)(DT:s'.ad=some ⟨w.heap.size,0,none⟩)
  (az:pc (λi=>if i=id then some s' else J i) F (w.alloc (.cells vals te)) s' o') :
  cC (λi=>if i=id then some s' else J i) F (w.alloc (.cells vals te)) (λi=>if i=id then some o' else G i) /\
   Ext J F w (λi=>if i=id then some s' else J i) F (w.alloc (.cells vals te)):=h.TO id hid s' o' _ DT az
section
variable{J:bh}{F:Nat->Prop}{w:bl}
theorem zme{cs:List D}{vs:List aW}(te:bp)(hJ:J.le J')(cG:∀b,F b->b<w.heap.size)(h1:∀v∈vs,gC v)(h:bA J F w cs vs) :
  dY J' F (w.alloc (.cells vs.toArray te)) w.heap.size cs 0:=by
 have h':bA J' F (w.alloc (.cells vs.toArray te)) cs vs:=B8 hJ (λ_ h=>h) (λb hb=>yd w _<|cG b hb) _ _ h;refine rU _ _ λj c hc=>?_;obtain⟨v,h3,h2⟩:=uu _ _ _ _ hc h';exact⟨v,by simp[h3],h1 v<|o7 h3,h2⟩
end
theorem Vk(h:cC J F w G)(id:Nat)(hid:J id=none){cs:List D}{vs:List aW}(te:bp)(t:Option bp:=none)(ht:t.getD te=te:=by rfl)(h0:∀v∈vs,gC v)(hr:bA J F w cs vs) :
  ∃J',cC J' F (w.alloc (.cells vs.toArray te)) (λi=>if i=id then some (.row true cs t) else G i)/\Ext J F w J' F (w.alloc (.cells vs.toArray te)) /\
   (∀i,i≠id->J' i=J i)/\rep J' F (w.alloc (.cells vs.toArray te)) (.loc id 0) (.pointer<|some ⟨w.heap.size,0,none⟩):=by
 have hle:J.le λi=>if i=id then some ⟨true,0,some ⟨w.heap.size,0,none⟩,1,cs.length,cs.length⟩ else J i:=λi s hi=>by
  have e:i≠id:=λe=>by rw[e,hid] at hi;cases hi
  exact⟨s,by simp[e,hi],aS _,λ_=>rfl⟩
 obtain⟨h1,h2⟩:=h.alloc id hid ⟨true,0,some ⟨w.heap.size,0,none⟩,1,cs.length,cs.length⟩ (.row true cs t) vs.toArray te rfl
  ⟨rfl,rfl,rfl,rfl,rfl,w.heap.size,vs.toArray,te,rfl,by rw[ht];exact heap_alloc_new w _,by simp[nS _ _ hr],zme te hle h.lt h0 hr,λq=>by cases q⟩
 refine⟨_,h1,h2,λi hi=>by simp[hi],?_⟩;simp only[rep];exact⟨_,w.heap.size,by simp;rfl,rfl,rfl,rfl⟩
section
variable{P:bG}{seq:Bool}{o:Oper}{env:Env}{H:List al}{K:qA}
theorem HQ(G:Nat->Option al)(H2:List al)(id:Nat)(ob:al)(h:H2[id]? = some ob):upd G [id] H2=λi=>if i=id then some ob else G i:=by
 funext i;simp only[upd,cV];repeat grind
variable{d:D}
theorem Es{ob:al}{rd:List Nat}(hK:K d (H++[ob]) rd [H.length])
  (h:∀(J:bh) (F:Nat->Prop) (w:bl) (a:Act) (G:Nat->Option al),cC J F w G->(∀x∈o.op.operands,rep J F w (fW env x)<|a.eval x)->(∀id∈rd,G id=H[id]?)->J H.length=none ->
   ∃v w' J' F',(execOp a.eval o).run P w=.ok (.value v) w'/\rep J' F' w' d v/\cC J' F' w' (λi=>if i=H.length then some ob else G i)/\Ext J F w J' F' w'/\(∀i,i≠H.length->J' i=J i)):Sound P o env H K:=by
 refine⟨d,H++[ob],rd,[H.length],⟨λid hid=>?_,by simp,λid hid=>by simp at hid;simp[hid],λJ F w a G az bd cD pV K Q hK=>?_⟩,hK⟩
 ·grind
 obtain⟨v,w',J',F',h1,h2,h3,h4,h5⟩:=h J F w a G az bd (λid hid=>cD id (.inl hid))<|pV _ (aS _) (by simp);unfold Oper.wp;rw[h1,Oper.upon_value];refine hK v w' J' F' h2 ?_ h4 λid hid hn=>?_
 ·rw[HQ G _ H.length ob<|by simp];exact h3
 repeat grind
variable{t:bp}{z:aW}
theorem Jf(h:(P.info? t).bind (·.zero)=some z):(zeroValue t).run P w=.ok z w:=by
 cases e:P.info? t with
 |none=>grind
 |some i =>
  rw[e] at h;simp at h;simp[zeroValue,typeInfo,program,Sem.run,e,h,pure]
theorem Fz{J:bh}{F:Nat->Prop}{w:bl}:∀vs:List aW,bA J F w (vs.map .sc) vs
 |[]=>by simp only[jc,bA]
 |v::r=>by simp only[fR,bA];exact⟨v,r,rfl,by simp only[rep],Fz r⟩
theorem zy2(hz:(P.info? t).bind (·.zero)=some z)(vK:z.cells.toList.all gC)(ho:o.op=.alloc t)(h:step P seq (.alloc z.cells.toList) env H K):Sound P o env H K:=by
 simp only[step,JX,yg] at h;refine Es h λJ F w a G az bd cD hn=>?_;obtain⟨J',h1,h2,h3,h4⟩:=Vk az H.length hn t (h0:=λv hv=>kb.1 vK v hv) (hr:=Fz z.cells.toList);refine⟨_,_,J',F,?_,h4,h1,h2,h3⟩;simp[execOp,ho,Instr.alloc,Jf hz,newVar,newRow,newObj,Sem.run,pure]
theorem Ec{v:aW}(hs:storable d)(h:rep J F w d v):bA J F w d.cells v.cells.toList/\∀u∈v.cells.toList,gC u:=by
 have one:ya d->(∀cs,d≠.agg cs)->bA J F w d.cells v.cells.toList/\∀u∈v.cells.toList,gC u:=by
  intro h1 h2;have h3:=Vx h1 h;have e1:v.cells=#[v]:=by cases v<;>first|rfl|simp[gC] at h3
  have e2:d.cells=[d]:=by cases d<;>first|rfl|exact absurd rfl (h2 _)
  rw[e1,e2];refine⟨by simp only[bA];exact⟨v,[],rfl,h,rfl⟩,λu hu=>?_⟩
  grind
 cases d with
 |agg cs =>
  simp only[rep] at h;obtain⟨vs,rfl,k⟩:=h;refine⟨by simpa [D.cells,Value.cells] using k,λu hu=>?_⟩;simp[Value.cells] at hu;obtain⟨j,hj,e⟩:=iD.1 hu;have de:j<cs.length:=(by rw[<-nS _ _ k];exact hj);obtain⟨u',q1,q2⟩:=uu _ _ _ _ (aX de) k;rw[aX hj,e] at q1;cases q1;exact Vx (Sm cs hs _<|iZ de) q2
 |_=>exact one hs<|by intro cs h;cases h
theorem zCZ{x:bn}{q:Option bp}(hq:q.getD t=t)(ho:o.op=.box t x)(h:step P seq (.box x q) env H K):Sound P o env H K:=by
 simp only[step,iq,KK,yg] at h;obtain⟨h0,h⟩:=h;refine Es h λJ F w a G az bd cD hn=>?_;obtain⟨k1,k0⟩:=Ec h0<|bd x (by simp[ho,Op.operands]);obtain⟨J',h1,h2,h3,h4⟩:=Vk az H.length hn t q hq k0 k1;refine⟨_,_,J',F,?_,h4,h1,h2,h3⟩;simp[execOp,ho,Instr.box,newVar,newRow,newObj,Sem.run,pure]
end
end
section
theorem Tn(off:Nat):∀(l:List aW) (n:Nat) (cells:Array aW),off+n+l.length<=cells.size ->
  ((l.zipIdx n).foldl (λ(cs:Array aW) (p:aW×Nat)=>cs.setIfInBounds (off+p.2) p.1) cells).size=cells.size /\
  ∀i,((l.zipIdx n).foldl (λ(cs:Array aW) (p:aW×Nat)=>cs.setIfInBounds (off+p.2) p.1) cells)[i]? = if off+n<=i/\i<off+n+l.length then l[i-(off+n)]? else cells[i]?
 |[],n,cells,_=>⟨rfl,λi=>by simp;intro h1 h2;omega⟩
 |c::r,n,cells,h=>by
  simp only[List.zipIdx_cons,List.foldl_cons];simp only[dC] at h;obtain⟨k1,k2⟩:=Tn off r (n+1) (cells.setIfInBounds (off+n) c) (by simp;omega);refine⟨by rw[k1];simp,λi=>?_⟩;rw[k2];by_cases h1:i=off+n
  ·subst h1;rw[ab<|by omega,ae<|by simp];simp[Array.getElem?_setIfInBounds,show off+n<cells.size by omega]
  by_cases h2:off+(n+1)<=i/\i<off+(n+1)+r.length
  ·rw[ae h2,ae<|by simp;omega,show i-(off+n)=i-(off+(n+1))+1 by omega,B0]
  rw[ab h2,ab<|by simp;omega,Array.getElem?_setIfInBounds_ne<|by omega]
theorem Ua(place:Nat->Option (Nat×Nat))(cells:Array aW)(i:Nat)(v:aW)(rest:List<|Nat×aW)(off:Nat)(hp:place i=some (off,v.cells.size))(hb:off+v.cells.size<=cells.size) :
  ∃uS,Instr.fill place cells ((i,v)::rest)=Instr.fill place uS rest/\uS.size=cells.size/\∀j,uS[j]? = if off<=j/\j<off+v.cells.size then v.cells[j-off]? else cells[j]?:=by
 obtain⟨h1,h2⟩:=Tn off v.cells.toList 0 cells (by simpa using hb);refine⟨(v.cells.toList.zipIdx 0).foldl (λ(cs:Array aW) (p:aW×Nat)=>cs.setIfInBounds (off+p.2) p.1) cells,?_,h1,λj=>by simpa using h2 j⟩;simp only[Instr.fill,hp];rw[ab<|by simp;omega]
 congr 1
 rw[<-Array.foldl_toList,Array.toList_zipIdx]
theorem HT:∀(l:List<|Nat×bn) (k:Nat) (xs:List bn),zT k l=some xs->l=(xs.zipIdx k).map λp=>(p.2,p.1)
 |[],k,xs,h=>by simp[zT] at h;subst h;rfl
 |(i,x)::r,k,xs,h=>by
  simp only[zT] at h;split at h
  ·rename_i e
   cases e2:zT (k+1) r with
   |none=>rw[e2] at h;cases h
   |some ys =>
    rw[e2] at h;simp at h;subst h;subst e;rw[HT r (i+1) ys e2];simp
  cases h
theorem U5(an:Nat):∀(vs:List aW) (k:Nat) (cells:Array aW),(∀v∈vs,v.cells.size=an)->(k+vs.length)*an<=cells.size ->
  ∃uS,Instr.fill (λi=>some (i*an,an)) cells ((vs.zipIdx k).map λp=>(p.2,p.1))=some uS/\uS.size=cells.size/\(∀j,j<k*an->uS[j]? = cells[j]?) /\
   ∀i v j c,vs[i]? = some v->v.cells[j]? = some c->uS[(k+i)*an+j]? = some c
 |[],k,cells,_,_=>⟨cells,rfl,rfl,λ_ _=>rfl,λi v j c h=>by simp at h⟩
 |v::r,k,cells,hv,hb=>by
  simp only[List.zipIdx_cons,fR];have hs:v.cells.size=an:=hv v (by simp);simp only[dC] at hb;have hm:(k+(r.length+1))*an=k*an+an+r.length*an:=(by rw[oa,oa];omega);obtain⟨c1,e1,e2,e3⟩:=Ua (λi=>some (i*an,an)) cells k v ((r.zipIdx<|k+1).map λp=>(p.2,p.1)) (k*an) (by rw[hs]) (by omega);obtain⟨c2,f1,f2,f3,f4⟩:=U5 an r (k+1) c1 (λu hu=>hv u<|by simp[hu]) (by rw[e2];rw[show k+1+r.length=k+(r.length+1) by omega];exact hb);refine⟨c2,by rw[e1];exact f1,by rw[f2,e2],λj hj=>?_,λi u j c hi hc=>?_⟩
  ·rw[f3 j<|by rw[oa];omega,e3,ab<|by omega]
  cases i with
  |zero =>
   simp at hi;subst hi;have hj:j<v.cells.size:=by
    rcases gK j v.cells.size with h|h
    ·exact h
    rw[Array.getElem?_eq_none h] at hc;cases hc
   rw[wU,f3 _<|by rw[oa];omega,e3,ae<|by omega,show k*an+j-k*an=j by omega];exact hc
  |succ i =>
   have:=f4 i u j c (by simpa using hi) hc;rwa [show k+1+i=k+(i+1) by omega] at this
theorem Nn{G:Nat->Option al}(h:cC J F w G)(id:Nat)(hid:J id=none){an cap:Nat}{xs:List<|List D}{vals:Array aW}(te:bp)
  (hlen:xs.length<=cap) (eJ:cap*an<=vals.size) (hx:∀(j:Nat) (x:List D),xs[j]? = some x->x.length=an/\∀(k:Nat) (c:D),x[k]? = some c->∃u,vals[j*an+k]? = some u/\gC u/\rep J F w c u) :
  ∃J',cC J' F (w.alloc (.cells vals te)) (λi=>if i=id then some (.vec true 0 an xs) else G i)/\Ext J F w J' F (w.alloc (.cells vals te)) /\
   (∀i,i≠id->J' i=J i)/\rep J' F (w.alloc (.cells vals te)) (.own id 0 0 xs.length) (.slice (some ⟨w.heap.size,0,none⟩) xs.length cap):=by
 have hle:J.le λi=>if i=id then some ⟨false,0,some ⟨w.heap.size,0,none⟩,an,cap,xs.length⟩ else J i:=λi s hi=>by
  grind
 have GJ:fm (λi=>if i=id then some ⟨false,0,some ⟨w.heap.size,0,none⟩,an,cap,xs.length⟩ else J i) F (w.alloc (.cells vals te)) w.heap.size an xs 0:=by
  refine wN _ _ λj x hj=>?_;obtain⟨k1,k2⟩:=hx j x hj;refine⟨k1,rU _ _ λk c hc=>?_⟩;obtain⟨u,q1,q0,q2⟩:=k2 k c hc;exact⟨u,by simp[q1],q0,kO hle (λ_ h=>h) (λb hb=>yd w _<|h.lt b hb) _ _ q2⟩
 obtain⟨h1,h2⟩:=h.alloc id hid ⟨false,0,some ⟨w.heap.size,0,none⟩,an,cap,xs.length⟩ (.vec true 0 an xs) vals te rfl
  ⟨rfl,rfl,rfl,rfl,hlen,.inr ⟨w.heap.size,0,vals,te,rfl,heap_alloc_new w _,by simpa using eJ,GJ,λq=>by cases q⟩⟩
 refine⟨_,h1,h2,λi hi=>by simp[hi],?_⟩;simp only[rep]
 grind
section
variable{P:bG}{seq:Bool}{o:Oper}{env:Env}{H:List al}{K:qA}
theorem YK(an:Nat):∀(xs:List bn) (K':List (List D)->Prop),Ji env an xs K'->(∀x∈xs,storable (fW env x)/\an=(fW env x).cells.length)/\K' (xs.map λx=>(fW env x).cells)
 |[],K',h=>⟨(λ_ h=>by cases h),h⟩
 |x::r,K',h=>by
  simp only[Ji,iq,KK,rH] at h;obtain⟨h1,h2,h3⟩:=h;obtain⟨h4,h5⟩:=YK an r _ h3;refine⟨λy hy=>?_,h5⟩;rcases eQ.1 hy with rfl|hy
  ·exact⟨h1,h2⟩
  exact h4 y hy
variable{z:aW}
theorem zwl{t e:bp}{n:Nat}{parts:Array<|Nat×bn}{xs:List bn}(ht:P.underlying t=some (.slice e))(hz:(P.info? e).bind (·.zero)=some z)(h24:n*P.cellsOf e<=16777216)(lO:0<P.cellsOf e)
  (Cy:zT 0 parts.toList=some xs) (ho:o.op=.buildSlice t n parts) (h:step P seq (.GH (P.cellsOf e) n xs) env H K):Sound P o env H K:=by
 simp only[step] at h;obtain⟨h1,Wy⟩:=YK _ _ _ h;rw[rH] at Wy;obtain⟨h2,h3⟩:=Wy;rw[yg] at h3;simp only[aI] at h2;obtain⟨ei,iR,jK⟩:=AB (e:=e) (P:=P) (by omega);subst h2;refine Es h3 λJ F w a G az bd cD hn=>?_;have D9:∀(i:Nat) (x:bn),(i,x)∈parts.toList->x∈o.op.operands:=λi x hx=>by
  simp only[ho,Op.operands]
  grind
 let zc:Array aW:=(Array.range<|xs.length*P.cellsOf e).map (z.cells[·%z.cells.size]!)
 have uz:∀x∈xs,rep J F w (fW env x)<|a.eval x:=λx hx=>by
  obtain⟨j,hj,e⟩:=iD.1 hx;refine bd x<|D9 j x ?_;rw[HT _ _ _ Cy];refine dq.2 ⟨(x,j),?_,rfl⟩
  grind
 have Bf:∀v∈xs.map a.eval,v.cells.size=P.cellsOf e:=λv hv=>by
  obtain⟨x,hx,rfl⟩:=dq.1 hv;have:=nS _ _ (Ec (h1 x hx).1<|uz x hx).1
  grind
 obtain⟨c',f1,f2,_,f4⟩:=U5 (P.cellsOf e) (xs.map a.eval) 0 zc Bf (by simp[zc]);have f1':Instr.fill (λi=>some (i*P.cellsOf e,P.cellsOf e)) zc (parts.map λ(i,x)=>(i,a.eval x)).toList=some c':=by
  rw[Array.toList_map];rw[HT _ _ _ Cy,<-f1,List.zipIdx_map,yD,yD];rfl
 have kR:(execOp a.eval o).run P w=.ok (.value (.slice (some ⟨w.heap.size,0,none⟩) xs.length xs.length)) (w.alloc (.cells c' e)):=by
  by_cases CO:xs.length*P.cellsOf e=0
  ·have hx:xs=[]:=by
    rcases Nat.mul_eq_zero.1 CO with h|h;repeat grind
   subst hx;have zKK:parts.toList=[]:=HT _ _ _ Cy;have Nw:zc=#[]:=(by simp[zc]);simp only[jc,List.zipIdx_nil] at f1;rw[Nw] at f1;simp[Instr.fill] at f1;subst f1;have hp:parts=#[]:=Array.ext' zKK;subst hp;simp[execOp,ho,Instr.buildSlice,underlying,program,Sem.run,ht,pure,wL iR,jK,Instr.fill,newRow,newObj]
   grind
  have jn:¬(xs.length*P.cellsOf e>2^24):=(by omega);simp only[execOp,ho,Instr.buildSlice,underlying,program,Sem.run_bind,Sem.run,ht,pure,Result.andThen_ok,wL iR,jK,ab jn,ab CO,Jf hz];rw[show(Array.map (λx=>z.cells[x%z.cells.size]!)<|Array.range<|xs.length*P.cellsOf e)=zc from rfl,f1'];simp[newRow,newObj,Sem.run,pure]
 obtain⟨J',k1,k2,k3,k4⟩:=Nn (an:=P.cellsOf e) (cap:=xs.length) (xs:=xs.map λx=>(fW env x).cells) (vals:=c') az H.length hn e (by simp) (by rw[f2];simp[zc]) λj x hj=>by
  rw[fx] at hj
  cases ej:xs[j]? with
  |none=>grind
  |some y =>
   rw[ej] at hj;simp at hj;subst hj;have hy:=o7 ej;refine⟨(h1 y hy).2.symm,λk c hc=>?_⟩;obtain⟨q1,q0⟩:=Ec (h1 y hy).1<|uz y hy;obtain⟨u,q2,q3⟩:=uu _ _ _ _ hc q1;refine⟨u,?_,q0 u<|o7 q2,q3⟩;have:=f4 j (a.eval y) k u (by simp[ej])<|by simpa using q2
   grind
 grind
theorem zxm{t e:bp}{l c:bn}(ht:P.underlying t=some (.slice e))(hz:(P.info? e).bind (·.zero)=some z)(yw:z.cells.size=P.cellsOf e)(lO:0<P.cellsOf e)(BU:0<P.bytesOf e)(vK:z.cells.toList.all gC)
  (ho:o.op=.makeSlice t l c) (h:step P seq (.LZ (P.cellsOf e) (P.bytesOf e) z.cells.toList l c) env H K):Sound P o env H K:=by
 simp only[step,iq] at h;obtain⟨ei,iR,jK⟩:=AB (e:=e) (P:=P) (by omega);have EF:ei.bytes=P.bytesOf e:=by simp[Program.bytesOf,iR]
 split at h
 ·rename_i nl nc e1 e2;obtain⟨h0,h1,h2,h3⟩:=h;rw[yg] at h3;refine Es h3 λJ F w a G az bd cD hn=>?_;have k1:=bd l (by simp[ho,Op.operands]);have k2:=bd c (by simp[ho,Op.operands]);rw[e1] at k1;rw[e2] at k2;simp only[rep] at k1 k2;have jn:ei.zero=some z:=(by grind);have hb:(ei.bytes:Int)*nc<=281474976710656:=(by grind);have HN:nc<=9223372036854775807:=by
   have:nc*1<=nc*(P.bytesOf e:Int):=Int.mul_le_mul_of_nonneg_left (by omega) (by omega);omega
  have run:=run_make (P:=P) w t e ei z ht iR jn .i64 .i64 nl nc h0 h1 hb HN;obtain⟨J',q1,q2,q3,q4⟩:=Nn (an:=P.cellsOf e) (cap:=nc.toNat) (xs:=List.replicate nl.toNat<|z.cells.toList.map .sc) (vals:=madeCells z.cells<|nc.toNat * ei.size) az H.length hn e (by simp;omega) (by simp[madeCells,jK]) λj x hj=>by
   rw[vi] at hj;split at hj
   ·rename_i vt;cases hj;refine⟨by simp[yw],λk c hc=>?_⟩;rw[fx] at hc
    cases ek:z.cells.toList[k]? with
    |none=>grind
    |some u =>
     rw[ek] at hc;cases hc;have hk:k<P.cellsOf e:=by
      grind
     refine⟨u,?_,kb.1 vK u<|o7 ek,by simp only[rep]⟩;have cG:j*P.cellsOf e+k<nc.toNat * ei.size:=by
      rw[jK];have:(j+1)*P.cellsOf e<=nc.toNat * P.cellsOf e:=yH _<|by omega
      grind
     have hm:(j*P.cellsOf e+k)%z.cells.size=k:=(by rw[yw,Cf,Nat.mul_add_mod];exact Nat.mod_eq_of_lt hk);have vO:k<z.cells.size:=(by grind);have ek':z.cells[k]=u:=by
      grind
     simp only[madeCells,Array.getElem?_map]
     grind
   cases hj
  simp only[F3] at q4;have e3:nl.toNat<=nc.toNat:=(by omega);refine⟨_,_,J',F,?_,q4,q1,q2,q3⟩;simp[execOp,ho,k1,k2,run,Sem.run,pure]
 exact h.elim
end
end
section
structure wg(w w':bl)(b o:Nat)(us:List aW)(vals:Array aW)(te:bp):Prop where
 os:w'.os=w.os
 tape:w'.tape=w.tape
 output:w'.output=w.output
 size:w'.heap.size=w.heap.size
 other:∀k,k≠b->w'.heap[k]? = w.heap[k]?
 here:∃pY,w'.heap[b]? = some (.cells pY te (0,0))/\pY.size=vals.size/\∀j,pY[j]? = if o<=j/\j<o+us.length then us[j-o]? else vals[j]?
theorem zjr{P:bG}{a:Addr}{u u':aW}(hu:gC u)(hc:w.cell? a=some u')(hf:w.frozen? a=false):(store a u).run P w=.ok () (w.setCell a u):=by
 cases u<;>simp[gC] at hu<;>simp[store,Sem.run,hc,hf]
theorem Fv{P:bG}{b o:Nat}:∀(us:List aW) (i:Nat) (w:bl) (vals:Array aW) (te:bp),w.heap[b]? = some (.cells vals te (0,0))->o+i+us.length<=vals.size->(∀u∈us,gC u) ->
  ∃w',(storeCells ⟨b,o,none⟩ us i).run P w=.ok () w'/\wg w w' b (o+i) us vals te
 |[],i,w,vals,te,hb,_,_=>⟨w,rfl,rfl,rfl,rfl,rfl,λ_ _=>rfl,vals,hb,rfl,λj=>by simp;intro h1 h2;omega⟩
 |u::r,i,w,vals,te,hb,hl,h1=>by
  simp only[dC] at hl;have hc:w.cell? ⟨b,o+i,none⟩=vals[o+i]?:=(by simp[World.cell?,hb]);have hf:=frozen_of_row w b (o+i) vals te hb;have cG:o+i<vals.size:=(by omega);have js:=heap_setCell_same w b (o+i) vals te u hb;obtain⟨w',e1,k⟩:=Fv (P:=P) (b:=b) (o:=o) r (i+1) (w.setCell ⟨b,o+i,none⟩ u) (vals.setIfInBounds (o+i) u) te js (by simp;omega) λv hv=>h1 v (by simp[hv]);have kR:(store (⟨b,o+i,none⟩:Addr) u).run P w=.ok () (w.setCell ⟨b,o+i,none⟩ u):=by
   have hu:=h1 u (by simp);rw[wP cG] at hc;exact zjr hu hc hf
  refine⟨w',?_,?_⟩
  ·simp only[storeCells,oK,Sem.run_bind,kR,Result.andThen_ok];exact e1
  obtain⟨pY,q1,q2,q3⟩:=k.here;refine⟨k.os,k.tape,k.output,by rw[k.size];simp[World.setCell],λx hx=>by rw[k.other x hx];exact heap_setCell_other w _ x u hx,pY,q1,by rw[q2];simp,λj=>?_⟩;rw[q3];by_cases e:j=o+i
  ·subst e;rw[ab<|by omega,ae<|by simp];simp[Array.getElem?_setIfInBounds,cG]
  by_cases h2:o+(i+1)<=j/\j<o+(i+1)+r.length
  ·rw[ae h2,ae<|by simp;omega,show j-(o+i)=j-(o+(i+1))+1 by omega,B0]
  rw[ab h2,ab<|by simp;omega,Array.getElem?_setIfInBounds_ne<|by omega]
theorem wg.cell{w w':bl}{b o:Nat}{us:List aW}{vals:Array aW}{te:bp}(h:wg w w' b o us vals te)(hb:w.heap[b]? = some (.cells vals te (0,0)))(j:Nat) :
  w'.cell? ⟨b,j,none⟩=if o<=j/\j<o+us.length then us[j-o]? else w.cell? ⟨b,j,none⟩:=by
 obtain⟨pY,h1,_,h3⟩:=h.here;simp only[World.cell?,h1,hb]
 grind
variable{b o:Nat}{us:List aW}{vals:Array aW}{te:bp}
theorem M8{J J':bh}{F:Nat->Prop}{n:Nat}(h:wg w w' b (o+n) us vals te)(hb:w.heap[b]? = some (.cells vals te (0,0)))
  (hle:J.le J') (hF:∀x,F x->w'.heap[x]? = w.heap[x]?) {cs xs:List D} (hc:dY J F w b cs o) (h0:∀u∈us,gC u) (hx:bA J F w xs us) (hn:n+xs.length<=cs.length) :
  dY J' F w' b (cs.take n++xs++cs.drop (n+xs.length)) o:=by
 have hl:=nS _ _ hx;refine rU _ _ λj c hj=>?_;rw[h.cell hb];by_cases h1:j<n
 ·rw[ab<|by omega];rw[ig,iz<|by simp;omega,List.getElem?_take,ae h1] at hj;obtain⟨u,q1,q0,q2⟩:=rn cs o j c hj hc;exact⟨u,q1,q0,kO hle (λ_ h=>h) hF _ _ q2⟩
 by_cases h2:j<n+xs.length
 ·rw[ae<|by omega];rw[ig,jF<|by simp;omega] at hj;rw[iz<|by simp;omega] at hj;simp only[fg] at hj;rw[show j-min n cs.length=j-n by omega] at hj;obtain⟨u,q1,q2⟩:=uu _ _ _ _ hj hx;exact⟨u,by rw[show o+j-(o+n)=j-n by omega];exact q1,h0 u<|o7 q1,kO hle (λ_ h=>h) hF _ _ q2⟩
 rw[ab<|by omega];rw[jF<|by simp;omega,Dr] at hj;simp only[cL,fg] at hj;rw[show n+xs.length+(j-(min n cs.length+xs.length))=j by omega] at hj;obtain⟨u,q1,q0,q2⟩:=rn cs o j c hj hc;exact⟨u,q1,q0,kO hle (λ_ h=>h) hF _ _ q2⟩
theorem wg.ext{J':bh}{G:Nat->Option al}(h:wg w w' b o us vals te)(az:cC J F w G)
  (hle:J.le J') (iH:jV J b) (MY:∀x,jV J' x->jV J x) (hF:¬F b):Ext J F w J' F w' :=
 ⟨h.os,h.tape,h.output,by rw[h.size];exact aS _,λx hx hn=>h.other x λe=>hn<|e▸iH,λx hx=>h.other x λe=>hF<|e▸hx,hle,λ_ h=>h,λx hx=>.inl<|MY x hx,λx hx=>.inl hx⟩
variable{i:Nat}
theorem zlY{xs:List<|List D}{r:List D}(j:Nat)(x:List D)(h:(xs.set i r)[j]? = some x):(j=i/\x=r/\i<xs.length)\/(j≠i/\xs[j]? = some x):=by
 grind
theorem zjs{J J':bh}{F:Nat->Prop}{n an:Nat}(h:wg w w' b (o+i*an+n) us vals te)(hb:w.heap[b]? = some (.cells vals te (0,0)))
  (hle:J.le J') (hF:∀x,F x->w'.heap[x]? = w.heap[x]?) {ys:List<|List D} {row xs:List D} (hy:fm J F w b an ys o) (hi:ys[i]? = some row) (h0:∀u∈us,gC u) (hx:bA J F w xs us) (hn:n+xs.length<=row.length) :
  fm J' F w' b an (ys.set i<|row.take n++xs++row.drop (n+xs.length)) o:=by
 have hl:=nS _ _ hx;refine wN _ _ λj x hj=>?_;obtain⟨r1,r2⟩:=vq ys o i row hi hy;rcases zlY j x hj with⟨rfl,rfl,_⟩|⟨b9,hj⟩
 ·exact⟨by simp;omega,M8 h hb hle hF r2 h0 hx hn⟩
 obtain⟨q1,q2⟩:=vq ys o j x hj hy;refine⟨q1,rU _ _ λk c hc=>?_⟩;have hk:k<x.length:=by
  grind
 obtain⟨u,p1,p0,p2⟩:=rn x _ k c hc q2;refine⟨u,?_,p0,kO hle (λ_ h=>h) hF _ _ p2⟩;rw[h.cell hb,ab ?_]
 ·exact p1
 rintro⟨a1,a2⟩;rcases Nat.lt_or_gt_of_ne b9 with cG|cG
 ·have:(j+1)*an<=i*an:=yH _ cG
  grind
 have:(i+1)*an<=j*an:=yH _ cG
 grind
section
variable{P:bG}{seq:Bool}{o:Oper}{env:Env}{H:List al}{K:qA}
variable{ob:al}{id:Nat}{d:D}
theorem Pm(hid:id<H.length)(hK:K d (H.set id ob) [] [id])
  (h:∀(J:bh) (F:Nat->Prop) (w:bl) (a:Act) (G:Nat->Option al),cC J F w G->(∀x∈o.op.operands,rep J F w (fW env x)<|a.eval x)->G id=H[id]? ->
   ∃v w',(execOp a.eval o).run P w=.ok v w'/\(v=.value undef\/v=.skip)/\d=.sc undef/\cC J F w' (λi=>if i=id then some ob else G i)/\Ext J F w J F w'):Sound P o env H K:=by
 refine⟨d,H.set id ob,[],[id],⟨λi hi=>?_,by simp,λi hi=>by simp at hi;simp[hi,hid],λJ F w a G az bd cD pV K Q hK=>?_⟩,hK⟩
 ·grind
 obtain⟨v,w',h1,h2,rfl,h3,h4⟩:=h J F w a G az bd<|cD id (.inr<|by simp);have hu:upd G [id] (H.set id ob)=λi=>if i=id then some ob else G i:=HQ G _ id ob<|by simp[hid]
 unfold Oper.wp;rw[h1];rcases h2 with rfl|rfl
 ·rw[Oper.upon_value];exact hK _ w' J F (by simp only[rep]) (by rw[hu];exact h3) h4 λi hi _=>hi
 rw[Oper.upon_skip];exact hK _ w' J F (by simp only[rep]) (by rw[hu];exact h3) h4 λi hi _=>hi
variable{t:bp}
theorem T7{v:aW}{off:Nat}(eJ:v.cells.size=P.cellsOf t)(hz:P.cellsOf t≠0)(h:(storeCells ⟨b,off,none⟩ v.cells.toList 0).run P w=.ok () w') :
  (Instr.storeAt t (.pointer<|some ⟨b,off,none⟩) v).run P w=.ok () w':=by
 obtain⟨i,h1,h2⟩:=AB hz;simp[Instr.storeAt,Instr.sureAddr,storeVar,wL h1,h2,eJ,Sem.run,pure,h]
variable{x:bn}
theorem zzQ{y:bn}(hz:P.cellsOf t≠0)(ho:o.op=.store t x y)(h:step P seq (.store (P.cellsOf t) x y) env H K):Sound P o env H K:=by
 simp only[step,iq,KK,rH] at h;obtain⟨hs,hlen,h⟩:=h;split at h
 ·rename_i id off e1;obtain⟨ob,h1,h2⟩:=(lX _ _ _).1 h;split at h2
  ·rename_i cs q;obtain⟨h3,h4⟩:=(Er _ _ _ _).1 h2;obtain⟨h5,h6⟩:=(wX _ _ _ _).1 h4;refine Pm h5 h6 λJ F w a G az bd hG=>?_;have k1:=bd x (by simp[ho,Op.operands]);obtain⟨k2,k3⟩:=Ec hs<|bd y (by simp[ho,Op.operands]);rw[e1] at k1;simp only[rep] at k1;obtain⟨s,b,q1,q2,q3,q4⟩:=k1;obtain⟨o',p1,p2⟩:=az.obj id s q1;rw[hG,h1] at p1;cases p1;obtain⟨p2,p3,p4,p5,p6,b',vals,te,p7,p8,p9,p10,p11⟩:=p2;rw[q3] at p7;cases p7;have hl:=nS _ _ k2;obtain⟨w',r1,r2⟩:=Fv (P:=P) (b:=b) (o:=off) (a.eval y).cells.toList 0 w vals _ p8 (by omega) k3;have iH:s.cE=some b:=(by simp[Site.cE,q2,q3]);have ky:¬F b:=az.apart id s b _ q1 iH (hG.trans h1) rfl;have oj:∀z,F z->w'.heap[z]? = w.heap[z]?:=λz vz=>r2.other z λe=>ky<|e▸vz;refine⟨.skip,w',?_,.inr rfl,rfl,?_,r2.ext az (bh.le_refl J) ⟨id,s,q1,iH⟩ (λ_ h=>h) ky⟩
   ·simp[execOp,ho,q4,T7 (by rw[hlen,<-hl];simp) hz r1,Sem.run,pure]
   refine az.update id s _ (λi=>by split;· rename_i e;rw[e];exact q1
                                   rfl) (λ_=>rfl) (bh.le_refl J) oj (by rw[r2.size];exact aS _) (λi s' b' b9 hi hb=>r2.other b' λe=>b9<|az.one i id s' s b' hi q1 hb<|e▸iH) (λb' hb=>.inr ⟨s,q1,hb⟩) (λi s' b' hi hb=>az.jk hi hb) (λb' hb _=>by rw[iH] at hb;cases hb;exact ky) ?_
   obtain⟨pY,r3,r4,_⟩:=r2.here;refine⟨p2,p3,p4,by simp;omega,by simp;omega,b,pY,te,q3,r3,by rw[r4,p9];simp;omega,?_,λq=>by cases q⟩;have LC:wg w w' b (0+off) (a.eval y).cells.toList vals<|q.getD te:=(by grind);exact M8 LC p8 (bh.le_refl J) oj p10 k3 k2 h3
  grind
 ·rename_i id ar i off e1;obtain⟨ob,h1,h2⟩:=(lX _ _ _).1 h;split at h2
  ·rename_i bY an ys;obtain⟨rfl,row,cR,h2⟩:=h2;obtain⟨h3,h4⟩:=(Er _ _ _ _).1 h2;obtain⟨h5,h6⟩:=(wX _ _ _ _).1 h4;refine Pm h5 h6 λJ F w a G az bd hG=>?_;have k1:=bd x (by simp[ho,Op.operands]);obtain⟨k2,k3⟩:=Ec hs<|bd y (by simp[ho,Op.operands]);rw[e1] at k1;simp only[rep] at k1;obtain⟨s,ad,q1,q4,q5,q6⟩:=k1;obtain⟨p1,p2,p3,p4,p5,p6⟩:=vo az q1<|hG.trans h1;obtain⟨b,o',q7,q8,q9,rfl⟩:=q6 p2.symm;have hl:=nS _ _ k2;rcases p6 with p6|⟨b',o'',vals,te,e,p7,p8,p9,p10⟩
   ·omega
   rw[q8] at e;cases e;obtain⟨t1,t2⟩:=vq ys o' i row cR p9;have tH:i<ys.length:=(by omega);have HK:o'+i*an+an<=vals.size:=by
    have:(i+1)*an<=s.cap*an:=yH _<|by omega
    grind
   rw[p3] at q4;obtain⟨w',r1,r2⟩:=Fv (P:=P) (b:=b) (o:=o'+i*an+off) (a.eval y).cells.toList 0 w vals te p7 (by omega) k3;rw[wU] at r2;have iH:s.cE=some b:=by
    have:¬(s.row=false/\s.cap=0):=λh=>by omega
    simp[Site.cE,this,q8]
   have ky:¬F b:=az.apart id s b _ q1 iH (hG.trans h1) rfl;have oj:∀z,F z->w'.heap[z]? = w.heap[z]?:=λz vz=>r2.other z λe=>ky<|e▸vz;refine⟨.skip,w',?_,.inr rfl,rfl,?_,r2.ext az (bh.le_refl J) ⟨id,s,q1,iH⟩ (λ_ h=>h) ky⟩
   ·simp[execOp,ho,q4,T7 (by rw[hlen,<-hl];simp) hz r1,Sem.run,pure]
   refine az.update id s _ (λi=>by split;· rename_i e;rw[e];exact q1
                                   rfl) (λ_=>rfl) (bh.le_refl J) oj (by rw[r2.size];exact aS _) (λi s' b' b9 hi hb=>r2.other b' λe=>b9<|az.one i id s' s b' hi q1 hb<|e▸iH) (λb' hb=>.inr ⟨s,q1,hb⟩) (λi s' b' hi hb=>az.jk hi hb) (λb' hb _=>by rw[iH] at hb;cases hb;exact ky) ?_
   obtain⟨pY,r3,r4,_⟩:=r2.here;exact⟨p1,p2,p3,by simp;omega,p5,.inr ⟨b,o',pY,te,q8,r3,by rw[r4];exact p8,zjs r2 p7 (bh.le_refl J) oj p9 cR k3 k2 h3,λq=>by cases q⟩⟩
  grind
 exact h.elim
theorem zq3{r:aW}(hid:id<H.length)(hK:K d (H.set id ob) [] [id])(hd:∀(J:bh) (F:Nat->Prop) (w:bl),rep J F w d r)
  (h:∀(J:bh) (F:Nat->Prop) (w:bl) (a:Act) (G:Nat->Option al),cC J F w G->(∀x∈o.op.operands,rep J F w (fW env x)<|a.eval x)->G id=H[id]? ->
   ∃w',(execOp a.eval o).run P w=.ok (.value r) w'/\cC J F w' (λi=>if i=id then some ob else G i)/\Ext J F w J F w'):Sound P o env H K:=by
 refine⟨d,H.set id ob,[],[id],⟨λi hi=>?_,by simp,λi hi=>by simp at hi;simp[hi,hid],λJ F w a G az bd cD pV K Q hK=>?_⟩,hK⟩
 ·grind
 obtain⟨w',h1,h3,h4⟩:=h J F w a G az bd<|cD id (.inr<|by simp);have hu:upd G [id] (H.set id ob)=λi=>if i=id then some ob else G i:=HQ G _ id ob<|by simp[hid]
 unfold Oper.wp;rw[h1,Oper.upon_value]
 grind
theorem zpv{zs:List<|List D}{lo hi:Nat}{y x:List D}{j:Nat}(h1:lo<=hi)(h2:hi<=zs.length)(h:(zs.take lo++List.replicate (hi-lo) y++zs.drop hi)[j]? = some x) :
  (lo<=j/\j<hi/\x=y)\/(¬(lo<=j/\j<hi)/\zs[j]? = some x):=by
 rw[List.getElem?_append,List.getElem?_append] at h;repeat grind
theorem zCP{e:bp}{args:Array bn}{ts:Array bp}{z u:aW}(ha:args.toList=[x])(kF:ts.toList=[t])(ht:P.underlying t=some (.slice e))(hz:(P.info? e).bind (·.zero)=some z)
  (hzu:z.cells.toList=[u]) (hc:P.cellsOf e=1/\gC u) (ho:o.op=.call { callee:=.builtin .clear,args:=args,argTypes:=ts }) (h:step P seq (.clr u x) env H K):Sound P o env H K:=by
 obtain⟨args⟩:=args;obtain⟨ts⟩:=ts;simp only at ha kF;subst ha kF;simp only[step,iq] at h;split at h
 ·rename_i id ar lo hi e1;obtain⟨ob,h1,h2⟩:=(lX _ _ _).1 h;split at h2
  ·rename_i bY an zs;obtain⟨rfl,h2⟩:=h2;obtain⟨rfl,h4⟩:=(rH _ _ _).1 h2;obtain⟨h5,h6⟩:=(wX _ _ _ _).1 h4;refine zq3 (r:=.tuple #[]) h5 h6 (λJ F w=>by simp only[rep];exact⟨[],rfl,by simp only[bA]⟩) λJ F w a G az bd hG=>?_;have k1:=bd x (by simp[ho,Op.operands,Call.operands]);rw[e1] at k1;simp only[rep] at k1;obtain⟨s,A0,n0,c0,q1,q2,q3,q4⟩:=k1;obtain⟨p1,p2,p3,p4,p5,p6⟩:=vo az q1<|hG.trans h1;obtain⟨t1,t2,t3,t4,t5,t6⟩:=q4 p2.symm;have exec:∀r w',(Builtin.clear_ #[t] o.type #[.slice A0 n0 c0]).run P w=.ok r w'->(execOp a.eval o).run P w=.ok (.value r) w':=by
    intro r w' hr;simp only[execOp,ho,resolve,invoke,builtin,Sem.run_bind,Sem.run,pure,Result.andThen_ok,List.map_toArray,fR,jc,q2];rw[hr];rfl
   by_cases hn:n0=0
   ·have NF:hi=lo:=(by omega);subst hn;refine⟨w,exec _ _ ?_,?_,Ext.refl _ _ _⟩
    ·cases A0<;>simp[Builtin.clear_,run_underlying ht,Sem.run,pure]
    have:(λi=>if i=id then some<|al.vec true ar 1<|zs.take lo++List.replicate (hi-lo) [D.sc u]++zs.drop hi else G i)=G:=by
     funext i;split
     ·rename_i e;rw[e,hG,h1,NF,xb,List.replicate_zero,lv,List.take_append_drop]
     rfl
    grind
   have yi:s.cap≠lo:=(by omega);rcases t6 with t6|⟨b,o',e2,e3⟩
   ·grind
   rcases p6 with p6|⟨b',o'',vals,te,e4,p7,p8,p9,p10⟩
   ·omega
   rw[e2] at e4;cases e4;obtain⟨w',r1,r2⟩:=Fv (P:=P) (b:=b) (o:=o'+lo*s.an) (List.replicate n0 u) 0 w vals te p7 (by rw[F3,p3];omega) (λv hv=>by rw[List.eq_of_mem_replicate hv];exact hc.2);rw[wU] at r2;have iH:s.cE=some b:=by
    have:¬(s.row=false/\s.cap=0):=λh=>by omega
    simp[Site.cE,this,e2]
   have ky:¬F b:=az.apart id s b _ q1 iH (hG.trans h1) rfl;have oj:∀z,F z->w'.heap[z]? = w.heap[z]?:=λz vz=>r2.other z λe=>ky<|e▸vz;refine⟨w',exec _ _ ?_,?_,r2.ext az (bh.le_refl J) ⟨id,s,q1,iH⟩ (λ_ h=>h) ky⟩
   ·have Nw:(Builtin.zeroCells z.cells n0).toList=List.replicate n0 u:=by
     have qP:z.cells=#[u]:=by
      grind
     rw[qP];simp[Builtin.zeroCells];apply Ea;repeat grind
    subst e3;obtain⟨m,rfl⟩:∃m,n0=m+1:=⟨n0-1,by omega⟩;simp[Builtin.clear_,run_underlying ht,Jf hz,Nw,r1]
   refine az.update id s _ (λi=>by split;· rename_i e;rw[e];exact q1
                                   rfl) (λ_=>rfl) (bh.le_refl J) oj (by rw[r2.size];exact aS _) (λi s' b' b9 hi hb=>r2.other b' λe=>b9<|az.one i id s' s b' hi q1 hb<|e▸iH) (λb' hb=>.inr ⟨s,q1,hb⟩) (λi s' b' hi hb=>az.jk hi hb) (λb' hb _=>by rw[iH] at hb;cases hb;exact ky) ?_
   obtain⟨pY,r3,r4,_⟩:=r2.here;refine⟨p1,p2,p3,by simp;omega,p5,.inr ⟨b,o',pY,te,e2,r3,by rw[r4];exact p8,wN _ _ λj y hj=>?_,λq=>by cases q⟩⟩;rcases zpv t2 (by omega) hj with⟨g1,g2,rfl⟩|⟨g1,g2⟩
   ·refine⟨rfl,rU _ _ λi c hi=>?_⟩;obtain⟨rfl,rfl⟩:i=0/\c=.sc u:=by
     grind
    refine⟨u,?_,hc.2,by simp only[rep]⟩;rw[r2.cell p7,ae<|by rw[F3,p3];omega,vi,ae<|by rw[p3];omega]
   obtain⟨g3,g4⟩:=vq zs o' j y g2 p9;refine⟨g3,rU _ _ λi c hi=>?_⟩;obtain⟨v,g5,g6,g7⟩:=rn y _ i c hi g4;have hi0:i<y.length:=by
    grind
   refine⟨v,?_,g6,kO (bh.le_refl J) (λ_ h=>h) oj _ _ g7⟩;rw[r2.cell p7,ab<|by rw[F3,p3];omega];exact g5
  grind
 exact h.elim
end
end
section
section
variable{J:bh}{F:Nat->Prop}{w:bl}
def lV(J:bh)(F:Nat->Prop)(w:bl)(an:Nat)(xs:List<|List D)(us:List aW):Prop :=
 us.length=xs.length*an/\(∀u∈us,gC u)/\∀(j:Nat) (x:List D),xs[j]? = some x->x.length=an/\∀(k:Nat) (c:D),x[k]? = some c->∃u,us[j*an+k]? = some u/\gC u/\rep J F w c u
theorem ET{b an:Nat}:∀(xs:List<|List D) (o:Nat),fm J F w b an xs o->∃us,lV J F w an xs us/\∀j u,us[j]? = some u->w.cell? ⟨b,o+j,none⟩=some u
 |[],o,_=>⟨[],⟨by simp,(λu h=>by cases h),(λj x h=>by simp at h)⟩,λj u h=>by simp at h⟩
 |x::r,o,h=>by
  simp only[fm] at h;obtain⟨h1,h2,h3⟩:=h;obtain⟨vs,k1,k2,k3⟩:=KO x o h2;obtain⟨us,⟨k4,k5,k6⟩,k7⟩:=ET r (o+an) h3;have hl:=nS _ _ k1;refine⟨vs++us,⟨?_,λu hu=>(dz.1 hu).elim (k3 u)<|k5 u,λj y hj=>?_⟩,λj u hu=>?_⟩
  ·rw[cL,k4,dC,oa];omega
  ·cases j with
   |zero =>
    simp at hj;subst hj;refine⟨h1,λk c hc=>?_⟩;obtain⟨v,q1,q2⟩:=uu _ _ _ _ hc k1;have hk:k<vs.length:=by
     rcases gK k vs.length with h|h
     ·exact h
     rw[dG h] at q1;cases q1
    exact⟨v,by rw[Nat.zero_mul,lp,iz hk];exact q1,k3 v<|o7 q1,q2⟩
   |succ j =>
    obtain⟨q1,q2⟩:=k6 j y (by simpa using hj);refine⟨q1,λk c hc=>?_⟩;obtain⟨u,p1,p2⟩:=q2 k c hc;refine⟨u,?_,p2⟩;rw[jF<|by rw[oa];omega,show(j+1)*an+k-vs.length=j*an+k by rw[oa];omega];exact p1
  by_cases hj:j<vs.length
  ·rw[iz hj] at hu;exact k2 j u hu
  rw[jF<|by omega] at hu;have:=k7 _ u hu;rwa [show o+an+(j-vs.length)=o+j by omega] at this
variable{an:Nat}{xs:List<|List D}{us:List aW}
theorem lV.append{ys:List<|List D}{vs:List aW}(h:lV J F w an xs us)(k:lV J F w an ys vs):lV J F w an (xs++ys)<|us++vs:=by
 obtain⟨h1,h2,h3⟩:=h;obtain⟨k1,k2,k3⟩:=k;refine⟨by rw[cL,cL,h1,k1,oa],λu hu=>(dz.1 hu).elim (h2 u)<|k2 u,λj x hj=>?_⟩;by_cases hl:j<xs.length
 ·grind
 rw[jF<|by omega] at hj;obtain⟨q1,q2⟩:=k3 _ x hj;refine⟨q1,λk c hc=>?_⟩;obtain⟨u,p1,p2⟩:=q2 k c hc;refine⟨u,?_,p2⟩;have:xs.length*an<=j*an:=yH _ (by omega);rw[jF<|by omega,show j*an+k-us.length=(j-xs.length)*an+k by rw[Nat.sub_mul];omega];exact p1
theorem lV.nil(an:Nat):lV J F w an [] []:=⟨by simp,(λu h=>by cases h),(λj x h=>by simp at h)⟩
theorem lV.mono(h:lV J F w an xs us)(hm:∀d v,rep J F w d v->rep J' F' w' d v):lV J' F' w' an xs us :=
 ⟨h.1,h.2.1,λj x hj=>⟨(h.2.2 j x hj).1,λk c hc=>let⟨u,p1,p2,p3⟩:=(h.2.2 j x hj).2 k c hc;⟨u,p1,p2,hm _ _ p3⟩⟩⟩
theorem lV.lie{b o:Nat}(h:lV J F w an xs us)(hc:∀j u,us[j]? = some u->w.cell? ⟨b,o+j,none⟩=some u):fm J F w b an xs o:=by
 refine wN _ _ λj x hj=>?_;obtain⟨q1,q2⟩:=h.2.2 j x hj;refine⟨q1,rU _ _ λk c hk=>?_⟩
 grind
end
section
variable{P:bG}{seq:Bool}{o:Oper}{env:Env}{H:List al}{K:qA}
variable{an:Nat}{dy:D}{K':List (List D)->List Nat->Prop}
theorem zuF(h:Po H an dy K'):∃ys rd,K' ys rd /\
  ∀(J:bh) (F:Nat->Prop) (w:bl) (G:Nat->Option al) (v:aW),cC J F w G->(∀id∈rd,G id=H[id]?)->rep J F w dy v ->
   ∃A c us,v=.slice A ys.length c/\lV J F w an ys us/\((A=none/\ys=[])\/∃a,A=some a/\∀j u,us[j]? = some u->w.cell? (a.add j)=some u):=by
 unfold Po at h;split at h
 ·rename_i oh ys;obtain⟨e,h'⟩:=(rH _ _ _).1 h;subst e;refine⟨ys,[],h',λJ F w G v az _ hv=>?_⟩;simp only[rep] at hv;obtain⟨A,n,c,rfl,rfl,hc,k⟩:=hv;rcases k with k|⟨b,o,rfl,hF,k⟩
  ·have:ys=[]:=pM.1 k;subst this;refine⟨A,c,[],rfl,lV.nil _,?_⟩
   cases A with
   |none=>exact .inl ⟨rfl,rfl⟩
   |some a=>exact .inr ⟨a,rfl,λj u h=>by simp at h⟩
  obtain⟨us,k1,k2⟩:=ET _ _ k;exact⟨_,c,us,rfl,k1,.inr ⟨_,rfl,λj u hu=>by rw[oK];exact k2 j u hu⟩⟩
 ·rename_i id ar lo hi;obtain⟨ob,h1,h2⟩:=(lX _ _ _).1 h;split at h2
  ·rename_i m bY oh zs;obtain⟨rfl,h2⟩:=h2;obtain⟨e,h3⟩:=(rH _ _ _).1 h2;subst e;refine⟨_,[id],h3,λJ F w G v az cD hv=>?_⟩;simp only[rep] at hv;obtain⟨s,A,n,c,q1,rfl,q2,q3⟩:=hv;obtain⟨p1,p2,p3,p4,p5,p6⟩:=vo az q1<|(cD id<|by simp).trans h1;obtain⟨t1,t2,t3,rfl,rfl,t6⟩:=q3 p2.symm;have hl:((zs.take hi).drop lo).length=hi-lo:=(by simp;omega);rw[hl];rcases t6 with t6|⟨b,o,t6,rfl⟩
   ·have:(zs.take hi).drop lo=[]:=pM.1 (by omega);rw[this];refine⟨A,_,[],rfl,lV.nil _,?_⟩
    cases A with
    |none=>exact .inl ⟨rfl,rfl⟩
    |some a=>exact .inr ⟨a,rfl,λj u h=>by simp at h⟩
   rcases p6 with p6|⟨b',o',vals,te,e,_,_,k,_⟩
   ·have:(zs.take hi).drop lo=[]:=pM.1 (by omega);rw[this];exact⟨_,_,[],rfl,lV.nil _,.inr ⟨_,rfl,λj u h=>by simp at h⟩⟩
   rw[t6] at e;cases e;obtain⟨us,k1,k2⟩:=ET _ _<|Da k lo hi;exact⟨_,_,us,rfl,k1,.inr ⟨_,rfl,λj u hu=>by rw[oK,p3];exact k2 j u hu⟩⟩
  grind
 ·refine⟨[],[],h,λJ F w G v az _ hv=>?_⟩;simp only[rep] at hv;exact⟨none,0,[],hv,lV.nil _,.inl ⟨rfl,rfl⟩⟩
 exact h.elim
theorem znA(v:aW):v.oneCell'=gC v:=by cases v<;>rfl
def Lh(P:bG)(u:bp)(H:List al)(an:Nat)(dy:D)(rd:List Nat)(ys:List<|List D):Prop :=
 ∀(J:bh) (F:Nat->Prop) (w:bl) (G:Nat->Option al) (v:aW),cC J F w G->(∀id∈rd,G id=H[id]?)->rep J F w dy v->∃us,lV J F w an ys us/\Src P an u v ys.length us w
theorem ZZ(s:aB):lV J F w 1 (oe s)<|byteCells s:=by
 refine⟨by simp[oe],λu hu=>?_,λj x hj=>?_⟩
 ·obtain⟨_,_,rfl⟩:=dq.1 hu;rfl
 simp only[oe,fx,Option.map_eq_some_iff] at hj;obtain⟨v,h1,rfl⟩:=hj;refine⟨rfl,λk c hc=>?_⟩
 cases k with
 |zero =>
  simp at hc;subst hc;obtain⟨_,_,e⟩:=dq.1<|o7 h1;exact⟨v,by simpa using h1,by subst e;rfl,by simp only[rep]⟩
 |succ k=>simp at hc
variable{u:bp}
theorem zuf(hu:(∃e',P.underlying u=some (.slice e'))\/P.underlying u=some .string)(h:L4 H an dy K'):∃ys rd,K' ys rd/\Lh P u H an dy rd ys:=by
 unfold L4 at h;split at h
 ·rename_i s;obtain⟨rfl,h'⟩:=(rH _ _ _).1 h;refine⟨_,_,h',λJ F w G v _ _ hv=>⟨_,ZZ s,?_⟩⟩;simp only[rep] at hv;subst hv;have hl:(oe s).length=s.size:=(by rw[oe,aI,byteCells_length]);rw[hl];exact⟨hu,λ_=>rfl,firstCells_string s w,firstCells_string s w.drew,by rw[byteCells_length,BQ],λx hx=>by
   obtain⟨_,_,rfl⟩:=dq.1 hx;rfl⟩
 obtain⟨ys,rd,h1,h2⟩:=zuF h;refine⟨ys,rd,h1,λJ F w G v az cD hv=>?_⟩;obtain⟨A,c,us,rfl,h3,h4⟩:=h2 J F w G v az cD hv;refine⟨us,h3,hu,λ_=>rfl,?_,?_,h3.1,λx hx=>by rw[znA];exact h3.2.1 x hx⟩
 ·rcases h4 with⟨rfl,rfl⟩|⟨a,rfl,h4⟩
  ·have:us=[]:=pM.1 (by have:=h3.1;simpa using this);subst this;exact run_firstCells_none w an 0 0 c
  exact run_firstCells_some w an _ a _ c us h3.1 h4
 rcases h4 with⟨rfl,rfl⟩|⟨a,rfl,h4⟩
 ·have:us=[]:=pM.1 (by have:=h3.1;simpa using this);subst this;exact run_firstCells_none w.drew an 0 0 c
 exact run_firstCells_some w.drew an _ a _ c us h3.1<|by simpa using h4
theorem grownCap_ge(w:bl)(need old:Nat)(e:bp):need<=grownCap w need old e:=by
 unfold grownCap Question.cut;simp
theorem cC.drew{J:bh}{F:Nat->Prop}{w:bl}{G:Nat->Option al}(h:cC J F w G):cC J F w.drew G :=
 ⟨λid s hi=>by
  obtain⟨o,h1,h2⟩:=h.obj id s hi;exact⟨o,h1,sk (w:=w) (w':=w.drew) (bh.le_refl J) (λ_ h=>h) (λ_ _=>rfl) (λ_ _=>rfl) h2⟩,h.one,h.apart,h.lt.mono (w':=w.drew) (λ_ q=>q) (λ_ _=>rfl) h.lt.lt⟩
theorem Ext.drew{J:bh}{F:Nat->Prop}{w:bl}:Ext J F w J F w.drew:=⟨rfl,rfl,rfl,aS _,λ_ _ _=>rfl,λ_ _=>rfl,bh.le_refl J,λ_ h=>h,λ_ h=>.inl h,λ_ h=>.inl h⟩
variable{d:D}
theorem TF{v:aW}(h:rep J F w d v):rep J F w.drew d v:=kO (w:=w) (w':=w.drew) (bh.le_refl J) (λ_ h=>h) (λ_ _=>rfl) _ _ h
theorem Rt(size:Nat)(A:Option Addr)(c:Nat)(w:bl):(Builtin.firstCells size 0 (.slice A 0 c)).run P w=.ok (List.toArray []) w:=by
 cases A with
 |none=>exact run_firstCells_none w size 0 0 c
 |some a=>exact run_firstCells_some w size 0 a 0 c [] (by simp)<|by simp
variable{us:List aW}
theorem UD{cap n:Nat}{xs:List<|List D}{z:Array aW}(hr:lV J F w an xs us)(hz:z.size=an)(hn:n=xs.length)(yi:n<=cap) :
  cap*an<=(us.toArray++Builtin.zeroCells z (cap-n)).size/\∀(j:Nat) (x:List D),xs[j]? = some x->x.length=an/\∀(k:Nat) (c:D),x[k]? = some c->∃u,(us.toArray++Builtin.zeroCells z (cap-n))[j*an+k]? = some u/\gC u/\rep J F w c u:=by
 subst hn;refine⟨?_,λj x hj=>?_⟩
 ·simp only[Array.size_append,List.size_toArray,hr.1,Builtin.zeroCells,Array.size_map,Array.size_range,hz];rw[<-oa]
  grind
 obtain⟨q1,q2⟩:=hr.2.2 j x hj
 grind
variable{t e:bp}{ei:TypeInfo}{sv:aW}
theorem Zp{ty:bp}(ht:P.underlying t=some (.slice e))(hi:P.info? e=some ei){A:Option Addr}(hs:Src P ei.size u sv 0 [] w) :
  (Builtin.append_ #[t,u] ty #[.slice A 0 0,sv]).run P w=.ok (.slice A 0 0) w:=by
 rcases hs.kind with⟨e',hk⟩|hk<;>cases A<;>simp[Builtin.append_,run_underlying ht,run_underlying hk,sizeOf,typeInfo,hi,hs.len,hs.cells,storeCells]
variable{G:Nat->Option al}
theorem zuD(h:cC J F w G)(id:Nat)(hid:J id=none)(an ar:Nat) :
  ∃J',cC J' F w (λi=>if i=id then some (.vec true ar an []) else G i)/\Ext J F w J' F w/\(∀i,i≠id->J' i=J i)/\rep J' F w (.own id ar 0 0) (.slice none 0 0):=by
 let J':bh:=λi=>if i=id then some ⟨false,ar,none,an,0,0⟩ else J i
 have hle:J.le J':=λi s hs=>⟨s,by
  have:i≠id:=λe=>by subst e;rw[hid] at hs;cases hs
  simp[J',this,hs],aS _,λ_=>rfl⟩
 refine⟨J',⟨λi s hs=>?_,λi i' s s' b g1 g2 g3 g4=>?_,λi s b o g1 g2 g3 g4=>?_,h.lt⟩,⟨rfl,rfl,rfl,aS _,λ_ _ _=>rfl,λ_ _=>rfl,hle,λ_ h=>h,λb ⟨i,s,hs,hb⟩=>?_,λb hb=>.inl hb⟩,λi hi=>by simp[J',hi],?_⟩
 ·simp only[J'] at hs;split at hs
  ·rename_i e;subst e;cases hs;exact⟨.vec true ar an [],by simp,rfl,rfl,rfl,rfl,aS _,.inl rfl⟩
  rename_i e;obtain⟨o,h1,h2⟩:=h.obj i s hs;exact⟨o,by rw[ab e];exact h1,sk hle (λ_ h=>h) (λ_ _=>rfl) (λ_ _=>rfl) h2⟩
 ·simp only[J'] at g1 g2;split at g1
  ·cases g1;simp[Site.cE] at g3
  split at g2
  ·cases g2;simp[Site.cE] at g4
  exact h.one i i' s s' b g1 g2 g3 g4
 ·simp only[J'] at g1;split at g1
  ·cases g1;simp[Site.cE] at g2
  rename_i e;rw[ab e] at g3;exact h.apart i s b o g1 g2 g3 g4
 ·simp only[J'] at hs;split at hs
  ·cases hs;simp[Site.cE] at hb
  exact .inl ⟨i,s,hs,hb⟩
 simp only[rep];exact⟨_,none,0,0,by simp[J'];rfl,rfl,aS _,λ_=>⟨rfl,aS _,kZ _,rfl,rfl,.inl rfl⟩⟩
variable{z:aW}
theorem zmo{u:bp}{ty:bp}{x y:bn}{ys:List<|List D}{rd:List Nat}(ht:P.underlying t=some (.slice e))(hz:(P.info? e).bind (·.zero)=some z)(yw:z.cells.size=P.cellsOf e)(lO:0<P.cellsOf e)(BU:0<P.bytesOf e)
  (J3:o.type=ty) (ho:o.op=.call { callee:=.builtin .append,args:=#[x,y],argTypes:=#[t,u] }) (hx:fW env x=.sc (.slice none 0 0))
  (hy:Lh P u H (P.cellsOf e) (fW env y) rd ys)
  (E1:iF 0 (P.bytesOf e) ys.length) (hK:K (.own H.length 0 0 ys.length) (H++[.vec true 0 (P.cellsOf e) ys]) rd [H.length]):Sound P o env H K:=by
 obtain⟨ei,iR,jK⟩:=AB (e:=e) (P:=P) (by omega);have EF:ei.bytes=P.bytesOf e:=by simp[Program.bytesOf,iR]
 have jn:ei.zero=some z:=by simpa [iR] using hz
 refine Es hK λJ F w a G az bd cD hn=>?_;have k1:=bd x (by simp[ho,Op.operands,Call.operands]);rw[hx] at k1;simp only[rep] at k1;obtain⟨us,k3,zw⟩:=hy J F w G _ az cD<|bd y (by simp[ho,Op.operands,Call.operands]);rw[<-jK] at zw;have Ki:(0+ys.length)*ei.bytes<=140737488355328:=by unfold iF at E1;rw[EF];exact E1
 rcases B4 ys.length with h00|h0
 ·have AT:ys=[]:=pM.1 h00;have NC:us=[]:=pM.1 (by rw[k3.1,AT];simp);subst AT NC;have run:=Zp (P:=P) (w:=w) (A:=none) (ty:=ty) ht iR zw;obtain⟨J',r1,r2,r3,r4⟩:=zuD (w:=w) az H.length hn (P.cellsOf e) 0;refine⟨_,_,J',F,?_,r4,r1,r2,r3⟩;simp only[execOp,ho,resolve,invoke,builtin,Sem.run_bind,Sem.run,pure,Result.andThen_ok,List.map_toArray,fR,jc,k1,J3];rw[run];rfl
 have zJ7:ys.length<=140737488355328:=by
  have:ys.length*1<=ys.length*ei.bytes:=Nat.mul_le_mul_left _ (by rw[EF];exact BU);rw[lp] at Ki;omega
 have run:=run_append_grow_src (P:=P) w t u ty e ei z ht iR jn none 0 0 [] (by exact Rt ei.size none 0 w.drew) (a.eval y) ys.length us zw (by omega) (by omega)<|growslice_fits (by omega) Ki;rw[lp] at run;obtain⟨q1,q2⟩:=UD (cap:=grownCap w ys.length 0 e) k3 yw rfl (grownCap_ge w _ _ _);obtain⟨J',r1,r2,r3,r4⟩:=Nn (w:=w.drew) (an:=P.cellsOf e) (cap:=grownCap w ys.length 0 e) (xs:=ys) (vals:=us.toArray++Builtin.zeroCells z.cells (grownCap w ys.length 0 e-ys.length)) az.drew H.length hn e (grownCap_ge w _ _ _) q1 λj x hj=>⟨(q2 j x hj).1,λk c hc=>let⟨u,p1,p2,p3⟩:=(q2 j x hj).2 k c hc;⟨u,p1,p2,TF p3⟩⟩;refine⟨_,_,J',F,?_,r4,r1,Ext.drew.trans r2,r3⟩;simp only[nG] at run;simp only[execOp,ho,resolve,invoke,builtin,Sem.run_bind,Sem.run,pure,Result.andThen_ok,List.map_toArray,fR,jc,k1,J3];rw[run];rfl
variable{s:Site}{id:Nat}
theorem bh.Iq{s':Site}(h:J id=some s)(hr:s.row=false)(hv:s.ar<s'.ar):J.le λi=>if i=id then some s' else J i:=λi t ht=>by
 by_cases e:i=id
 ·subst e;rw[h] at ht;cases ht
  exact⟨s',by simp,by omega,λq=>by rcases q with q|q;· omega
                                   rw[hr] at q;cases q⟩
 exact⟨t,by simp[e,ht],aS _,λ_=>rfl⟩
theorem zqK(h:cC J F w G)(id:Nat)(hs:J id=some s)(cR:s.row=false){ar an cap:Nat}(D6:s.ar<ar){xs:List<|List D}{vals:Array aW}(te:bp){q:Bool}(hq:GW q te=te)
  (hlen:xs.length<=cap) (eJ:cap*an<=vals.size) (hx:∀(j:Nat) (x:List D),xs[j]? = some x->x.length=an/\∀(k:Nat) (c:D),x[k]? = some c->∃u,vals[j*an+k]? = some u/\gC u/\rep J F w c u) :
  ∃J',cC J' F (w.alloc (.cells vals te)) (λi=>if i=id then some (.vec true ar an xs q) else G i)/\Ext J F w J' F (w.alloc (.cells vals te)) /\
   (∀i,i≠id->J' i=J i)/\rep J' F (w.alloc (.cells vals te)) (.own id ar 0 xs.length) (.slice (some ⟨w.heap.size,0,none⟩) xs.length cap):=by
 have hle:=bh.Iq (s':=⟨false,ar,some ⟨w.heap.size,0,none⟩,an,cap,xs.length⟩) hs cR D6;have hF:∀b,F b->(w.alloc (.cells vals te)).heap[b]? = w.heap[b]?:=λb hb=>yd w _<|h.lt b hb;have GJ:fm (λi=>if i=id then some ⟨false,ar,some ⟨w.heap.size,0,none⟩,an,cap,xs.length⟩ else J i) F (w.alloc (.cells vals te)) w.heap.size an xs 0:=by
  refine wN _ _ λj x hj=>?_;obtain⟨k1,k2⟩:=hx j x hj;refine⟨k1,rU _ _ λk c hc=>?_⟩;obtain⟨u,q1,q0,q2⟩:=k2 k c hc;exact⟨u,by simp[q1],q0,kO hle (λ_ h=>h) hF _ _ q2⟩
 have x7:∀b,Site.cE ⟨false,ar,some ⟨w.heap.size,0,none⟩,an,cap,xs.length⟩=some b->b=w.heap.size:=λb hb=>by
  unfold Site.cE at hb;repeat grind
 refine⟨_,h.update id ⟨false,ar,some ⟨w.heap.size,0,none⟩,an,cap,xs.length⟩ (.vec true ar an xs q) (λ_=>rfl) (λ_=>rfl) hle hF (by simp) (λi s b _ hi hb=>yd w _<|h.jk hi hb) (λb hb=>.inl<|by rw[x7 b hb];exact aS _) (λi s b hi hb=>h.jk hi hb) (λb hb _ hFb=>?_)
  ⟨rfl,rfl,rfl,rfl,hlen,.inr ⟨w.heap.size,0,vals,te,rfl,by rw[hq];exact heap_alloc_new w _,by simpa using eJ,GJ,λq=>by cases q⟩⟩,?_,λi hi=>by simp[hi],?_⟩
 ·have:=h.lt b hFb
  grind
 ·exact⟨rfl,rfl,rfl,by simp,λb hb _=>yd w _ hb,hF,hle,λ_ h=>h,λb ⟨i,t,hi,hb⟩=>by
   dsimp only at hi;by_cases e:i=id
   ·grind
   rw[ab e] at hi;exact .inl ⟨i,t,hi,hb⟩,λb hb=>.inl hb⟩
 simp only[rep]
 grind
theorem zpZ{ob:al}{rd:List Nat}(hid:id<H.length)(hK:K d (H.set id ob) rd [id])
  (h:∀(J:bh) (F:Nat->Prop) (w:bl) (a:Act) (G:Nat->Option al),cC J F w G->(∀x∈o.op.operands,rep J F w (fW env x)<|a.eval x)->(∀i∈rd,G i=H[i]?)->G id=H[id]? ->
   ∃v w' J' F',(execOp a.eval o).run P w=.ok (.value v) w'/\rep J' F' w' d v/\cC J' F' w' (λi=>if i=id then some ob else G i)/\Ext J F w J' F' w'/\(∀i,i≠id->J' i=J i)):Sound P o env H K:=by
 refine⟨d,H.set id ob,rd,[id],⟨λi hi=>?_,by simp,λi hi=>by simp at hi;simp[hi,hid],λJ F w a G az bd cD pV K Q hK=>?_⟩,hK⟩
 ·grind
 obtain⟨v,w',J',F',h1,h2,h3,h4,h5⟩:=h J F w a G az bd (λi hi=>cD i (.inl hi))<|cD id (.inr<|by simp);have hu:upd G [id] (H.set id ob)=λi=>if i=id then some ob else G i:=HQ G _ id ob<|by simp[hid]
 unfold Oper.wp;rw[h1,Oper.upon_value]
 grind
theorem zeV{ty:bp}(ht:P.underlying t=some (.slice e))(hi:P.info? e=some ei){w':bl}{b off sLen sCap n:Nat}(hs:Src P ei.size u sv n us w)(HK:sLen+n<=sCap)
  (bW:(storeCells ⟨b,off+sLen*ei.size,none⟩ us 0).run P w=.ok () w') :
  (Builtin.append_ #[t,u] ty #[.slice (some ⟨b,off,none⟩) sLen sCap,sv]).run P w=.ok (.slice (some ⟨b,off,none⟩) (sLen+n) sCap) w':=by
 rcases hs.kind with⟨e',hk⟩|hk<;>simp[Builtin.append_,run_underlying ht,run_underlying hk,sizeOf,typeInfo,hi,hs.len,HK,hs.cells,oK,bW]
theorem zlR{u:bp}{ty:bp}{x y:bn}{ys zs:List<|List D}{rd:List Nat}{id ar lo hi:Nat}{q:Bool}(hq:GW q e=e)(ht:P.underlying t=some (.slice e))(hz:(P.info? e).bind (·.zero)=some z)(yw:z.cells.size=P.cellsOf e)(lO:0<P.cellsOf e)(BU:0<P.bytesOf e)
  (J3:o.type=ty) (ho:o.op=.call { callee:=.builtin .append,args:=#[x,y],argTypes:=#[t,u] }) (hx:fW env x=.own id ar lo hi) (hH:H[id]? = some (.vec true ar (P.cellsOf e) zs q))
  (hy:Lh P u H (P.cellsOf e) (fW env y) rd ys)
  (E1:iF (hi-lo) (P.bytesOf e) ys.length) (hK:K (.own id (ar+1) 0<|hi-lo+ys.length) (H.set id (.vec true (ar+1) (P.cellsOf e) ((zs.take hi).drop lo++ys) q)) rd [id]):Sound P o env H K:=by
 obtain⟨ei,iR,jK⟩:=AB (e:=e) (P:=P) (by omega);have EF:ei.bytes=P.bytesOf e:=by simp[Program.bytesOf,iR]
 have jn:ei.zero=some z:=by simpa [iR] using hz
 have yN:id<H.length:=by
  rcases gK id H.length with h|h
  ·exact h
  rw[dG h] at hH;cases hH
 refine zpZ yN hK λJ F w a G az bd cD hG=>?_;have k1:=bd x (by simp[ho,Op.operands,Call.operands]);rw[hx] at k1;simp only[rep] at k1;obtain⟨s,A0,n0,c0,q1,q2,q3,q4⟩:=k1;obtain⟨us,k3,zw⟩:=hy J F w G _ az cD<|bd y (by simp[ho,Op.operands,Call.operands]);rw[<-jK] at zw;have Ki:(hi-lo+ys.length)*ei.bytes<=140737488355328:=by unfold iF at E1;rw[EF];exact E1
 have zJ7:hi-lo+ys.length<=140737488355328:=by
  have:(hi-lo+ys.length)*1<=(hi-lo+ys.length)*ei.bytes:=Nat.mul_le_mul_left _ (by rw[EF];exact BU);omega
 obtain⟨p1,p2,p3,p4,p5,p6⟩:=vo az q1<|hG.trans hH;obtain⟨t1,t2,t3,t4,t5,t6⟩:=q4 p2.symm;have P6:=Lib.hid p6;have T6:=Lib.hid t6;clear p6 t6 q4;have hlen:((zs.take hi).drop lo).length=hi-lo:=by simp;omega
 have exec:∀r w',(Builtin.append_ #[t,u] ty #[.slice A0 n0 c0,a.eval y]).run P w=.ok r w'->(execOp a.eval o).run P w=.ok (.value r) w':=by
  intro r w' hr;simp only[execOp,ho,resolve,invoke,builtin,Sem.run_bind,Sem.run,pure,Result.andThen_ok,List.map_toArray,fR,jc,q2,J3];rw[hr];rfl
 -- the old cells
 have hold:∃olds,lV J F w (P.cellsOf e) ((zs.take hi).drop lo) olds/\(Builtin.firstCells ei.size n0 (.slice A0 n0 c0)).run P w.drew=.ok olds.toArray w.drew:=by
  by_cases hc:s.cap=lo
  ·have h0:(zs.take hi).drop lo=[]:=pM.1 (by omega);refine⟨[],by rw[h0];exact lV.nil _,?_⟩;have qW:n0=0:=(by omega);subst qW;exact Rt _ _ _ _
  rcases T6.out with h|⟨b,o',e1,e2⟩
  ·exact absurd h hc
  rcases P6.out with h|⟨b',o'',vals,te,e3,e4,e5,e6,_⟩
  ·omega
  rw[e1] at e3;cases e3;obtain⟨olds,r1,r2⟩:=ET _ _<|Da e6 lo hi;refine⟨olds,r1,?_⟩;subst e2;refine run_firstCells_some (P:=P) w.drew ei.size n0 _ n0 c0 olds (by rw[r1.1,jK,hlen,t4]) λj v hv=>?_;rw[oK,p3];exact r2 j v hv
 obtain⟨olds,Qh,Qj⟩:=hold;have bR:lV J F w (P.cellsOf e) ((zs.take hi).drop lo++ys)<|olds++us:=Qh.append k3;have Jz:((zs.take hi).drop lo++ys).length=hi-lo+ys.length:=by rw[cL,hlen]
 by_cases HK:n0+ys.length<=c0
 ·by_cases hc:s.cap=lo
  ·have AT:ys=[]:=pM.1 (by omega);have qW:n0=0:=(by omega);have FE:c0=0:=(by omega);have h0:(zs.take hi).drop lo=[]:=pM.1 (by omega);have NC:us=[]:=pM.1 (by rw[k3.1,AT];simp);subst AT qW FE NC;have run:=exec _ _<|Zp (P:=P) (ty:=ty) ht iR zw;have hle:=bh.Iq (s':=⟨false,ar+1,none,P.cellsOf e,0,0⟩) q1 t1 (by show s.ar<ar+1;omega);refine⟨_,w,_,F,run,?_,az.update id ⟨false,ar+1,none,P.cellsOf e,0,0⟩ _ (λ_=>rfl) (λ_=>rfl) hle (λ_ _=>rfl) (aS _) (λ_ _ _ _ _ _=>rfl) (λb hb=>by simp[Site.cE] at hb) (λi s b hi hb=>az.jk hi hb) (λb hb=>by simp[Site.cE] at hb) ⟨rfl,rfl,rfl,by rw[h0];rfl,aS _,.inl rfl⟩,?_,λi hi=>by simp[hi]⟩
   ·simp only[rep];exact⟨_,_,_,_,by simp;rfl,rfl,aS _,λ_=>⟨rfl,by omega,by simp;omega,by simp;omega,by simp,.inl rfl⟩⟩
   exact⟨rfl,rfl,rfl,aS _,λ_ _ _=>rfl,λ_ _=>rfl,hle,λ_ h=>h,λb ⟨i,t,hi,hb⟩=>by
    dsimp only at hi;by_cases e:i=id
    ·rw[ae e] at hi;cases hi;simp[Site.cE] at hb
    rw[ab e] at hi;exact .inl ⟨i,t,hi,hb⟩,λb hb=>.inl hb⟩
  rcases T6.out with h|⟨b,o',e1,e2⟩
  ·exact absurd h hc
  rcases P6.out with h|⟨b',o'',vals,te,e3,e4,e5,e6,_⟩
  ·omega
  rw[e1] at e3;cases e3;subst e2;have FO:(n0+ys.length)*P.cellsOf e<=(s.cap-lo)*P.cellsOf e:=yH _ (by omega);have GZ:(s.cap-lo)*P.cellsOf e+lo*P.cellsOf e=s.cap*P.cellsOf e:=(by rw[<-oa];congr 1;omega);have Xh:us.length=ys.length*P.cellsOf e:=k3.1;rw[oa] at FO;obtain⟨w',r1,r2⟩:=Fv (P:=P) (b:=b) (o:=o'+lo*s.an+n0*ei.size) us 0 w vals _ e4 (by rw[p3,jK];omega) k3.2.1;rw[wU] at r2;have run:=exec _ _<|zeV (P:=P) (ty:=ty) ht iR zw HK r1;have hle:=bh.Iq (s':=⟨false,ar+1,some ⟨b,o'+lo*s.an,none⟩,P.cellsOf e,s.cap-lo,hi-lo+ys.length⟩) q1 t1 (by show s.ar<ar+1;omega);have iH:s.cE=some b:=by
   have:¬(s.row=false/\s.cap=0):=λh=>by omega
   simp[Site.cE,this,e1]
  have ky:¬F b:=az.apart id s b _ q1 iH (hG.trans hH) rfl;have oj:∀z,F z->w'.heap[z]? = w.heap[z]?:=λz vz=>r2.other z λe=>ky<|e▸vz;have x7:∀b1,Site.cE ⟨false,ar+1,some ⟨b,o'+lo*s.an,none⟩,P.cellsOf e,s.cap-lo,hi-lo+ys.length⟩=some b1->b1=b:=λb1 hb=>by
   unfold Site.cE at hb;split at hb
   ·cases hb
   simpa using hb.symm
  obtain⟨pY,s1,s2,s3⟩:=r2.here;have GJ:fm (λi=>if i=id then some ⟨false,ar+1,some ⟨b,o'+lo*s.an,none⟩,P.cellsOf e,s.cap-lo,hi-lo+ys.length⟩ else J i) F w' b (P.cellsOf e) ((zs.take hi).drop lo++ys)<|o'+lo*s.an:=by
   obtain⟨EO,m1,m2⟩:=ET _ _<|Da e6 lo hi;have hm:=m1.append k3;refine lV.lie (us:=EO++us) (hm.mono λd v h=>kO hle (λ_ h=>h) oj _ _ h) λj v hv=>?_;have oZ:EO.length=n0*P.cellsOf e:=(by rw[m1.1,hlen,t4]);rw[r2.cell e4];by_cases hj:j<EO.length
   ·rw[ab<|by rw[jK];omega];rw[iz hj] at hv;have:=m2 j v hv;rwa [p3]
   rw[jF<|by omega] at hv;have vt:j-EO.length<us.length:=by
    rcases gK (j-EO.length) us.length with h|h
    ·exact h
    rw[dG h] at hv;cases hv
   rw[ae<|by rw[jK];omega,show o'+lo*s.an+j-(o'+lo*s.an+n0*ei.size)=j-EO.length by rw[jK];omega];exact hv
  refine⟨_,w',_,F,run,?_,az.update id ⟨false,ar+1,some ⟨b,o'+lo*s.an,none⟩,P.cellsOf e,s.cap-lo,hi-lo+ys.length⟩ _ (λ_=>rfl) (λ_=>rfl) hle oj (by rw[r2.size];exact aS _) (λi s' b' b9 hi hb=>r2.other b' λe=>b9<|az.one i id s' s b' hi q1 hb<|e▸iH) (λb1 hb=>.inr ⟨s,q1,by rw[x7 b1 hb];exact iH⟩) (λi s b hi hb=>az.jk hi hb) (λb1 hb _=>by rw[x7 b1 hb];exact ky)
   ⟨rfl,rfl,rfl,Jz.symm,by show hi-lo+ys.length<=s.cap-lo;omega,.inr ⟨b,o'+lo*s.an,pY,te,rfl,s1,by rw[s2,p3];show o'+lo*P.cellsOf e+(s.cap-lo)*P.cellsOf e<=vals.size;omega,GJ,λq=>by cases q⟩⟩,?_,λi hi=>by simp[hi]⟩
  ·simp only[rep];exact⟨_,_,_,_,by simp;rfl,rfl,aS _,λ_=>⟨rfl,kZ _,aS _,by simp;omega,by simp;omega,.inr ⟨b,_,rfl,by simp⟩⟩⟩
  refine r2.ext az hle ⟨id,s,q1,iH⟩ (λx ⟨i,t,hi,hb⟩=>?_) ky;dsimp only at hi;by_cases e:i=id
  ·rw[ae e] at hi;cases hi;rw[x7 x hb];exact⟨id,s,q1,iH⟩
  rw[ab e] at hi;exact⟨i,t,hi,hb⟩
 have run:=exec _ _<|run_append_grow_src (P:=P) w t u ty e ei z ht iR jn A0 n0 c0 olds Qj (a.eval y) ys.length us zw (by omega) (by omega)<|growslice_fits (by omega) (by rw[t4];exact Ki);obtain⟨g1,g2⟩:=UD (n:=n0+ys.length) (cap:=grownCap w (n0+ys.length) c0 e) bR yw (by rw[Jz,t4])<|grownCap_ge w _ _ _;obtain⟨J',r1,r2,r3,r4⟩:=zqK (w:=w.drew) (ar:=ar+1) (an:=P.cellsOf e) (cap:=grownCap w (n0+ys.length) c0 e) (xs:=(zs.take hi).drop lo++ys) (vals:=(olds++us).toArray++Builtin.zeroCells z.cells (grownCap w (n0+ys.length) c0 e-(n0+ys.length))) az.drew id q1 t1 (by show s.ar<ar+1;omega) e hq (by rw[Jz,<-t4];exact grownCap_ge w _ _ _) g1 λj x hj=>⟨(g2 j x hj).1,λk c hc=>let⟨u,p1,p2,p3⟩:=(g2 j x hj).2 k c hc;⟨u,p1,p2,TF p3⟩⟩;rw[Jz] at r4;refine⟨_,_,J',F,run,?_,r1,Ext.drew.trans r2,r3⟩;rw[t4];rw[t4] at r4;exact r4
end
end
section
mutual
def D.aP(ρ:Nat->Nat):D->D
 | .dL=>.dL
 | .sc v=>.sc v
 | .loc id off=>.loc (ρ id) off
 | .elt id ar i off=>.elt (ρ id) ar i off
 | .ax cs=>.ax<|bL ρ cs
 | .aM e xs=>.aM e<|kl ρ xs
 | .own id ar lo hi=>.own (ρ id) ar lo hi
 | .fn f a b=>.fn f (bL ρ a)<|bL ρ b
 | .agg cs=>.agg<|bL ρ cs
 | .aJ cs=>.aJ<|bL ρ cs
 | .mp id=>.mp<|ρ id
def bL(ρ:Nat->Nat):List D->List D
 |[]=>[]
 |d::r=>D.aP ρ d::bL ρ r
def kl(ρ:Nat->Nat):List (List D)->List (List D)
 |[]=>[]
 |d::r=>bL ρ d::kl ρ r
end
def al.aP(ρ:Nat->Nat):al->al
 | .row m cs t=>.row m (bL ρ cs) t
 | .vec m ar an xs t=>.vec m ar an (kl ρ xs) t
 | .dV m I=>.dV m I
theorem Ah(x:Nat):∀n,x∈yo n↔x<n
 |0=>by simp[yo]
 |n+1=>by simp only[yo,eQ,Ah x n];omega
theorem CB{m:Nat}:∀{l:List al},dX m l->∀o∈l,o.under m
 |[],_,_,h=>by cases h
 |x::r,h,o,ho=>by
  simp only[dX] at h;rcases eQ.1 ho with rfl|ho
  ·exact h.1
  exact CB h.2 o ho
mutual
theorem bz{m:Nat}:∀d:D,Pure d->aK m d
 | .dL,_=>by simp only[aK]
 | .sc _,_=>by simp only[aK]
 | .loc ..,h=>by simp only[Pure] at h
 | .elt ..,h=>by simp only[Pure] at h
 | .own ..,h=>by simp only[Pure] at h
 | .mp ..,h=>by simp only[Pure] at h
 | .ax cs,h=>by simp only[Pure] at h;simp only[aK];exact bI cs h
 | .aM _ xs,h=>by simp only[Pure] at h;simp only[aK];exact bm xs h
 | .fn _ a b,h=>by simp only[Pure] at h;simp only[aK];exact⟨bI a h.1,bI b h.2⟩
 | .agg cs,h=>by simp only[Pure] at h;simp only[aK];exact bI cs h
 | .aJ cs,h=>by simp only[Pure] at h;simp only[aK];exact bI cs h
theorem bI{m:Nat}:∀d:List D,aA d->aG m d
 |[],_=>by simp only[aG]
 |d::r,h=>by simp only[aA] at h;simp only[aG];exact⟨bz d h.1,bI r h.2⟩
theorem bm{m:Nat}:∀d:List<|List D,dF d->bB m d
 |[],_=>by simp only[bB]
 |d::r,h=>by simp only[dF] at h;simp only[bB];exact⟨bI d h.1,bm r h.2⟩
end
mutual
theorem iQ{ρ:Nat->Nat}:∀d:D,Pure d->D.aP ρ d=d
 | .dL,_=>by simp only[D.aP]
 | .sc _,_=>by simp only[D.aP]
 | .loc ..,h=>by simp only[Pure] at h
 | .elt ..,h=>by simp only[Pure] at h
 | .own ..,h=>by simp only[Pure] at h
 | .mp ..,h=>by simp only[Pure] at h
 | .ax cs,h=>by simp only[Pure] at h;simp only[D.aP,mj cs h]
 | .aM _ xs,h=>by simp only[Pure] at h;simp only[D.aP,jW xs h]
 | .fn _ a b,h=>by simp only[Pure] at h;simp only[D.aP,mj a h.1,mj b h.2]
 | .agg cs,h=>by simp only[Pure] at h;simp only[D.aP,mj cs h]
 | .aJ cs,h=>by simp only[Pure] at h;simp only[D.aP,mj cs h]
theorem mj{ρ:Nat->Nat}:∀d:List D,aA d->bL ρ d=d
 |[],_=>by simp only[bL]
 |d::r,h=>by simp only[aA] at h;simp only[bL,iQ d h.1,mj r h.2]
theorem jW{ρ:Nat->Nat}:∀d:List<|List D,dF d->kl ρ d=d
 |[],_=>by simp only[kl]
 |d::r,h=>by simp only[dF] at h;simp only[kl,mj d h.1,jW r h.2]
end
theorem MQ{ρ:Nat->Nat}:∀d:List D,(bL ρ d).length=d.length
 |[]=>by simp only[bL]
 |d::r=>by simp only[bL,dC,MQ r]
theorem Mi{ρ:Nat->Nat}:∀d:List<|List D,(kl ρ d).length=d.length
 |[]=>by simp only[kl]
 |d::r=>by simp only[kl,dC,Mi r]
section
variable{J:bh}{F:Nat->Prop}{w:bl}{ρ:Nat->Nat}
mutual
theorem DM:∀(d:D) (v:aW),rep (λi=>J<|ρ i) F w d v↔rep J F w (D.aP ρ d) v
 | .dL,v=>by simp only[D.aP,rep]
 | .sc u,v=>by simp only[D.aP,rep]
 | .loc ..,v=>by simp only[D.aP,rep]
 | .elt ..,v=>by simp only[D.aP,rep]
 | .own ..,v=>by simp only[D.aP,rep]
 | .mp ..,v=>by simp only[D.aP,rep]
 | .ax cs,v=>by
  simp only[D.aP,rep];exact⟨λ⟨b,o,h1,h2,h3⟩=>⟨b,o,h1,h2,(zX b cs o).1 h3⟩,λ⟨b,o,h1,h2,h3⟩=>⟨b,o,h1,h2,(zX b cs o).2 h3⟩⟩
 | .aM e xs,v=>by
  simp only[D.aP,rep,Mi]
  exact⟨λ⟨A,n,c,h1,h2,h3,h4⟩=>⟨A,n,c,h1,h2,h3,h4.imp_right λ⟨b,o,k1,k2,k3⟩=>⟨b,o,k1,k2,(DZ b e xs o).1 k3⟩⟩,
   λ⟨A,n,c,h1,h2,h3,h4⟩=>⟨A,n,c,h1,h2,h3,h4.imp_right λ⟨b,o,k1,k2,k3⟩=>⟨b,o,k1,k2,(DZ b e xs o).2 k3⟩⟩⟩
 | .fn f a b,v=>by
  simp only[D.aP,rep];exact⟨λ⟨vs,us,h1,h2,h3⟩=>⟨vs,us,h1,(uG a vs).1 h2,(uG b us).1 h3⟩,λ⟨vs,us,h1,h2,h3⟩=>⟨vs,us,h1,(uG a vs).2 h2,(uG b us).2 h3⟩⟩
 | .agg cs,v=>by
  simp only[D.aP,rep];exact⟨λ⟨vs,h1,h2⟩=>⟨vs,h1,(uG cs vs).1 h2⟩,λ⟨vs,h1,h2⟩=>⟨vs,h1,(uG cs vs).2 h2⟩⟩
 | .aJ cs,v=>by
  simp only[D.aP,rep];exact⟨λ⟨vs,h1,h2⟩=>⟨vs,h1,(uG cs vs).1 h2⟩,λ⟨vs,h1,h2⟩=>⟨vs,h1,(uG cs vs).2 h2⟩⟩
theorem uG:∀(d:List D) (v:List aW),bA (λi=>J<|ρ i) F w d v↔bA J F w (bL ρ d) v
 |[],v=>by simp only[bL,bA]
 |d::r,v=>by
  simp only[bL,bA];exact⟨λ⟨u,us,h1,h2,h3⟩=>⟨u,us,h1,(DM d u).1 h2,(uG r us).1 h3⟩,λ⟨u,us,h1,h2,h3⟩=>⟨u,us,h1,(DM d u).2 h2,(uG r us).2 h3⟩⟩
theorem zX(b:Nat):∀(d:List D) (o:Nat),dY (λi=>J<|ρ i) F w b d o↔dY J F w b (bL ρ d) o
 |[],o=>by simp only[bL,dY]
 |d::r,o=>by
  simp only[bL,dY];exact⟨λ⟨⟨u,h1,h2,h3⟩,h4⟩=>⟨⟨u,h1,h2,(DM d u).1 h3⟩,(zX b r<|o+1).1 h4⟩,λ⟨⟨u,h1,h2,h3⟩,h4⟩=>⟨⟨u,h1,h2,(DM d u).2 h3⟩,(zX b r<|o+1).2 h4⟩⟩
theorem DZ(b an:Nat):∀(d:List<|List D) (o:Nat),fm (λi=>J<|ρ i) F w b an d o↔fm J F w b an (kl ρ d) o
 |[],o=>by simp only[kl,fm]
 |d::r,o=>by
  simp only[kl,fm,MQ];exact⟨λ⟨h1,h2,h3⟩=>⟨h1,(zX b d o).1 h2,(DZ b an r<|o+an).1 h3⟩,λ⟨h1,h2,h3⟩=>⟨h1,(zX b d o).2 h2,(DZ b an r<|o+an).2 h3⟩⟩
end
variable{o:al}
theorem KL{s:Site}:pc (λi=>J<|ρ i) F w s o↔pc J F w s (o.aP ρ):=by
 cases o with
 |row m cs =>
  simp only[al.aP,pc,MQ];exact⟨λ⟨h1,h2,h3,h4,h5,b,vals,te,k1,k2,k3,k4,k5⟩=>⟨h1,h2,h3,h4,h5,b,vals,te,k1,k2,k3,(zX b cs 0).1 k4,k5⟩,λ⟨h1,h2,h3,h4,h5,b,vals,te,k1,k2,k3,k4,k5⟩=>⟨h1,h2,h3,h4,h5,b,vals,te,k1,k2,k3,(zX b cs 0).2 k4,k5⟩⟩
 |vec m ar an xs =>
  simp only[al.aP,pc,Mi]
  exact⟨λ⟨h1,h2,h3,h4,h5,h6⟩=>⟨h1,h2,h3,h4,h5,h6.imp_right λ⟨b,o,vals,te,k1,k2,k3,k4,k5⟩=>⟨b,o,vals,te,k1,k2,k3,(DZ b an xs o).1 k4,k5⟩⟩,
   λ⟨h1,h2,h3,h4,h5,h6⟩=>⟨h1,h2,h3,h4,h5,h6.imp_right λ⟨b,o,vals,te,k1,k2,k3,k4,k5⟩=>⟨b,o,vals,te,k1,k2,k3,(DZ b an xs o).2 k4,k5⟩⟩⟩
 |dV m I=>exact Iff.rfl
theorem Jg:(o.aP ρ).mut=o.mut:=by cases o<;>rfl
end
def dK(m:Nat)(J:bh):bh:=λi=>if i<m then J i else none
section
variable{J:bh}{F:Nat->Prop}{w:bl}{m:Nat}
mutual
theorem Gw:∀(d:D) (v:aW),aK m d->rep J F w d v->rep (dK m J) F w d v
 | .dL,v,_,_=>by simp only[rep]
 | .sc u,v,_,h=>by simpa only[rep] using h
 | .loc id off,v,hu,h=>by
  simp only[aK] at hu;simp only[rep,dK,ae hu] at h⊢;exact h
 | .elt id ar i off,v,hu,h=>by
  simp only[aK] at hu;simp only[rep,dK,ae hu] at h⊢;exact h
 | .own id ar lo hi,v,hu,h=>by
  simp only[aK] at hu;simp only[rep,dK,ae hu] at h⊢;exact h
 | .mp id,v,hu,h=>by
  simp only[aK] at hu;simp only[rep,dK,ae hu] at h⊢;exact h
 | .ax cs,v,hu,h=>by
  simp only[aK] at hu;simp only[rep] at h⊢;obtain⟨b,o,h1,h2,h3⟩:=h;exact⟨b,o,h1,h2,Hq b cs o hu h3⟩
 | .aM e xs,v,hu,h=>by
  simp only[aK] at hu;simp only[rep] at h⊢;obtain⟨A,n,c,h1,h2,h3,h4⟩:=h;exact⟨A,n,c,h1,h2,h3,h4.imp_right λ⟨b,o,k1,k2,k3⟩=>⟨b,o,k1,k2,HY b e xs o hu k3⟩⟩
 | .fn f a b,v,hu,h=>by
  simp only[aK] at hu;simp only[rep] at h⊢;obtain⟨vs,us,h1,h2,h3⟩:=h;exact⟨vs,us,h1,A6 a vs hu.1 h2,A6 b us hu.2 h3⟩
 | .agg cs,v,hu,h=>by
  simp only[aK] at hu;simp only[rep] at h⊢;obtain⟨vs,h1,h2⟩:=h;exact⟨vs,h1,A6 cs vs hu h2⟩
 | .aJ cs,v,hu,h=>by
  simp only[aK] at hu;simp only[rep] at h⊢;obtain⟨vs,h1,h2⟩:=h;exact⟨vs,h1,A6 cs vs hu h2⟩
theorem A6:∀(d:List D) (v:List aW),aG m d->bA J F w d v->bA (dK m J) F w d v
 |[],v,_,h=>by simpa only[bA] using h
 |d::r,v,hu,h=>by
  simp only[aG] at hu;simp only[bA] at h⊢;obtain⟨u,us,h1,h2,h3⟩:=h;exact⟨u,us,h1,Gw d u hu.1 h2,A6 r us hu.2 h3⟩
theorem Hq(b:Nat):∀(d:List D) (o:Nat),aG m d->dY J F w b d o->dY (dK m J) F w b d o
 |[],o,_,h=>by simp only[dY]
 |d::r,o,hu,h=>by
  simp only[aG] at hu;simp only[dY] at h⊢;obtain⟨⟨u,h1,h2,h3⟩,h4⟩:=h;exact⟨⟨u,h1,h2,Gw d u hu.1 h3⟩,Hq b r (o+1) hu.2 h4⟩
theorem HY(b an:Nat):∀(d:List<|List D) (o:Nat),bB m d->fm J F w b an d o->fm (dK m J) F w b an d o
 |[],o,_,h=>by simp only[fm]
 |d::r,o,hu,h=>by
  simp only[bB] at hu;simp only[fm] at h⊢;exact⟨h.1,Hq b d o hu.1 h.2.1,HY b an r (o+an) hu.2 h.2.2⟩
end
theorem OS{s:Site}{o:al}(hu:o.under m)(h:pc J F w s o):pc (dK m J) F w s o:=by
 cases o with
 |row q cs =>
  obtain⟨h1,h2,h3,h4,h5,b,vals,te,k1,k2,k3,k4,k5⟩:=h;exact⟨h1,h2,h3,h4,h5,b,vals,te,k1,k2,k3,Hq b cs 0 hu k4,k5⟩
 |vec q ar an xs =>
  obtain⟨h1,h2,h3,h4,h5,h6⟩:=h;exact⟨h1,h2,h3,h4,h5,h6.imp_right λ⟨b,o,vals,te,k1,k2,k3,k4,k5⟩=>⟨b,o,vals,te,k1,k2,k3,HY b an xs o hu k4,k5⟩⟩
 |dV q I=>exact h
end
mutual
theorem MR:∀d:D,D.aP (λi=>i) d=d
 | .dL|.sc _|.loc ..|.elt ..|.own ..|.mp ..=>by simp only[D.aP]
 | .ax cs=>by simp only[D.aP,xh cs]
 | .aM e xs=>by simp only[D.aP,M9 xs]
 | .fn f a b=>by simp only[D.aP,xh a,xh b]
 | .agg cs=>by simp only[D.aP,xh cs]
 | .aJ cs=>by simp only[D.aP,xh cs]
theorem xh:∀d:List D,bL (λi=>i) d=d
 |[]=>by simp only[bL]
 |d::r=>by simp only[bL,MR d,xh r]
theorem M9:∀d:List<|List D,kl (λi=>i) d=d
 |[]=>by simp only[kl]
 |d::r=>by simp only[kl,xh d,M9 r]
end
theorem I5(o:al):o.aP (λi=>i)=o:=by cases o<;>simp only[al.aP,xh,M9]
open Classical in
noncomputable def back(ρ:Nat->Nat)(n:Nat)(id:Nat):Option Nat:=if h:∃i,i<n/\ρ i=id then some<|Classical.choose h else none
variable{ρ:Nat->Nat}{n:Nat}
theorem ph{id i:Nat}(h:back ρ n id=some i):i<n/\ρ i=id:=by
 unfold back at h;split at h;repeat grind
theorem Bp{id:Nat}(h:back ρ n id=none):∀i,i<n->ρ i≠id:=by
 unfold back at h;split at h;repeat grind
theorem R5{i:Nat}(inj:∀i j,i<n->j<n->ρ i=ρ j->i=j)(hi:i<n):back ρ n (ρ i)=some i:=by
 cases h:back ρ n<|ρ i with
 |none=>exact absurd rfl (Bp h i hi)
 |some j =>
  obtain⟨h1,h2⟩:=ph h
  grind
section
variable{P:bG}{f:FuncId}
theorem nY{α:Type}{l:List α}{i:Nat}{x:α}(h:l[i]? = some x):i<l.length:=by
 grind
theorem QF{args:List D}{H0 H0':List al}{d:D}(ρ:Nat->Nat)(hA:bZ P f args H0 d H0')(inj:∀i j,i<H0'.length->j<H0'.length->ρ i=ρ j->i=j){vs:List aW}{G G':Nat->Option al}(bW:cC J F w G)
  (hold:∀i o,H0[i]? = some o->G (ρ i)=some (o.aP ρ)) (pV:∀i,H0.length<=i->i<H0'.length->J (ρ i)=none) (uz:bA J F w (bL ρ args) vs)
  (h1:∀i o,H0'[i]? = some o->G' (ρ i)=some (o.aP ρ)) (h2:∀j,(∀i,i<H0'.length->ρ i≠j)->G' j=G j)
  (iG:aG H0.length args) (qg:∀o∈H0,o.under H0.length) :
  Calls P f vs.toArray w λe w'=>∃v J' F',e=.returned v/\cC J' F' w' G'/\(∀id,J' id≠none->J id≠none\/∃i,i<H0'.length/\ρ i=id)/\rep J' F' w' (D.aP ρ d) v/\Ext J F w J' F' w':=by
 obtain⟨az,Og,kR⟩:=hA;have Pd:∀i,i<H0.length->H0[i]? = some (H0[i]!):=λi hi=>by rw[List.getElem!_eq_getElem?_getD,aX hi];rfl
 have pC:cC (dK H0.length λi=>J<|ρ i) F w λi=>H0[i]?:=by
  refine⟨λi s hs=>?_,λi i' s s' b g1 g2 g3 g4=>?_,λi s b o g1 g2 g3 g4=>?_,bW.lt⟩
  ·unfold dK at hs;split at hs
   ·rename_i hi;have ho:=Pd i hi;refine⟨_,ho,OS (qg _<|o7 ho)<|KL.2 ?_⟩;obtain⟨o',q1,q2⟩:=bW.obj (ρ i) s hs;rw[hold i _ ho] at q1;cases q1;exact q2
   cases hs
  ·unfold dK at g1 g2;split at g1<;>split at g2
   ·exact inj i i' (by omega) (by omega)<|bW.one (ρ i) (ρ i') s s' b g1 g2 g3 g4
   all_goals first|cases g1|cases g2
  unfold dK at g1;split at g1
  ·exact bW.apart (ρ i) s b (o.aP ρ) g1 g2 (hold i o g3)<|by rw[Jg];exact g4
  cases g1
 have rz:∀id,dK H0.length (λi=>J<|ρ i) id≠none->id<H0.length:=λid hid=>by
  unfold dK at hid;split at hid
  ·assumption
  exact absurd rfl hid
 have LM:bA (dK H0.length λi=>J<|ρ i) F w args vs:=A6 _ _ iG<|(uG args vs).2 uz;have own0:∀b,jV (dK H0.length λi=>J<|ρ i) b->∃i s,i<H0.length/\J (ρ i)=some s/\s.cE=some b:=λb ⟨i,s,hs,hb⟩=>by
  unfold dK at hs;split at hs
  ·exact⟨i,s,by assumption,hs,hb⟩
  cases hs
 have main:=kR _ F w vs pC rz LM;refine Calls.mono main λe w' ⟨v,J0',F',he,u6,Pj,PJ,ex⟩=>?_
 let J':bh:=λid=>match back ρ H0'.length id with|some i=>J0' i|none=>J id
 have jat:∀i,i<H0'.length->J' (ρ i)=J0' i:=λi hi=>by simp only[J',R5 inj hi]
 have jno:∀id,back ρ H0'.length id=none->J' id=J id:=λid h=>by simp only[J',h]
 have hle:J.le J':=λid s hs=>by
  cases e:back ρ H0'.length id with
  |none=>exact⟨s,by rw[jno id e];exact hs,aS _,λ_=>rfl⟩
  |some i =>
   obtain⟨k1,rfl⟩:=ph e;have hi:i<H0.length:=by
    rcases gK i H0.length with q|q
    ·exact q
    rw[pV i q k1] at hs;cases hs
   obtain⟨s',g1,g2⟩:=ex.le i s (by simp only[dK,ae hi];exact hs);exact⟨s',by rw[jat i k1];exact g1,g2⟩
 have hleρ:J0'.le λi=>J'<|ρ i:=λi s hs=>⟨s,by
  dsimp only;rw[jat i<|Pj i<|by rw[hs];simp];exact hs,aS _,λ_=>rfl⟩
 have nown:∀id s b,back ρ H0'.length id=none->J id=some s->s.cE=some b->¬jV (dK H0.length λi=>J<|ρ i) b:=λid s b hb hs kv ho=>by
  obtain⟨i,s',k1,k2,k3⟩:=own0 b ho;exact Bp hb i (by omega)<|bW.one (ρ i) id s' s b k2 hs k3 kv
 refine⟨v,J',F',he,⟨λid s hs=>?_,λid jQ s s' b g1 g2 g3 g4=>?_,λid s b o g1 g2 g3 g4=>?_,u6.lt⟩,λid hid=>?_,(DM d v).1<|kO hleρ (λ_ h=>h) (λ_ _=>rfl) _ _ PJ,?_⟩
 ·cases e:back ρ H0'.length id with
  |some i =>
   obtain⟨k1,rfl⟩:=ph e;rw[jat i k1] at hs;obtain⟨o,q1,q2⟩:=u6.obj i s hs;exact⟨o.aP ρ,h1 i o q1,KL.1<|sk hleρ (λ_ h=>h) (λ_ _=>rfl) (λ_ _=>rfl) q2⟩
  |none =>
   rw[jno id e] at hs;obtain⟨o,q1,q2⟩:=bW.obj id s hs;refine⟨o,?_,sk hle ex.grow ex.frozen (λb hb=>ex.block b (bW.jk hs hb)<|nown id s b e hs hb) q2⟩;rw[h2 id λi hi=>Bp e i hi];exact q1
 ·cases e:back ρ H0'.length id with
  |some i =>
   obtain⟨k1,rfl⟩:=ph e;rw[jat i k1] at g1
   cases e':back ρ H0'.length jQ with
   |some i' =>
    obtain⟨zC,rfl⟩:=ph e';rw[jat i' zC] at g2;rw[u6.one i i' s s' b g1 g2 g3 g4]
   |none =>
    rw[jno jQ e'] at g2;rcases ex.px b ⟨i,s,g1,g3⟩ with q|q
    ·exact absurd q<|nown jQ s' b e' g2 g4
    have:=bW.jk g2 g4;omega
  |none =>
   rw[jno id e] at g1
   cases e':back ρ H0'.length jQ with
   |some i' =>
    obtain⟨zC,rfl⟩:=ph e';rw[jat i' zC] at g2;rcases ex.px b ⟨i',s',g2,g4⟩ with q|q
    ·exact absurd q<|nown id s b e g1 g3
    have:=bW.jk g1 g3;omega
   |none =>
    rw[jno jQ e'] at g2;exact bW.one id jQ s s' b g1 g2 g3 g4
 ·have rD:G' id=some o:=g3
  cases e:back ρ H0'.length id with
  |some i =>
   obtain⟨k1,rfl⟩:=ph e;rw[jat i k1] at g1;obtain⟨o0,q1,_⟩:=u6.obj i s g1;rw[h1 i o0 q1] at rD;cases rD;exact u6.apart i s b o0 g1 g2 q1<|by rw[Jg] at g4;exact g4
  |none =>
   rw[jno id e] at g1;rw[h2 id λi hi=>Bp e i hi] at rD;intro hx;rcases ex.pJ b hx with q|q|q
   ·exact bW.apart id s b o g1 g2 rD g4 q
   ·exact nown id s b e g1 g2 q
   have:=bW.jk g1 g2;omega
 ·cases e:back ρ H0'.length id with
  |some i =>
   obtain⟨k1,rfl⟩:=ph e;exact .inr ⟨i,k1,rfl⟩
  |none =>
   rw[jno id e] at hid;exact .inl hid
 refine⟨ex.os,ex.tape,ex.output,ex.size,λb hb hn=>ex.block b hb λho=>?_,ex.frozen,hle,ex.grow,λb ⟨id,s,hs,hb⟩=>?_,λb hb=>?_⟩
 ·obtain⟨i,s,_,k2,k3⟩:=own0 b ho;exact hn ⟨ρ i,s,k2,k3⟩
 ·cases e:back ρ H0'.length id with
  |some i =>
   obtain⟨k1,rfl⟩:=ph e;rw[jat i k1] at hs;refine(ex.px b ⟨i,s,hs,hb⟩).imp_left λq=>?_;obtain⟨k,s',_,k2,k3⟩:=own0 b q;exact⟨ρ k,s',k2,k3⟩
  |none =>
   rw[jno id e] at hs;exact .inl ⟨id,s,hs,hb⟩
 rcases ex.pJ b hb with q|q|q
 ·exact .inl q
 ·obtain⟨k,s',_,k2,k3⟩:=own0 b q;exact .inr (.inl ⟨ρ k,s',k2,k3⟩)
 exact .inr (.inr q)
end
end
section
section
variable{P:bG}{seq:Bool}{o:Oper}{env:Env}{H:List al}{K:qA}
variable{x:bn}
theorem zBT{src dst:bp}{k0 k:IntKind}(hs:P.underlying src=some (.int k0))(hd:P.underlying dst=some (.int k))(ho:o.op=.convert src dst x)(h:step P seq (.conv k x) env H K):Sound P o env H K:=by
 simp only[step,iq] at h;split at h
 ·rename_i q n e;refine iE (La _ _ _ h) λJ F w a G _ bd _=>⟨_,?_,rfl⟩;have k1:=bd x (by simp[ho,Op.operands]);rw[e] at k1;simp only[rep] at k1;simp[execOp,ho,k1,convert,underlying,program,Sem.run,hs,hd,Conv.intToInt,pure]
 exact h.elim
theorem s_mx{big:Bool}{args:Array bn}{ts:Array bp}{y:bn}(ha:args.toList=[x,y])(ho:o.op=.call { callee:=.builtin<|if big then .max else .min,args:=args,argTypes:=ts })(h:step P seq (.mx big x y) env H K):Sound P o env H K:=by
 obtain⟨args⟩:=args;simp only at ha;subst ha;simp only[step,iq] at h;split at h
 ·rename_i k n e1;split at h
  ·rename_i k' m e2
   cases big <;>
    (refine iE h λJ F w a G _ bd _=>⟨_,?_,rfl⟩
     have k1:=bd x (by simp[ho,Op.operands,Call.operands]);have k2:=bd y (by simp[ho,Op.operands,Call.operands]);rw[e1] at k1;rw[e2] at k2;simp only[rep] at k1 k2;have e:(if m>n then m else n)=max n m:=(by omega);have e':(if m<n then m else n)=min n m:=(by omega);have hr:=Go.run_max_int2 (P:=P) w ts o.type k k' n m;have xl:=Go.run_min_int2 (P:=P) w ts o.type k k' n m;rw[e] at hr;rw[e'] at xl;simp[execOp,ho,resolve,invoke,builtin,Sem.run_bind,Sem.run,pure,Result.andThen_ok,k1,k2,hr,xl])
  exact h.elim
 exact h.elim
theorem UY{J:bh}{F:Nat->Prop}{w:bl}:∀(cs:List D) (vs:List aW),Ck cs->bA J F w cs vs->vs=cs.map scV
 |[],vs,_,h=>by simp only[bA] at h;simp[h]
 |d::r,vs,h,k=>by
  simp only[bA] at k;obtain⟨v,us,rfl,h1,h2⟩:=k;simp only[Ck] at h
  cases d with
  |sc u =>
   simp only[isScalar] at h;simp only[rep] at h1;subst h1;rw[fR,<-UY r us h h2];rfl
  |_=>simp[isScalar] at h
theorem QL{d:D}{K':aW->Prop}(h:G2 d K'):∃key,K' key/\∀(J:bh) (F:Nat->Prop) (w:bl) (v:aW),rep J F w d v->v=key:=by
 unfold G2 at h;split at h
 ·rename_i u;exact⟨u,h,λJ F w v hv=>by simpa only[rep] using hv⟩
 ·rename_i cs;refine⟨_,h.2,λJ F w v hv=>?_⟩;simp only[rep] at hv;obtain⟨vs,rfl,k⟩:=hv;rw[UY cs vs h.1 k]
 exact h.elim
variable{t kt:bp}
theorem zyv(ho:o.op=.makeMap t none)(h:step P seq (.PE kt) env H K):Sound P o env H K:=by
 simp only[step,yg] at h;refine Es h λJ F w a G az bd cD hn=>?_
 obtain⟨h1,h2⟩:=az.TO H.length hn ⟨true,0,some ⟨w.heap.size,0,none⟩,1,1,1⟩ (.dV true<|ma P kt λ_=>none) (.map #[] 0) rfl
  ⟨rfl,w.heap.size,#[],0,rfl,heap_alloc_new w _,by simp,by simp,by simp⟩
 refine⟨.map<|some w.heap.size,_,_,F,?_,?_,h1,h2,λi hi=>by simp[hi]⟩
 ·simp only[execOp,ho,Option.map_none,Sem.run_bind,run_makeMap,Result.andThen_ok];rfl
 simp only[rep]
 grind
theorem N2{G:Nat->Option al}(h:cC J F w G){id:Nat}{v:aW}{m:Bool}{I:Array MapEntry->Prop}(h1:rep J F w (.mp id) v)(h3:G id=some (.dV m I)) :
  ∃s b es clock,J id=some s/\s.row/\s.ad=some ⟨b,0,none⟩/\v=.map (some b)/\w.heap[b]? = some (.map es clock)/\I es:=by
 simp only[rep] at h1;obtain⟨s,b,q1,q2,q3,rfl⟩:=h1;obtain⟨o,k1,k2⟩:=h.obj id s q1;rw[h3] at k1;cases k1;obtain⟨_,b',es,clock,p1,p2,p3⟩:=k2
 grind
variable{m:bn}{e:bp}
theorem zB6{z:aW}(ht:P.underlying t=some (.map kt e))(hz:(P.info? e).bind (·.zero)=some z)(qP:gC z)(ho:o.op=.lookup t m x true)(h:step P seq (.look kt z m x) env H K):Sound P o env H K:=by
 simp only[step,iq] at h;split at h
 ·rename_i id e1;obtain⟨ob,h1,h2⟩:=(lX _ _ _).1 h;split at h2
  ·rename_i mm I;obtain⟨key,⟨f,rfl,Kd,⟨l,hl⟩,hS,hN⟩,lr⟩:=QL h2
   have go:∀(ok:Bool) (v:aW),(∀(J:bh) (F:Nat->Prop) (w:bl) (a:Act) (b:Nat) (es:Array MapEntry) (clock:Nat),w.heap[b]? = some (.map es clock)->ma P kt f es->(Instr.lookup t (.map<|some b) key true).run P w=.ok (.tuple #[v,.bool ok]) w) ->
     K (.aJ [.sc v,.sc (.bool ok)]) H [id] []->Sound P o env H K:=λok v kR hK=>by
    refine iE hK λJ F w a G az bd cD=>?_;have k1:=bd m (by simp[ho,Op.operands]);have k2:=lr J F w _<|bd x (by simp[ho,Op.operands]);rw[e1] at k1;obtain⟨s,b,es,clock,q1,q2,q3,q4,q5,q6⟩:=N2 az k1 (by rw[cD id<|by simp];exact h1);refine⟨.tuple #[v,.bool ok],?_,?_⟩
    ·simp[execOp,ho,q4,k2,kR J F w a b es clock q5 q6,Sem.run,pure]
    simp only[rep];exact⟨[v,.bool ok],rfl,by simp only[bA];exact⟨v,[.bool ok],rfl,by simp only[rep],.bool ok,[],rfl,by simp only[rep],rfl⟩⟩
   cases hf:f key with
   |some v =>
    refine go true v (λJ F w a b es clock hb hI=>?_)<|hS v hf;obtain⟨i1,i2,i3⟩:=hI;rcases Kd.find w hl es.toList i1 with⟨g1,g2⟩|⟨j,e0,g1,g2,g3⟩
    ·grind
    have:=i2 e0<|o7 g2;rw[g3,hf] at this;cases this;simp[Instr.lookup,run_underlying ht,MapKept.run_getObj_map hb,Kd.check w _ hl,g1,Result.andThen]
   |none =>
    refine go false z (λJ F w a b es clock hb hI=>?_)<|hN hf;obtain⟨i1,i2,i3⟩:=hI;rcases Kd.find w hl es.toList i1 with⟨g1,g2⟩|⟨j,e0,g1,g2,g3⟩
    ·simp[Instr.lookup,run_underlying ht,MapKept.run_getObj_map hb,Kd.check w _ hl,g1,Jf hz,Result.andThen]
    repeat grind
  grind
 exact h.elim
theorem zz6(ht:P.underlying t=some (.map kt e))(ho:o.op=.lookup t m x false)(h:step P seq (.MD kt m x) env H K):Sound P o env H K:=by
 simp only[step,iq] at h;split at h
 ·rename_i id e1;obtain⟨ob,h1,h2⟩:=(lX _ _ _).1 h;split at h2
  ·rename_i mm I;obtain⟨key,⟨f,rfl,Kd,⟨l,hl⟩,v,hf,hK⟩,lr⟩:=QL h2;refine iE hK λJ F w a G az bd cD=>?_;have k1:=bd m (by simp[ho,Op.operands]);have k2:=lr J F w _<|bd x (by simp[ho,Op.operands]);rw[e1] at k1;obtain⟨s,b,es,clock,q1,q2,q3,q4,hb,hI⟩:=N2 az k1 (by rw[cD id<|by simp];exact h1);have kR:(Instr.lookup t (.map<|some b) key false).run P w=.ok v w:=by
    obtain⟨i1,i2,i3⟩:=hI;rcases Kd.find w hl es.toList i1 with⟨g1,g2⟩|⟨j,e0,g1,g2,g3⟩
    ·grind
    have:=i2 e0<|o7 g2;rw[g3,hf] at this;cases this;simp[Instr.lookup,run_underlying ht,MapKept.run_getObj_map hb,Kd.check w _ hl,g1,Result.andThen]
   refine⟨v,?_,by simp only[rep]⟩;simp[execOp,ho,q4,k2,kR,Sem.run,pure]
  grind
 exact h.elim
theorem zBP{v:bn}(ht:P.underlying t=some (.map kt e))(ho:o.op=.mapUpdate t m x v)(h:step P seq (.QD kt m x v) env H K):Sound P o env H K:=by
 simp only[step,iq] at h;split at h
 ·rename_i id e1;obtain⟨ob,h1,h2⟩:=(lX _ _ _).1 h;split at h2
  ·rename_i I;obtain⟨key,h3,lr⟩:=QL h2;split at h3
   ·rename_i u e2;obtain⟨f,rfl,Kd,⟨l,hl⟩,hf,h4⟩:=h3;obtain⟨h5,h6⟩:=(wX _ _ _ _).1 h4;refine Pm h5 h6 λJ F w a G az bd hG=>?_;have k1:=bd m (by simp[ho,Op.operands]);have k2:=lr J F w _<|bd x (by simp[ho,Op.operands]);have k3:=bd v (by simp[ho,Op.operands]);rw[e1] at k1;rw[e2] at k3;simp only[rep] at k3;obtain⟨s,b,es,clock,q1,q2,q3,q4,q5,i1,i2,i3⟩:=N2 az k1<|hG.trans h1;have iH:s.cE=some b:=(by simp[Site.cE,q2,q3]);have ky:¬F b:=az.apart id s b _ q1 iH (hG.trans h1) rfl;have hnk:∀e∈es.toList,e.key≠key:=λe he q=>by
     grind
    have zKw:(Instr.findKey kt key es.toList).run P w=.ok none w:=by
     rcases Kd.find w hl es.toList i1 with⟨g1,_⟩|⟨j,e0,_,g2,g3⟩;repeat grind
    have kR:(Instr.mapUpdate t (.map<|some b) key u).run P w=.ok () { w with heap:=w.heap.setIfInBounds b (.map (es.push { key,val:=u,born:=clock })<|clock+1) }:=by
     simp[Instr.mapUpdate,run_underlying ht,MapKept.run_getObj_map q5,Kd.check w false hl,zKw,MapKept.run_setObj_map _ q5,Result.andThen]
    have Nd:∀i,i≠b->(w.heap.setIfInBounds b (.map (es.push { key,val:=u,born:=clock })<|clock+1))[i]? = w.heap[i]?:=λi hi=>(MapKept.heap_set q5).2 i hi;have oj:∀z,F z->(w.heap.setIfInBounds b (.map (es.push { key,val:=u,born:=clock })<|clock+1))[z]? = w.heap[z]?:=λz vz=>Nd z λe=>ky<|e▸vz;refine⟨.skip,{ w with heap:=w.heap.setIfInBounds b (.map (es.push { key,val:=u,born:=clock }) (clock+1)) },?_,.inr rfl,rfl,?_,⟨rfl,rfl,rfl,by simp,λx hx hn=>Nd x λe=>hn ⟨id,s,q1,by rw[e];exact iH⟩,oj,bh.le_refl J,λ_ h=>h,λx hx=>.inl hx,λx hx=>.inl hx⟩⟩
    ·simp only[execOp,ho,q4,k2,k3,kR,Sem.run_bind,Result.andThen_ok];rfl
    refine az.update id s _ (λi=>by split;· rename_i e;rw[e];exact q1
                                    rfl) (λ_=>rfl) (bh.le_refl J) oj (by simp) (λi s' b' b9 hi hb=>Nd b' λe=>b9<|az.one i id s' s b' hi q1 hb<|e▸iH) (λb' hb=>.inr ⟨s,q1,hb⟩) (λi s' b' hi hb=>az.jk hi hb) (λb' hb _=>by rw[iH] at hb;cases hb;exact ky) ?_
    refine⟨q2,b,_,_,q3,(MapKept.heap_set q5).1,?_,?_,?_⟩
    ·grind
    ·intro e he;rw[Array.toList_push,dz,cV] at he;unfold qS;repeat grind
    intro k' v' ai;unfold qS at ai;rw[Array.toList_push];split at ai
    ·rename_i e;cases ai;exact⟨_,zy _<|cV.2 rfl,e.symm⟩
    repeat grind
   grind
  grind
 exact h.elim
end
end
section
def YD(P:bG)(o:Oper)(env:Env)(H:List al)(d:D)(H2:List al):Prop :=
 H.length<=H2.length/\∀(J:bh) (F:Nat->Prop) (w:bl) (a:Act),cC J F w (λi=>H[i]?)->(∀id,J id≠none->id<H.length)->(∀x∈o.op.operands,rep J F w (fW env x)<|a.eval x) ->
  ∀(K:Act->bl->Prop) (Q:Exit->Act->bl->Prop),
   (∀v w' J' F',rep J' F' w' d v->cC J' F' w' (λi=>H2[i]?)->Ext J F w J' F' w'->(∀id,J' id≠none->id<H2.length)->K (a.put o.dst v) w')->o.wp P a w K Q
theorem OpS.seq{P:bG}{o:Oper}{env:Env}{rd wr:List Nat}{H:List al}{d:D}{H2:List al}(h:OpS P o env rd wr H d H2):YD P o env H d H2:=by
 refine⟨h.len,λJ F w a az jH bd K Q hK=>h.run J F w a _ az bd (λ_ _=>rfl) (λid hl _=>?_) K Q λv w' J' F' h1 h2 h3 h4=>?_⟩
 ·grind
 refine hK v w' J' F' h1 ?_ h3 λid hid=>?_
 ·have:upd (λi=>H[i]?) wr H2=λi=>H2[i]?:=by
   funext i;unfold upd;split
   ·rfl
   rename_i hi;exact(h.frame i hi).symm
  grind
 rcases gK id H2.length with hl|hl
 ·exact hl
 have hw:id ∉ wr:=λhw=>by have:=h.lt id hw;omega
 have hJ:J id=none:=by
  cases e:J id with
  |none=>rfl
  |some s=>have:=jH id (by rw[e];simp);have:=h.len;omega
 grind
variable{G:Nat->Option al}
theorem cC.tW(h:cC J F w G)(hb:∀b,b<w.heap.size->w'.heap[b]? = w.heap[b]?)(eJ:w.heap.size<=w'.heap.size)(hF:∀b,F b->F' b)(MY:∀b,F' b->F b\/w.heap.size<=b)(cG:∀b,F' b->b<w'.heap.size):cC J F' w' G where
 obj id s hi:=by
  obtain⟨o,h1,h2⟩:=h.obj id s hi;exact⟨o,h1,sk (bh.le_refl J) hF (λb hx=>hb b<|h.lt b hx) (λb hx=>hb b<|h.jk hi hx) h2⟩
 one:=h.one
 apart id s b o hi hs hg hm hx:=by
  rcases MY b hx with q|q
  ·exact h.apart id s b o hi hs hg hm q
  have:=h.jk hi hs;omega
 lt:=h.lt.mono hF (λb hx=>hb b<|h.lt b hx) cG
theorem qj(b:Nat):¬jV jX b:=λ⟨_,_,h,_⟩=>by cases h
theorem Jh(J:bh):jX.le J:=λ_ _ h=>by cases h
theorem Ext.TW(az:cC J F w G)(h:Ext jX F w jX F' w'):Ext J F w J F' w' :=
 ⟨h.os,h.tape,h.output,h.size,λb hb _=>h.block b hb<|qj b,h.frozen,bh.le_refl J,h.grow,λb hb=>.inl hb,λb hb=>(h.pJ b hb).imp_right λq=>.inr<|q.resolve_left<|qj b⟩
section
variable{J:bh}{F:Nat->Prop}{w:bl}{H:List al}{G:Nat->Option al}
mutual
theorem PB(az:cC J F w G)(hG:∀(id:Nat) (o:al),H[id]? = some o->G id=some o):∀(d e:D) (v:aW),Deep H d e->rep J F w d v->rep J (λb=>F b\/jV J b) w e v
 |d,_,v,.refl _,h=>kO (bh.le_refl J) (λ_ h=>.inl h) (λ_ _=>rfl) d v h
 |_,_,v,.dL _,_=>by simp only[rep]
 |_,_,v,.none an,h=>by
  simp only[rep] at h⊢;exact⟨none,0,0,h,rfl,aS _,.inl rfl⟩
 |_,_,v,.loc id off m cs ds h k,hv=>by
  simp only[rep] at hv⊢;obtain⟨s,b,h1,h2,h3,rfl⟩:=hv;have hc:=Hl (M5 az h1 h3 (hG _ _ h)) off;refine⟨b,off,rfl,.inr ⟨id,s,h1,by simp[Site.cE,h2,h3]⟩,?_⟩;rw[lp] at hc;exact PA az hG _ _ b off k hc
 |_,_,v,.own id ar lo hi an m xs ys h k,hv=>by
  simp only[rep] at hv⊢;obtain⟨s,A,n,c,h1,rfl,h2,h3⟩:=hv;obtain⟨p1,p2,p3,p4,p5,p6⟩:=vo az h1 (hG _ _ h);obtain⟨t1,t2,t3,rfl,rfl,t6⟩:=h3 p2.symm;have hl:ys.length=hi-lo:=by
   rw[<-RA _ _ k];simp;omega
  refine⟨A,_,_,rfl,hl.symm,by omega,?_⟩;rcases t6 with t6|⟨b,o,t6,rfl⟩
  ·exact .inl<|by omega
  rcases p6 with p6|⟨b',o',vals,te,e,q1,q2,q3,q4⟩
  ·exact .inl<|by omega
  rw[t6] at e;cases e;by_cases hz:s.cap=0
  ·exact .inl<|by omega
  refine .inr ⟨b,_,rfl,.inr ⟨id,s,h1,by simp[Site.cE,hz,t6]⟩,?_⟩;rw[p3];exact Xr az hG _ _ b an _ k<|Da q3 lo hi
 |_,_,v,.fn f a b c e h k,hv=>by
  simp only[rep] at hv⊢;obtain⟨vs,us,rfl,h2,h3⟩:=hv;exact⟨vs,us,rfl,x4 az hG _ _ vs h h2,x4 az hG _ _ us k h3⟩
 |_,_,v,.agg a b h,hv=>by
  simp only[rep] at hv⊢;obtain⟨vs,rfl,h2⟩:=hv;exact⟨vs,rfl,x4 az hG _ _ vs h h2⟩
 |_,_,v,.aJ a b h,hv=>by
  simp only[rep] at hv⊢;obtain⟨vs,rfl,h2⟩:=hv;exact⟨vs,rfl,x4 az hG _ _ vs h h2⟩
theorem x4(az:cC J F w G)(hG:∀(id:Nat) (o:al),H[id]? = some o->G id=some o):∀(d e:List D) (v:List aW),jr H d e->bA J F w d v->bA J (λb=>F b\/jV J b) w e v
 |_,_,v,.nil,h=>by simp only[bA] at h⊢;exact h
 |_,_,v,.cons d e a b h k,hv=>by
  simp only[bA] at hv⊢;obtain⟨u,us,rfl,h2,h3⟩:=hv;exact⟨u,us,rfl,PB az hG _ _ u h h2,x4 az hG _ _ us k h3⟩
theorem PA(az:cC J F w G)(hG:∀(id:Nat) (o:al),H[id]? = some o->G id=some o):∀(d e:List D) (b o:Nat),jr H d e->dY J F w b d o->dY J (λb=>F b\/jV J b) w b e o
 |_,_,b,o,.nil,h=>by simp only[dY]
 |_,_,b,o,.cons d e x y h k,hv=>by
  simp only[dY] at hv⊢;obtain⟨⟨u,h1,h2,h3⟩,h4⟩:=hv;exact⟨⟨u,h1,h2,PB az hG _ _ u h h3⟩,PA az hG _ _ b (o+1) k h4⟩
theorem Xr(az:cC J F w G)(hG:∀(id:Nat) (o:al),H[id]? = some o->G id=some o):∀(d e:List<|List D) (b an o:Nat),oy H d e->fm J F w b an d o->fm J (λb=>F b\/jV J b) w b an e o
 |_,_,b,an,o,.nil,h=>by simp only[fm]
 |_,_,b,an,o,.cons d e x y h k,hv=>by
  simp only[fm] at hv⊢;obtain⟨h1,h2,h3⟩:=hv;exact⟨by rw[<-Wi _ _ h];exact h1,PA az hG _ _ b o h h2,Xr az hG _ _ b an (o+an) k h3⟩
theorem Wi:∀(d e:List D),jr H d e->d.length=e.length
 |_,_,.nil=>rfl
 |_,_,.cons d e a b _ k=>by simp[Wi a b k]
theorem RA:∀(d e:List<|List D),oy H d e->d.length=e.length
 |_,_,.nil=>rfl
 |_,_,.cons d e a b _ k=>by simp[RA a b k]
end
theorem PR{J':bh}{F':Nat->Prop}{w':bl}:∀(ds:List D) (vs:List aW),Ck ds->bA J F w ds vs->bA J' F' w' ds vs
 |[],vs,_,h=>by simp only[bA] at h⊢;exact h
 |d::r,vs,hs,h=>by
  simp only[Ck] at hs;simp only[bA] at h⊢;obtain⟨v,us,rfl,h2,h3⟩:=h
  cases e:isScalar d with
  |false=>rw[e] at hs;cases hs
  |true =>
   rw[e] at hs;refine⟨v,us,rfl,?_,PR r us hs h3⟩;cases d<;>simp[isScalar] at e;simpa only[rep] using h2
theorem zsR{d:D}{v:aW}(hb:HE d)(h:rep J F w d v):rep J' F' w' d v:=by
 cases d<;>simp[HE] at hb
 case sc=>simpa only[rep] using h
 case agg cs=>simp only[rep] at h⊢;obtain⟨vs,h1,h2⟩:=h;exact⟨vs,h1,PR cs vs hb h2⟩
 case aJ cs=>simp only[rep] at h⊢;obtain⟨vs,h1,h2⟩:=h;exact⟨vs,h1,PR cs vs hb h2⟩
end
section
variable{P:bG}{seq:Bool}{o:Oper}{env:Env}{H:List al}{K:qA}
variable{f:FuncId}
theorem AU{vs:Array aW}{a:Act}{K:Act->bl->Prop}{Q:Exit->Act->bl->Prop}{R:Ending->bl->Prop}(kR:(execOp a.eval o).run P w=.ok (.enter f vs) w)(hc:Calls P f vs w R)
  (hR:∀e w',R e w'->∃v,e=.returned v/\K (a.put o.dst v) w'):o.wp P a w K Q:=by
 unfold Oper.wp;rw[kR,Oper.upon_enter];exact hc.mono λe w' h=>by
  grind
def zn(P:bG)(o:Oper)(env:Env)(H:List al)(K:qA):Prop :=
 ∀(J:bh) (F:Nat->Prop) (w:bl) (a:Act),cC J F w (λi=>H[i]?)->(∀id,J id≠none->id<H.length)->(∀x∈o.op.operands,rep J F w (fW env x)<|a.eval x) ->
  ∀(K2:Act->bl->Prop) (Q:Exit->Act->bl->Prop),
   (∀d H2 rd wr v w' J' F',K d H2 rd wr->rep J' F' w' d v->cC J' F' w' (λi=>H2[i]?)->Ext J F w J' F' w'->(∀id,J' id≠none->id<H2.length)->K2 (a.put o.dst v) w')->o.wp P a w K2 Q
theorem Q6{d:D}{H2:List al}{rd wr:List Nat}(h:YD P o env H d H2)(hK:K d H2 rd wr):zn P o env H K:=λJ F w a az jH bd K2 Q Gm =>
 h.2 J F w a az jH bd K2 Q λv w' J' F' h1 h2 h3 h4=>Gm d H2 rd wr v w' J' F' hK h1 h2 h3 h4
theorem ztF(h:Sound P o env H K):zn P o env H K:=let⟨_,_,_,_,h1,h2⟩:=h;Q6 h1.seq h2
theorem xV:∀H:List al,y' H=H.map al.frozen
 |[]=>rfl
 |o::r=>by simp only[y',fR,xV r]
theorem Q2{args:List D}{vals:Act->List aW}(kR:∀(a:Act) (w:bl),CL P f->(∀(J:bh) (F:Nat->Prop),(∀x∈o.op.operands,rep J F w (fW env x)<|a.eval x)->(execOp a.eval o).run P w=.ok (.enter f (vals a).toArray) w))
  (iG:∀(J:bh) (F:Nat->Prop) (w:bl) (a:Act),(∀x∈o.op.operands,rep J F w (fW env x)<|a.eval x)->bA J F w args (vals a)) (h:N' P seq f args H K) :
  Sound P o env H K\/(seq=true/\zn P o env H K):=by
 rcases h with⟨d,⟨hf,hp⟩,hK⟩|⟨args',d,hd,⟨hf,hp⟩,hb,hK⟩|⟨hs,d,H2,⟨hf,hl,hp⟩,hK⟩|⟨d,H2,hu,huo,hA,hK⟩|⟨d,H2,L,hA,hK⟩|⟨hs,args',d,hd,⟨hf,hp⟩,hK⟩|⟨d,L,hA,hK⟩
 ·refine .inl ⟨d,H,[],[],⟨λ_ _=>rfl,aS _,(λ_ h=>by cases h),λJ F w a G az bd _ _ K Q hK=>?_⟩,hK⟩;refine AU (kR a w hf J F bd) (hp J F w _ az.lt<|iG J F w a bd) λe w' hR=>?_;obtain⟨v,F',rfl,h1,h2,h3⟩:=hR;refine⟨v,rfl,hK v w' J F' (kO (Jh J) (λ_ h=>h) (λ_ _=>rfl) _ _ h2) ?_ (Ext.TW az h3) λ_ h _=>h⟩;rw[AV];exact az.tW (λb hb=>h3.block b hb<|qj b) h3.size h3.grow (λb hb=>(h3.pJ b hb).imp_right λq=>q.resolve_left<|qj b) h1
 ·refine .inl ⟨d,H,List.range H.length,[],⟨λ_ _=>rfl,aS _,(λ_ h=>by cases h),λJ F w a G az bd cD _ K Q hK=>?_⟩,hK⟩;have hG:∀(id:Nat) (o:al),H[id]? = some o->G id=some o:=λid o h=>by
   rw[cD id (.inl ?_)]
   ·exact h
   rw[jz];rcases gK id H.length with hl|hl
   ·exact hl
   rw[dG hl] at h;cases h
  have cG:∀b,F b\/jV J b->b<w.heap.size:=λb hb=>hb.elim (az.lt b) λ⟨i,s,hi,hs⟩=>az.jk hi hs;refine AU (kR a w hf J F bd) (hp J _ w _ (az.lt.mono (λ_ h=>.inl h) (λ_ _=>rfl) cG)<|x4 az hG _ _ _ hd<|iG J F w a bd) λe w' hR=>?_;obtain⟨v,F',rfl,h1,h2,h3⟩:=hR;have kv:∀b,b<w.heap.size->w'.heap[b]? = w.heap[b]?:=λb hb=>h3.block b hb<|qj b;refine⟨v,rfl,hK v w' J F (zsR hb h2) ?_ ⟨h3.os,h3.tape,h3.output,h3.size,λb hb _=>kv b hb,λb hb=>kv b<|az.lt b hb,bh.le_refl J,λ_ h=>h,λb hb=>.inl hb,λb hb=>.inl hb⟩ λ_ h _=>h⟩;rw[AV];exact az.tW kv h3.size (λ_ h=>h) (λb hb=>.inl hb) λb hb=>yV (az.lt b hb) h3.size
 ·refine .inr ⟨hs,Q6 (d:=d) (H2:=H2) (rd:=[]) (wr:=[]) ⟨hl,λJ F w a az jH bd K Q hK=>?_⟩ hK⟩;refine AU (kR a w hf J F bd) (hp J F w _ az jH<|iG J F w a bd) λe w' hR=>?_;obtain⟨v,J',F',rfl,h1,h2,h3,h4⟩:=hR;exact⟨v,rfl,hK v w' J' F' h3 h1 h4 h2⟩
 ·refine .inl ⟨d,H2,yo H2.length,yo H2.length,⟨λid hid=>?_,hA.len,λid hid=>(Ah id _).1 hid,λJ F w a G az bd cD AD K Q hK=>?_⟩,hK⟩
  ·have h1:¬id<H2.length:=λh=>hid<|(Ah id _).2 h;have:=hA.len;rw[dG<|by omega,dG<|by omega]
  have core:=QF (G:=G) (G':=upd G (yo H2.length) H2) (λi=>i) hA (λi j _ _ h=>h) az (λi o ho=>by
   rw[I5,cD i (.inl<|(Ah i _).2<|yV (nY ho) hA.len)];exact ho) (λi h1 h2=>AD i h1<|(Ah i _).2 h2) (by rw[xh];exact iG J F w a bd) (λi o ho=>by
   rw[I5];unfold upd;rw[ae<|(Ah i _).2<|nY ho];exact ho) (λj hj=>by
   unfold upd;rw[ab λh=>hj j ((Ah j _).1 h) rfl]) hu (CB huo)
  refine AU (kR a w hA.ok J F bd) core λe w' hR=>?_;obtain⟨v,J',F',rfl,h1,h2,h3,h4⟩:=hR;rw[MR] at h3;refine⟨v,rfl,hK v w' J' F' h3 h1 h4 λid hid hw=>?_⟩
  cases e:J' id with
  |none=>rfl
  |some s =>
   rcases h2 id (by rw[e];simp) with q|⟨i,q1,q2⟩
   ·exact absurd hid q
   subst q2;exact absurd ((Ah i _).2 q1) hw
 ·refine .inl ⟨d,H2,L,L,⟨λid hid=>hA.frame id hid,hA.len,λid hid=>hA.lt id hid,λJ F w a G az bd cD AD K Q hK=>?_⟩,hK⟩;refine AU (kR a w hA.ok J F bd) (hA.run J F w _ G az (λid hid=>cD id (.inl hid)) (λid hid h=>AD id h hid)<|iG J F w a bd) λe w' hR=>?_;obtain⟨v,J',F',rfl,h1,h2,h3,h4⟩:=hR;refine⟨v,rfl,hK v w' J' F' h3 h1 h4 λid hid hw=>?_⟩
  cases e:J' id with
  |none=>rfl
  |some s =>
   rcases h2 id (by rw[e];simp) with q|q
   ·exact absurd hid q
   exact absurd q hw
 ·refine .inr ⟨hs,λJ F w a az jH bd K2 Q Gm=>?_⟩;have cG:∀b,F b\/jV J b->b<w.heap.size:=λb hb=>hb.elim (az.lt b) λ⟨i,s,hi,hs⟩=>az.jk hi hs;refine AU (kR a w hf J F bd) (hp J (λb=>F b\/jV J b) w _ (az.lt.mono (λ_ h=>.inl h) (λ_ _=>rfl) cG)<|x4 az (λ_ _ h=>h) _ _ _ hd<|iG J F w a bd) λe w' hR=>?_;obtain⟨v,F',rfl,h1,h2,h3⟩:=hR;have kv:∀b,b<w.heap.size->w'.heap[b]? = w.heap[b]?:=λb hb=>h3.block b hb<|qj b;refine⟨v,rfl,Gm d _ [] [] v w' J F' hK (kO (Jh J) (λ_ h=>h) (λ_ _=>rfl) _ _ h2) ⟨λi s hs=>?_,az.one,λi s b o g1 g2 g3 g4=>?_,az.lt.mono (λb hb=>h3.grow b (.inl hb)) (λb hb=>kv b<|az.lt b hb) h1⟩ ?_ λid hid=>?_⟩
  ·obtain⟨o,q1,q2⟩:=az.obj i s hs;refine⟨o.frozen,?_,?_⟩
   ·rw[xV,fx,q1];rfl
   have q3:=sk (J':=J) (F':=F') (w':=w') (bh.le_refl J) (λb hb=>h3.grow b (.inl hb)) (λb hb=>kv b<|az.lt b hb) (λb hb=>kv b<|az.jk hs hb) q2
   cases o with
   |row m cs =>
    obtain⟨k1,k2,k3,k4,k5,b,vals,te,t1,t2,t3,t4,t5⟩:=q3;exact⟨k1,k2,k3,k4,k5,b,vals,te,t1,t2,t3,t4,λ_=>h3.grow b (.inr ⟨i,s,hs,by simp[Site.cE,k1,t1]⟩)⟩
   |vec m v e xs =>
    obtain⟨k1,k2,k3,k4,k5,k6⟩:=q3;refine⟨k1,k2,k3,k4,k5,?_⟩;by_cases hz:s.cap=0
    ·exact .inl hz
    rcases k6 with k6|⟨b,o,vals,te,t1,t2,t3,t4,t5⟩
    ·exact .inl k6
    exact .inr ⟨b,o,vals,te,t1,t2,t3,t4,λ_=>h3.grow b (.inr ⟨i,s,hs,by simp[Site.cE,k1,hz,t1]⟩)⟩
   |dV m I=>exact q3
  ·exfalso;rw[xV,fx] at g3
   cases e:H[i]? with
   |none=>rw[e] at g3;cases g3
   |some x =>
    rw[e] at g3;cases x<;>cases g3<;>cases g4
  ·exact⟨h3.os,h3.tape,h3.output,h3.size,λb hb _=>kv b hb,λb hb=>kv b<|az.lt b hb,bh.le_refl J,λb hb=>h3.grow b (.inl hb),λb hb=>.inl hb,λb hb=>by
    rcases h3.pJ b hb with q|q|q
    ·rcases q with q|q
     ·exact .inl q
     exact .inr (.inl q)
    ·exact absurd q<|qj b
    exact .inr (.inr q)⟩
  have:=jH id hid;rw[xV,aI];exact this
 refine .inl ⟨d,H,L,[],⟨λ_ _=>rfl,aS _,(λ_ h=>by cases h),λJ F w a G az bd cD _ K Q hK=>?_⟩,hK⟩;refine AU (kR a w hA.ok J F bd) (hA.run J F w _ G az (λid hid=>cD id (.inl hid))<|iG J F w a bd) λe w' hR=>?_;obtain⟨v,J',F',rfl,h1,h2,h3,h4⟩:=hR;refine⟨v,rfl,hK v w' J' F' h3 (by rw[AV];exact h1) h4 λid hid _=>?_⟩
 cases e:J' id with
 |none=>rfl
 |some s=>exact absurd hid<|h2 id<|by rw[e];simp
theorem LY{J:bh}{F:Nat->Prop}{w:bl}{a:Act}:∀(xs:List bn),(∀x∈xs,rep J F w (fW env x)<|a.eval x)->bA J F w (xs.map<|fW env) (xs.map a.eval)
 |[],_=>by simp only[jc,bA]
 |x::r,h=>by
  simp only[fR,bA];exact⟨_,_,rfl,h x<|by simp,LY r λy hy=>h y<|by simp[hy]⟩
theorem Sb{args:Array aW}(h:CL P f):(callFunc f args).run P w=.ok (.enter f args) w:=by
 obtain⟨fn,h1,h2,h3⟩:=h;simp only[beq_eq_false_iff_ne,ne_eq] at h2;simp[callFunc,program,Sem.run,h1,h2,pure]
 grind
variable{args:Array bn}{ts:Array bp}
theorem zBy(ho:o.op=.call { callee:=.value (.func f),args,argTypes:=ts })(h:step P seq (.call f args.toList) env H K) :
  Sound P o env H K\/(seq=true/\zn P o env H K):=by
 simp only[step,Ks] at h;refine Q2 (vals:=λa=>args.toList.map a.eval) (λa w hf J F bd=>?_) (λJ F w a bd=>LY _ λx hx=>bd x ?_) h
 ·have e1:args.map a.eval=(args.toList.map a.eval).toArray:=(by apply Array.ext';simp);simp[execOp,ho,resolve,Deferred.ofValue,Act.eval,invoke,Sb hf,Sem.run,pure,e1]
 simp[ho,Op.operands,Call.operands];exact .inr<|by simpa using hx
variable{x:bn}
theorem zyZ(ho:o.op=.call { callee:=.value x,args,argTypes:=ts })(h:step P seq (.Qf x args.toList) env H K) :
  Sound P o env H K\/(seq=true/\zn P o env H K):=by
 simp only[step,iq,Ks] at h;split at h
 ·rename_i f first cap e
  have Bn:∀(J:bh) (F:Nat->Prop) (w:bl) (a:Act),(∀x∈o.op.operands,rep J F w (fW env x)<|a.eval x)->∃vs us,a.eval x=.func (.func f) vs.toArray us.toArray/\bA J F w first vs/\bA J F w cap us:=λJ F w a bd=>by
   have:=bd x (by simp[ho,Op.operands,Call.operands]);rw[e] at this;simpa only[rep] using this
  refine Q2 (vals:=λa=>match a.eval x with
   | .func _ vs us=>vs.toList++args.toList.map a.eval++us.toList
   |_=>[]) (λa w hf J F bd=>?_) (λJ F w a bd=>?_) h
  ·obtain⟨vs,us,e1,_,_⟩:=Bn J F w a bd;simp only[e1];simp only[execOp,ho,resolve,e1,Deferred.ofValue,pure,Sem.run_bind,Sem.run,Result.andThen_ok,invoke,Sb hf]
   congr 2
   apply Array.ext';simp
  obtain⟨vs,us,e1,e2,e3⟩:=Bn J F w a bd;simp only[e1];refine Gx (Gx (by simpa using e2)<|LY _ λy hy=>bd y ?_) (by simpa using e3);simp[ho,Op.operands,Call.operands];exact .inr<|by simpa using hy
 exact h.elim
theorem zxw{t u e:bp}{y:bn}{z:aW}(ha:args.toList=[x,y])(kF:ts.toList=[t,u])(ht:P.underlying t=some (.slice e))(hu:(∃e',P.underlying u=some (.slice e'))\/P.underlying u=some .string)(hz:(P.info? e).bind (·.zero)=some z)(yw:z.cells.size=P.cellsOf e)(lO:0<P.cellsOf e)(BU:0<P.bytesOf e)
  (ho:o.op=.call { callee:=.builtin .append,args,argTypes:=ts }) (h:step P seq (.append (P.cellsOf e) (P.bytesOf e) x y<|Nat.beq e Kt) env H K):Sound P o env H K:=by
 have ea:args=#[x,y]:=Array.ext' (by simpa using ha);have et:ts=#[t,u]:=Array.ext' (by simpa using kF);subst ea et;simp only[step,iq] at h;obtain⟨ys,rd,h,hy⟩:=zuf (P:=P) hu h;split at h
 ·rename_i e1;obtain⟨h1,h2⟩:=h;rw[yg] at h2;exact zmo ht hz yw lO BU rfl ho e1 hy h1 h2
 ·rename_i id ar lo hi e1;obtain⟨ob,h1,h2⟩:=(lX _ _ _).1 h;split at h2
  ·rename_i bY oh zs q;obtain⟨hv,h2⟩:=h2;subst hv;obtain⟨he,h4⟩:=(rH _ _ _).1 h2;subst he;obtain⟨hq,h3,h4⟩:=zvU h4;obtain⟨_,h5⟩:=(wX _ _ _ _).1 h4;exact zlR (by cases q<;>first|rfl|exact(Bz<|hq rfl).symm) ht hz yw lO BU rfl ho e1 h1 hy h3 h5
  grind
 exact h.elim
end
end
end Go.Proofs.YtmajadpcpohneaaGreatDoor
