/-
  Parts of a proof, joined. No statement is proved here.
-/
import Derived.WalkKit
import Derived.Below
import Derived.Lib.Hide
import Derived.Laws.MakeOwn
import Derived.Laws.Append
import Derived.Deep.AppendSrc
import Derived.Maps.Keyed
import Derived.Laws.BytesString
import Derived.Carry
namespace Go.Proofs.YtaalipopcddnjaaGreatDoor
set_option linter.unusedSimpArgs false
set_option linter.unusedVariables false
set_option maxRecDepth 100000
set_option linter.unusedSectionVars false
theorem ay : type_of% @List.getD_eq_getElem?_getD := @List.getD_eq_getElem?_getD
theorem aa : type_of% @if_neg := @if_neg
theorem aG : type_of% @List.getElem?_eq_getElem := @List.getElem?_eq_getElem
theorem ae : type_of% @if_pos := @if_pos
theorem aS : type_of% @List.length_map := @List.length_map
theorem aI : type_of% @Nat.le_refl := @Nat.le_refl
theorem bS : type_of% @Int.toNat_natCast := @Int.toNat_natCast
theorem db : type_of% @List.getElem?_eq_none := @List.getElem?_eq_none
theorem dJ : type_of% @List.getElem?_append_left := @List.getElem?_append_left
theorem cj : type_of% @List.length_cons := @List.length_cons
theorem cL : type_of% @List.length_append := @List.length_append
theorem cM : type_of% @List.mem_singleton := @List.mem_singleton
theorem cy : type_of% @List.getElem?_map := @List.getElem?_map
theorem fc : type_of% @List.getElem?_append_right := @List.getElem?_append_right
theorem c6 : type_of% @decide_eq_true_eq := @decide_eq_true_eq
theorem de : type_of% @List.mem_append := @List.mem_append
theorem b9 : type_of% @Nat.zero_le := @Nat.zero_le
theorem fF : type_of% @List.take_of_length_le := @List.take_of_length_le
theorem dL : type_of% @Bool.and_eq_true := @Bool.and_eq_true
theorem bK : type_of% @congrArg := @congrArg
theorem dE : type_of% @List.length_nil := @List.length_nil
theorem cU : type_of% @List.mem_map := @List.mem_map
theorem c7 : type_of% @Nat.lt_or_ge := @Nat.lt_or_ge
theorem dD : type_of% @List.mem_cons := @List.mem_cons
theorem gY : type_of% @ByteArray.size_append := @ByteArray.size_append
theorem eW : type_of% @List.mem_range := @List.mem_range
theorem dR : type_of% @List.map_cons := @List.map_cons
theorem fU : type_of% @IntKind.wrap_i64 := @IntKind.wrap_i64
theorem ft : type_of% @List.drop_zero := @List.drop_zero
theorem gz : type_of% @List.take_length := @List.take_length
theorem jt : type_of% @List.length_singleton := @List.length_singleton
theorem gZ : type_of% @List.size_toArray := @List.size_toArray
theorem gO : type_of% @List.length_take := @List.length_take
theorem gx : type_of% @decide_eq_false := @decide_eq_false
theorem gb : type_of% @decide_eq_true := @decide_eq_true
theorem ig : type_of% @List.getElem_mem := @List.getElem_mem
theorem kn : type_of% @List.mem_iff_getElem := @List.mem_iff_getElem
theorem kI : type_of% @List.mem_of_getElem? := @List.mem_of_getElem?
theorem iR : type_of% @List.any_eq_true := @List.any_eq_true
theorem jh : type_of% @Bool.or_eq_true := @Bool.or_eq_true
theorem gP : type_of% @List.map_nil := @List.map_nil
theorem nh : type_of% @List.length_eq_zero_iff := @List.length_eq_zero_iff
theorem ia : type_of% @Nat.le_trans := @Nat.le_trans
theorem kv : type_of% @List.all_eq_true := @List.all_eq_true
theorem nb : type_of% @List.contains_iff_mem := @List.contains_iff_mem
theorem kj : type_of% @Bool.eq_iff_iff := @Bool.eq_iff_iff
theorem ld : type_of% @List.take_add_one := @List.take_add_one
theorem gC : type_of% @beq_iff_eq := @beq_iff_eq
theorem qH : type_of% @Array.getElem?_eq_getElem := @Array.getElem?_eq_getElem
theorem iJ : type_of% @Nat.add_mul := @Nat.add_mul
theorem l8 : type_of% @List.append_assoc := @List.append_assoc
theorem jZ : type_of% @Bool.true_and := @Bool.true_and
theorem jP : type_of% @Nat.zero_add := @Nat.zero_add
theorem mi : type_of% @List.length_drop := @List.length_drop
theorem mP : type_of% @Bool.not_eq_true := @Bool.not_eq_true
theorem mJ : type_of% @List.cons_append := @List.cons_append
theorem mq : type_of% @List.map_append := @List.map_append
theorem uJ : type_of% @Array.getD_eq_getD_getElem? := @Array.getD_eq_getD_getElem?
theorem pN : type_of% @List.getElem?_range := @List.getElem?_range
theorem kN : type_of% @Nat.add_zero := @Nat.add_zero
theorem sy : type_of% @List.getElem?_replicate := @List.getElem?_replicate
theorem uu : type_of% @List.drop_eq_getElem_cons := @List.drop_eq_getElem_cons
theorem oG : type_of% @Bool.not_eq_true' := @Bool.not_eq_true'
theorem oP : type_of% @List.any_eq_false := @List.any_eq_false
theorem m9 : type_of% @List.nil_append := @List.nil_append
theorem nG : type_of% @List.mem_filter := @List.mem_filter
theorem oV : type_of% @Option.some.inj := @Option.some.inj
theorem tE : type_of% @Nat.mul_le_mul_right := @Nat.mul_le_mul_right
theorem mE : type_of% @Nat.sub_self := @Nat.sub_self
theorem oR : type_of% @List.append_nil := @List.append_nil
theorem pe : type_of% @Option.getD_some := @Option.getD_some
theorem wA : type_of% @decide_eq_false_iff_not := @decide_eq_false_iff_not
theorem vI : type_of% @Nat.add_sub_cancel_left := @Nat.add_sub_cancel_left
theorem u6 : type_of% @Nat.exists_eq_add_of_le := @Nat.exists_eq_add_of_le
theorem xc : type_of% @List.pairwise_iff_getElem := @List.pairwise_iff_getElem
theorem nT : type_of% @Nat.add_assoc := @Nat.add_assoc
theorem qX : type_of% @List.ext_getElem? := @List.ext_getElem?
theorem wI : type_of% @List.mem_append_right := @List.mem_append_right
theorem qa : type_of% @List.range_succ := @List.range_succ
theorem uy : type_of% @List.map_congr_left := @List.map_congr_left
theorem th : type_of% @Bool.eq_false_iff := @Bool.eq_false_iff
theorem tk : type_of% @of_decide_eq_true := @of_decide_eq_true
theorem x' : type_of% @Array.getElem?_eq_none := @Array.getElem?_eq_none
theorem qG : type_of% @Bool.false_and := @Bool.false_and
theorem tt : type_of% @List.not_mem_nil := @List.not_mem_nil
theorem wz : type_of% @List.getD_cons_succ := @List.getD_cons_succ
theorem ue : type_of% @Nat.lt_trichotomy := @Nat.lt_trichotomy
theorem vq : type_of% @List.getElem?_drop := @List.getElem?_drop
theorem vY : type_of% @Nat.lt_of_lt_of_le := @Nat.lt_of_lt_of_le
theorem xk : type_of% @List.getElem?_set_ne := @List.getElem?_set_ne
theorem tJ : type_of% @Nat.min_eq_left := @Nat.min_eq_left
theorem vM : type_of% @Nat.eq_zero_or_pos := @Nat.eq_zero_or_pos
theorem xU : type_of% @List.mem_append_left := @List.mem_append_left
theorem w7 : type_of% @Int.toNat_of_nonneg := @Int.toNat_of_nonneg
theorem wG : type_of% @List.getElem?_set := @List.getElem?_set
theorem rK : type_of% @Bool.false_or := @Bool.false_or
theorem zS : type_of% @List.length_replicate := @List.length_replicate
theorem zr : type_of% @List.length_filter_le := @List.length_filter_le
theorem IY : type_of% @List.findIdx?_eq_some_iff_getElem := @List.findIdx?_eq_some_iff_getElem
theorem xv : type_of% @List.getElem?_take := @List.getElem?_take
theorem HB : type_of% @Array.getElem?_setIfInBounds_ne := @Array.getElem?_setIfInBounds_ne
theorem AF : type_of% @List.length_pos_iff := @List.length_pos_iff
theorem Ch : type_of% @Nat.eq_of_beq_eq_true := @Nat.eq_of_beq_eq_true
theorem yQ : type_of% @Bool.false_eq_true := @Bool.false_eq_true
theorem ya : type_of% @Nat.mod_eq_of_lt := @Nat.mod_eq_of_lt
theorem wX : type_of% @List.drop_length := @List.drop_length
theorem uL : type_of% @Bool.or_false := @Bool.or_false
theorem Gn : type_of% @Array.getElem?_setIfInBounds := @Array.getElem?_setIfInBounds
theorem CB : type_of% @List.mem_of_mem_take := @List.mem_of_mem_take
theorem Fv : type_of% @List.getElem?_cons_succ := @List.getElem?_cons_succ
theorem zn : type_of% @List.nodup_append := @List.nodup_append
theorem xg : type_of% @Option.map_some := @Option.map_some
theorem FU : type_of% @List.getElem?_set_self := @List.getElem?_set_self
theorem FT : type_of% @List.drop_eq_nil_of_le := @List.drop_eq_nil_of_le
theorem yF : type_of% @List.filter_cons := @List.filter_cons
theorem DH : type_of% @Array.getElem?_toList := @Array.getElem?_toList
theorem A3 : type_of% @Option.toList_some := @Option.toList_some
theorem yg : type_of% @Nat.mul_le_mul := @Nat.mul_le_mul
theorem yS : type_of% @List.length_set := @List.length_set
theorem EH : type_of% @List.mem_cons_of_mem := @List.mem_cons_of_mem
theorem Dw : type_of% @Nat.pow_le_pow_right := @Nat.pow_le_pow_right
theorem Om : type_of% @List.drop_append_of_le_length := @List.drop_append_of_le_length
theorem Ey : type_of% @List.take_succ_cons := @List.take_succ_cons
theorem FV : type_of% @List.drop_succ_cons := @List.drop_succ_cons
theorem zC : type_of% @List.take_zero := @List.take_zero
theorem AT : type_of% @List.ext_getElem := @List.ext_getElem
theorem C0 : type_of% @Option.bind_some := @Option.bind_some
theorem xS : type_of% @Nat.sub_zero := @Nat.sub_zero
theorem Ks : type_of% @List.idxOf_lt_length_of_mem := @List.idxOf_lt_length_of_mem
theorem Da : type_of% @List.filter_append := @List.filter_append
theorem BG : type_of% @List.any_append := @List.any_append
theorem yE : type_of% @Bool.and_true := @Bool.and_true
theorem MI : type_of% @Int.fdiv_eq_ediv_of_nonneg := @Int.fdiv_eq_ediv_of_nonneg
theorem Ej : type_of% @List.map_toArray := @List.map_toArray
theorem D1 : type_of% @List.mem_flatMap := @List.mem_flatMap
theorem Jh : type_of% @List.getD_cons_zero := @List.getD_cons_zero
theorem BO : type_of% @Bool.not_true := @Bool.not_true
theorem Dn : type_of% @List.all_append := @List.all_append
theorem AE : type_of% @Nat.mul_one := @Nat.mul_one
abbrev ak := List (List Int)
abbrev af := List Int
abbrev aq := Nat → Bool
abbrev aM:=ByteArray
abbrev aT:=Operand
abbrev bt:=Program
abbrev aY:=TypeId
abbrev aH:=Value
abbrev aU:=World
open Go.RowKit
theorem oo:(∀{α:Type} [BEq α] [LawfulBEq α] {a b:α},(a != b)↔a≠b)/\(∀{α:Type} (a b:α),(a≠b)=¬a=b)/\(∀{α:Type} [BEq α] [LawfulBEq α] {a b:α},(a != b)=false↔a=b) /\
  (∀{α:Type} [BEq α] [LawfulBEq α] {a b:α},(a==b)↔a=b)/\(∀{α:Type} [BEq α] [LawfulBEq α] {a b:α},(a==b)=false↔a≠b)/\(∀{p:Prop} [Decidable p],(decide p=true)=p)/\(∀{p:Prop} [Decidable p],decide p=false↔¬p) /\
  (∀{α β:Type} {as:List α} (f:α->β),(List.map f as).length=as.length)/\(∀b:Bool,(¬b)=(b=false))/\(∀b:Bool,(¬b=false)=(b=true))/\(∀a b:Bool,((a&&b)=true)=(a=true/\b))/\(∀a b:Bool,((a||b)=true)=(a=true\/b)) /\
  (∀{x y:Bool},(x&&y)=false↔x=false\/y=false)/\(∀{x y:Bool},(x||y)=false↔x=false/\y=false)/\(∀b:Bool,((!b)=true)=(b=false))/\(∀b:Bool,((!b)=false)=(b=true))/\(!true)=false/\(!false)=true /\
  (∀{a b:Bool},(!a)=b↔a=!b)/\(¬True)=False/\(¬False)=True/\(∀b:Bool,(true||b))/\(∀b:Bool,(false||b)=b)/\(∀b:Bool,(b||true))/\(∀b:Bool,(b||false)=b)/\(∀b:Bool,(true&&b)=b)/\(∀b:Bool,(b&&true)=b) /\
  (∀b:Bool,(false&&b)=false)/\(∀b:Bool,(b&&false)=false)/\(∀p:Prop,(True/\p)=p)/\(∀p:Prop,(p/\True)=p)/\(∀p:Prop,(p\/False)=p)/\(∀p:Prop,(False\/p)=p)/\(∀p:Prop,(True\/p)=True)/\(∀p:Prop,(p\/True)=True) /\
  (∀p:Prop,(False/\p)=False)/\(∀p:Prop,(p/\False)=False)/\(true=false)=False/\(false=true)=False :=
 ⟨bne_iff_ne,ne_eq,bne_eq_false_iff_eq,gC,beq_eq_false_iff_ne,c6,wA,aS,mP,Bool.not_eq_false,dL,jh,Bool.and_eq_false_iff,Bool.or_eq_false_iff,oG,Bool.not_eq_false',BO,Bool.not_false,
  Bool.not_eq_eq_eq_not,not_true_eq_false,not_false_eq_true,Bool.true_or,rK,Bool.or_true,uL,jZ,yE,qG,Bool.and_false,true_and,and_true,or_false,false_or,true_or,or_true,false_and,and_false,Bool.true_eq_false,yQ⟩
theorem ll:(∀{α β:Type} {as:List α} (f:α->β),(List.map f as).length=as.length)/\(∀{α:Type} {a:α} {as:List α},(a::as).length=as.length+1)/\(∀{α:Type},([]:List α).length=0)/\(∀{α:Type} {as bs:List α},(as++bs).length=as.length+bs.length) /\
  (∀{α:Type} {i:Nat} {l:List α},(l.take i).length=min i l.length)/\(∀{α:Type} {i:Nat} {l:List α},(l.drop i).length=l.length-i)/\(∀{α:Type} {l:List α},l.drop 0=l)/\(∀{α:Type} {a:α} {as:List α} {i:Nat},(a::as).take (i+1)=a::as.take i)/\(∀{α:Type} {l:List α},l.take 0=[]) :=
 ⟨aS,cj,dE,cL,gO,mi,ft,Ey,zC⟩
inductive D where
 |dB
 |sc (v:aH)
 |loc (id off:Nat)
 |elt (id aw i off:Nat)
 |aN (cs:List D)
 |a8 (ai:Nat) (xs:List (List D))
 |own (id aw lo hi:Nat)
 |fn (f:Fn) (first cap:List D)
 |ifc (t:aY) (d:D)
 |agg (cs:List D)
 |aJ (cs:List D)
 |mp (id:Nat)
 |gv (g:Nat)
 deriving Inhabited
inductive an where
 |row (m:Bool) (cs:List D)
 |vec (m:Bool) (aw ai:Nat) (xs:List (List D))
 |dI (m:Bool) (I:Array MapEntry->Prop)
 deriving Inhabited
structure Site where
 row:Bool
 aw:Nat
 ad:Option Addr
 ai:Nat
 cap:Nat
 len:Nat
def Site.cP(s:Site):Option Nat:=if s.row=false/\s.cap=0 then none else s.ad.map (·.block)
abbrev aX:=Nat->Option Site
def fH:aH->Bool
 | .agg _|.tuple _=>false
 |_=>true
section
variable(J:aX)(F:Nat->Prop)(w:aU)
mutual
def rep:D->aH->Prop
 | .dB,_=>True
 | .sc u,v=>v=u
 | .loc id off,v=>∃s b,J id=some s/\s.row=true/\s.ad=some ⟨b,0,none⟩/\v=.pointer (some ⟨b,off,none⟩)
 | .elt id aw i off,v=>∃s a,J id=some s/\v=.pointer (some a)/\aw<=s.aw/\(aw=s.aw->∃b o,s.row=false/\s.ad=some ⟨b,o,none⟩/\i<s.len/\a=⟨b,o+i*s.ai+off,none⟩)
 | .aN cs,v=>∃b o,v=.pointer (some ⟨b,o,none⟩)/\F b/\dM b cs o
 | .a8 ai xs,v=>∃A n c,v=.slice A n c/\n=xs.length/\n<=c/\(n=0\/∃b o,A=some ⟨b,o,none⟩/\F b/\eU b ai xs o)
 | .own id aw lo hi,v=>∃s A n c,J id=some s/\v=.slice A n c/\aw<=s.aw/\(aw=s.aw->s.row=false/\lo<=hi/\hi<=s.len/\n=hi-lo/\c=s.cap-lo/\(s.cap=lo\/∃b o,s.ad=some ⟨b,o,none⟩/\A=some ⟨b,o+lo*s.ai,none⟩))
 | .fn f first cap,v=>∃vs us,v=.func f vs.toArray us.toArray/\bj first vs/\bj cap us
 | .ifc t d,v=>∃u,v=.iface t u/\rep d u
 | .agg cs,v=>∃vs,v=.agg vs.toArray/\bj cs vs
 | .aJ cs,v=>∃vs,v=.tuple vs.toArray/\bj cs vs
 | .mp id,v=>∃s b,J id=some s/\s.row=true/\s.ad=some ⟨b,0,none⟩/\v=.map (some b)
 | .gv g,v=>F g/\w.cell? ⟨g,0,none⟩=some v/\fH v=true
def bj:List D->List aH->Prop
 |[],vs=>vs=[]
 |d::ds,vs=>∃v us,vs=v::us/\rep d v/\bj ds us
def dM(b:Nat):List D->Nat->Prop
 |[],_=>True
 |c::r,o=>(∃u,w.cell? ⟨b,o,none⟩=some u/\fH u=true/\rep c u)/\dM b r (o+1)
def eU(b ai:Nat):List (List D)->Nat->Prop
 |[],_=>True
 |x::r,o=>x.length=ai/\dM b x o/\eU b ai r (o+ai)
end
end
def aX.le(J J':aX):Prop:=∀id s,J id=some s->∃s',J' id=some s'/\s.aw<=s'.aw/\(s.aw=s'.aw\/s.row->s'=s)
variable(J:aX)
theorem aX.le_refl:J.le J:=λ_ s h=>⟨s,h,aI _,λ_=>rfl⟩
variable{J':aX}
theorem aX.le_trans{J J'':aX}(h:J.le J')(k:J'.le J''):J.le J'':=λid s e=>by
 obtain⟨s1,e1,l1,q1⟩:=h id s e;obtain⟨s2,e2,l2,q2⟩:=k id s1 e1;refine⟨s2,e2,ia l1 l2,λq=>?_⟩;rcases q with q|q
 ·rw[q2 (.inl<|by omega),q1 (.inl<|by omega)]
 have h1:=q1 (.inr q);subst h1;exact q2 (.inr q)
variable{w w':aU}
theorem yM{b:Nat}(h:w'.heap[b]? = w.heap[b]?)(o:Nat):w'.cell? ⟨b,o,none⟩=w.cell? ⟨b,o,none⟩:=by
 simp only[World.cell?,h]
section
variable{J J':aX}{F F':Nat->Prop}{w w':aU}
mutual
theorem js(hJ:J.le J')(hF:∀b,F b->F' b)(hw:∀b,F b->w'.heap[b]? = w.heap[b]?):∀(d:D) (v:aH),rep J F w d v->rep J' F' w' d v
 | .dB,v,_=>by simp only[rep]
 | .sc u,v,h=>by simpa only[rep] using h
 | .loc id off,v,h=>by
  simp only[rep] at h⊢;obtain⟨s,b,h1,h2,h3,h4⟩:=h;obtain⟨s',e,_,q⟩:=hJ id s h1;rw[q (.inr h2)] at e;exact⟨s,b,e,h2,h3,h4⟩
 | .elt id aw i off,v,h=>by
  simp only[rep] at h⊢;obtain⟨s,a,h1,h4,h2,h3⟩:=h;obtain⟨s',e,l,q⟩:=hJ id s h1;refine⟨s',a,e,h4,by omega,λq'=>?_⟩;rw[q (.inl (by omega))];exact h3 (by omega)
 | .aN cs,v,h=>by
  simp only[rep] at h⊢;obtain⟨b,o,h1,h2,h3⟩:=h;exact⟨b,o,h1,hF b h2,DC hJ hF hw b (yM (hw b h2)) cs o h3⟩
 | .a8 ai xs,v,h=>by
  simp only[rep] at h⊢;obtain⟨A,n,c,h1,h2,hc,h3⟩:=h;refine⟨A,n,c,h1,h2,hc,h3.imp id λ⟨b,o,h4,h5,h6⟩=>⟨b,o,h4,hF b h5,IW hJ hF hw b ai (yM (hw b h5)) xs o h6⟩⟩
 | .own id aw lo hi,v,h=>by
  simp only[rep] at h⊢;obtain⟨s,A,n,c,h1,h4,h2,h3⟩:=h;obtain⟨s',e,l,q⟩:=hJ id s h1;refine⟨s',A,n,c,e,h4,by omega,λq'=>?_⟩;rw[q (.inl (by omega))];exact h3 (by omega)
 | .fn f first cap,v,h=>by
  simp only[rep] at h⊢;obtain⟨vs,us,h1,h2,h3⟩:=h;exact⟨vs,us,h1,Aa hJ hF hw first vs h2,Aa hJ hF hw cap us h3⟩
 | .ifc t d,v,h=>by
  simp only[rep] at h⊢;obtain⟨u,h1,h2⟩:=h;exact⟨u,h1,js hJ hF hw d u h2⟩
 | .agg cs,v,h=>by
  simp only[rep] at h⊢;obtain⟨vs,h1,h2⟩:=h;exact⟨vs,h1,Aa hJ hF hw cs vs h2⟩
 | .aJ cs,v,h=>by
  simp only[rep] at h⊢;obtain⟨vs,h1,h2⟩:=h;exact⟨vs,h1,Aa hJ hF hw cs vs h2⟩
 | .gv g,v,h=>by
  simp only[rep] at h⊢;exact⟨hF g h.1,(yM (hw g h.1) 0).trans h.2.1,h.2.2⟩
 | .mp id,v,h=>by
  simp only[rep] at h⊢;obtain⟨s,b,h1,h2,h3,h4⟩:=h;obtain⟨s',e,_,q⟩:=hJ id s h1;rw[q (.inr h2)] at e;exact⟨s,b,e,h2,h3,h4⟩
theorem Aa(hJ:J.le J')(hF:∀b,F b->F' b)(hw:∀b,F b->w'.heap[b]? = w.heap[b]?):∀(ds:List D) (vs:List aH),bj J F w ds vs->bj J' F' w' ds vs
 |[],vs,h=>by simpa only[bj] using h
 |d::ds,vs,h=>by
  simp only[bj] at h⊢;obtain⟨v,us,h1,h2,h3⟩:=h;exact⟨v,us,h1,js hJ hF hw d v h2,Aa hJ hF hw ds us h3⟩
theorem DC(hJ:J.le J')(hF:∀b,F b->F' b)(hw:∀b,F b->w'.heap[b]? = w.heap[b]?)(b:Nat)(hb:∀o,w'.cell? ⟨b,o,none⟩=w.cell? ⟨b,o,none⟩):∀(ds:List D) (o:Nat),dM J F w b ds o->dM J' F' w' b ds o
 |[],o,h=>by simp only[dM]
 |c::r,o,h=>by
  simp only[dM] at h⊢;obtain⟨⟨u,h1,h0,h2⟩,h3⟩:=h;exact⟨⟨u,by rw[hb];exact h1,h0,js hJ hF hw c u h2⟩,DC hJ hF hw b hb r (o+1) h3⟩
theorem IW(hJ:J.le J')(hF:∀b,F b->F' b)(hw:∀b,F b->w'.heap[b]? = w.heap[b]?)(b ai:Nat)(hb:∀o,w'.cell? ⟨b,o,none⟩=w.cell? ⟨b,o,none⟩):∀(xs:List<|List D) (o:Nat),eU J F w b ai xs o->eU J' F' w' b ai xs o
 |[],o,h=>by simp only[eU]
 |x::r,o,h=>by
  simp only[eU] at h⊢;obtain⟨h1,h2,h3⟩:=h;exact⟨h1,DC hJ hF hw b hb x o h2,IW hJ hF hw b ai hb r (o+ai) h3⟩
end
theorem sk{b:Nat}:∀(cs:List D) (o j:Nat) (c:D),cs[j]? = some c->dM J F w b cs o->∃u,w.cell? ⟨b,o+j,none⟩=some u/\fH u/\rep J F w c u
 |[],_,_,_,h,_=>by simp at h
 |c::r,o,0,_,h,k=>by
  simp only[dM] at k;simp at h;subst h;exact k.1
 |c::r,o,j+1,d,h,k=>by
  simp only[dM] at k;have:=sk r (o+1) j d (by simpa using h) k.2;rwa [show o+1+j=o+(j+1) by omega] at this
theorem uU{b ai:Nat}:∀(xs:List<|List D) (o j:Nat) (x:List D),xs[j]? = some x->eU J F w b ai xs o->x.length=ai/\dM J F w b x (o+j*ai)
 |[],_,_,_,h,_=>by simp at h
 |x::r,o,0,_,h,k=>by
  simp only[eU] at k;simp at h;subst h;exact⟨k.1,by simpa using k.2.1⟩
 |x::r,o,j+1,d,h,k=>by
  simp only[eU] at k;have:=uU r (o+ai) j d (by simpa using h) k.2.2;rwa [show o+ai+j*ai=o+(j+1)*ai by rw[iJ];omega] at this
theorem qJ{b:Nat}:∀(cs:List D) (o:Nat),(∀(j:Nat) (c:D),cs[j]? = some c->∃u,w.cell? ⟨b,o+j,none⟩=some u/\fH u/\rep J F w c u)->dM J F w b cs o
 |[],_,_=>by simp only[dM]
 |c::r,o,h=>by
  simp only[dM];refine⟨by simpa using h 0 c rfl,qJ r (o+1) λj d hd=>?_⟩;have:=h (j+1) d (by simpa using hd);rwa [show o+(j+1)=o+1+j by omega] at this
theorem uW{b ai:Nat}:∀(xs:List<|List D) (o:Nat),(∀(j:Nat) (x:List D),xs[j]? = some x->x.length=ai/\dM J F w b x (o+j*ai))->eU J F w b ai xs o
 |[],_,_=>by simp only[eU]
 |x::r,o,h=>by
  simp only[eU];refine⟨(h 0 x rfl).1,by simpa using (h 0 x rfl).2,uW r (o+ai) λj d hd=>?_⟩;have:=h (j+1) d (by simpa using hd);rwa [show o+(j+1)*ai=o+ai+j*ai by rw[iJ];omega] at this
theorem lJ:∀(ds:List D) (vs:List aH),bj J F w ds vs->vs.length=ds.length
 |[],vs,h=>by simp only[bj] at h;simp[h]
 |d::ds,vs,h=>by
  simp only[bj] at h;obtain⟨v,us,rfl,_,h3⟩:=h;simp[lJ ds us h3]
theorem qe:∀(ds:List D) (vs:List aH) (j:Nat) (d:D),ds[j]? = some d->bj J F w ds vs->∃v,vs[j]? = some v/\rep J F w d v
 |[],_,_,_,h,_=>by simp at h
 |d::ds,vs,0,_,h,k=>by
  simp only[bj] at k;obtain⟨v,us,rfl,h2,_⟩:=k;simp at h;subst h;exact⟨v,rfl,h2⟩
 |d::ds,vs,j+1,e,h,k=>by
  simp only[bj] at k;obtain⟨v,us,rfl,_,h3⟩:=k;simpa using qe ds us j e (by simpa using h) h3
theorem E9:∀(ds:List D) (vs:List aH),vs.length=ds.length->(∀(j:Nat) (d:D) (v:aH),ds[j]? = some d->vs[j]? = some v->rep J F w d v)->bj J F w ds vs
 |[],vs,h,_=>by simp only[bj];exact nh.1 h
 |d::ds,[],h,_=>by simp at h
 |d::ds,v::vs,h,k=>by
  simp only[bj];exact⟨v,vs,rfl,k 0 d v rfl rfl,E9 ds vs (by simpa using h) λj e u he hu=>k (j+1) e u (by simpa using he)<|by simpa using hu⟩
theorem En{a b:List D}:∀{va vb:List aH},bj J F w a va->bj J F w b vb->bj J F w (a++b) (va++vb):=by
 induction a with
 |nil=>intro va vb h k;simp only[bj] at h;subst h;simpa using k
 |cons d ds ih =>
  intro va vb h k;simp only[bj] at h;obtain⟨v,us,rfl,h2,h3⟩:=h;simp only[mJ,bj];exact⟨v,us++vb,rfl,h2,ih h3 k⟩
end
def an.mut:an->Bool|.row m _=>m|.vec m _ _ _=>m|.dI m _=>m
def za:List<|Nat×List D:=[]
def UK:List<|Nat×Nat×aM:=[]
structure FOK(F:Nat->Prop)(w:aU):Prop where
 lt:∀b,F b->b<w.heap.size
 gl:∀g cs,(g,cs)∈za->F g/\dM (λ_=>none) F w g cs 0
 se:∀g t s,(g,t,s)∈UK->F g/\∃b o vals te,w.cell? ⟨g,0,none⟩=some (.iface t (.pointer<|some ⟨b,o,none⟩))/\F b/\w.heap[b]? = some (.cells vals te (0,0))/\w.cell? ⟨b,o,none⟩=some (.string s)
instance {F:Nat->Prop} {w:aU}:CoeFun (FOK F w) λ_=>∀b,F b->b<w.heap.size:=⟨FOK.lt⟩
variable{F F':Nat->Prop}
theorem FOK.mono(h:FOK F w)(hF:∀b,F b->F' b)(hw:∀b,F b->w'.heap[b]? = w.heap[b]?)(bF:∀b,F' b->b<w'.heap.size):FOK F' w' where
 lt:=bF
 se g t s hg:=by
  obtain⟨h1,b,o,vals,te,h2,h3,h4,h5⟩:=h.se g t s hg;exact⟨hF g h1,b,o,vals,te,(yM (hw g h1) 0).trans h2,hF b h3,(hw b h3).trans h4,(yM (hw b h3) o).trans h5⟩
 gl g cs hg:=by
  obtain⟨h1,h2⟩:=h.gl g cs hg;have k:=js (J:=λ_=>none) (J':=λ_=>none) (aX.le_refl _) hF hw (.aN cs) (.pointer<|some ⟨g,0,none⟩) (by simp only[rep];exact⟨g,0,rfl,h1,h2⟩);simp only[rep] at k;obtain⟨b,o,e,k1,k2⟩:=k;cases e;exact⟨k1,k2⟩
theorem FOK.rep{F:Nat->Prop}{w:aU}(h:FOK F w)(J:aX){g:Nat}{cs:List D}(hg:(g,cs)∈za):rep J F w (.aN cs) (.pointer<|some ⟨g,0,none⟩):=by
 obtain⟨h1,h2⟩:=h.gl g cs hg;exact js (J:=λ_=>none) (J':=J) (λ_ _ q=>by cases q) (λ_ q=>q) (λ_ _=>rfl) (.aN cs) (.pointer<|some ⟨g,0,none⟩)<|by simp only[_root_.Go.Proofs.YtaalipopcddnjaaGreatDoor.rep];exact⟨g,0,rfl,h1,h2⟩
section
variable(J:aX)(F:Nat->Prop)(w:aU)
def na(s:Site):an->Prop
 | .row m cs=>s.row=true/\s.aw=0/\s.ai=1/\s.len=cs.length/\s.cap=cs.length/\∃b vals te,s.ad=some ⟨b,0,none⟩/\w.heap[b]? = some (.cells vals te (0,0))/\vals.size=cs.length/\dM J F w b cs 0/\(m=false->F b)
 | .vec m aw ai xs=>s.row=false/\s.aw=aw/\s.ai=ai/\s.len=xs.length/\s.len<=s.cap/\(s.cap=0\/∃b o vals te,s.ad=some ⟨b,o,none⟩/\w.heap[b]? = some (.cells vals te (0,0))/\o+s.cap*ai<=vals.size/\eU J F w b ai xs o/\(m=false->F b))
 | .dI _ I=>s.row=true/\∃b es clock,s.ad=some ⟨b,0,none⟩/\w.heap[b]? = some (.map es clock)/\I es
structure cr(H:Nat->Option an):Prop where
 obj:∀id s,J id=some s->∃o,H id=some o/\na J F w s o
 one:∀id ij s s' b,J id=some s->J ij=some s'->s.cP=some b->s'.cP=some b->id=ij
 apart:∀id s b o,J id=some s->s.cP=some b->H id=some o->o.mut->¬F b
 lt:FOK F w
def iU(b:Nat):Prop:=∃id s,J id=some s/\s.cP=some b
end
structure Ext(J:aX)(F:Nat->Prop)(w:aU)(J':aX)(F':Nat->Prop)(w':aU):Prop where
 os:w'.os=w.os
 tape:w'.tape=w.tape
 output:w'.output=w.output
 size:w.heap.size<=w'.heap.size
 block:∀b,b<w.heap.size->¬iU J b->w'.heap[b]? = w.heap[b]?
 frozen:∀b,F b->w'.heap[b]? = w.heap[b]?
 le:J.le J'
 grow:∀b,F b->F' b
 nj:∀b,iU J' b->iU J b\/w.heap.size<=b
 oa:∀b,F' b->F b\/iU J b\/w.heap.size<=b
theorem Ext.refl(F:Nat->Prop)(w:aU):Ext J F w J F w:=⟨rfl,rfl,rfl,aI _,λ_ _ _=>rfl,λ_ _=>rfl,aX.le_refl J,λ_ h=>h,λ_ h=>.inl h,λ_ h=>.inl h⟩
theorem Ext.trans{J J' J'':aX}{F F' F'':Nat->Prop}{w w' w'':aU}(h:Ext J F w J' F' w')(k:Ext J' F' w' J'' F'' w''):Ext J F w J'' F'' w'' where
 os:=k.os.trans h.os
 tape:=k.tape.trans h.tape
 output:=k.output.trans h.output
 size:=ia h.size k.size
 block b hb ho:=by
  have h1:¬iU J' b:=λh'=>(h.nj b h').elim ho (λh''=>by omega);rw[k.block b (by have:=h.size;omega) h1,h.block b hb ho]
 frozen b hb:=(k.frozen b<|h.grow b hb).trans<|h.frozen b hb
 le:=aX.le_trans h.le k.le
 grow b hb:=k.grow b<|h.grow b hb
 nj b hb:=(k.nj b hb).elim (h.nj b) λh'=>.inr<|ia h.size h'
 oa b hb:=by
  rcases k.oa b hb with h1|h1|h1
  ·exact h.oa b h1
  ·exact(h.nj b h1).elim (λh2=>.inr (.inl h2)) (λh2=>.inr (.inr h2))
  exact .inr (.inr<|ia h.size h1)
variable{J:aX}
theorem Hr(h:Ext J F w J' F' w'){d:D}{v:aH}(k:rep J F w d v):rep J' F' w' d v:=js h.le h.grow h.frozen d v k
inductive POp where
 |move (x:aT)
 |pick (c a b:aT)
 |alloc (z:List aH)
 |box (x:aT)
 |build (z:List aH) (parts:List (Nat×Nat×aT))
 |pX (ai n:Nat) (parts:List aT)
 |fu (a:aT)
 |r8 (n:Nat) (a:aT)
 |store (n:Nat) (a v:aT)
 |fO (x:aT)
 |bin (op:BinOp) (x y:aT)
 |eqb (neq:Bool) (x y:aT)
 |eqa (neq:Bool) (ks:List Nat) (x y:aT)
 |Bb (kind:Nat) (neq:Bool) (x:aT)
 |un (op:UnOp) (x:aT)
 |ext (i:Nat) (x:aT)
 |gU (off:Nat) (x:aT)
 |field (off n:Nat) (agg:Bool) (x:aT)
 |lg (ai:Nat) (x i:aT)
 |LS (len ai:Nat) (x i:aT)
 |E2 (x i:aT)
 |CI (len ai:Nat) (agg:Bool) (x i:aT)
 |n4 (f:Fn) (first cap:List aT)
 |wo (ai bytes:Nat) (z:List aH) (l c:aT)
 |slc (ai:Nat) (x:aT) (lo hi mx:Option aT)
 |zt (x:aT) (lo hi:Option aT)
 |len (x:aT)
 |vK (x:aT)
 |append (ai bytes:Nat) (x y:aT)
 |clr (u:aH) (x:aT)
 |mx (big:Bool) (x y:aT)
 |call (f:FuncId) (args:List aT)
 |iB (x:aT) (args:List aT)
 |ND (t:aY) (x:aT)
 |conv (k:IntKind) (x:aT)
 |LD (x:aT)
 |FY (kt:aY)
 |look (kt:aY) (z:aH) (m x:aT)
 |Oh (kt:aY) (m x:aT)
 |LI (kt:aY) (m x v:aT)
structure cE where
 dst:Option Tmp
 op:POp
 guard:Option<|Tmp×Bool
 mask:Nat
def qm(d s:Nat):cE:=⟨some d,.move (.tmp s),none,0⟩
def qw(d s m:Nat):cE:=⟨some d,.move (.tmp s),none,m⟩
def q(d:Nat)(o:POp):cE:=⟨some d,o,none,0⟩
def qd(d:Nat)(o:POp)(m:Nat):cE:=⟨some d,o,none,m⟩
def qn(o:POp):cE:=⟨none,o,none,0⟩
def qk(o:POp)(m:Nat):cE:=⟨none,o,none,m⟩
inductive PC where
 |skip
 |ops (l:List cE) (draw:Bool)
 |seq (a b:PC)
 |cond (c:aT) (a b:PC)
 |block (id:Nat) (c:PC)
 |loop (c:PC)
 |exit (id:Nat)
 |ret
 |stop (c:PC)
def PC.bare:PC->PC
 | .seq a b=>.seq a.bare b.bare
 | .cond c a b=>.cond c a.bare b.bare
 | .block id c=>.block id c.bare
 | .loop c=>.loop c.bare
 | .stop c=>c.bare
 |c=>c
abbrev Env:=List<|Nat×D
def lift:aH->D
 | .agg cs=>.agg<|cs.toList.map .sc
 |v=>.sc v
def gj(t:Nat):Env->D
 |[]=>.dB
 |(k,d)::r=>match Nat.beq t k with|true=>d|false=>gj t r
def yR(g:Nat):List (Nat×List D)->D
 |[]=>.sc (.pointer<|some ⟨g,0,none⟩)
 |(k,cs)::r=>match Nat.beq g k with|true=>.aN cs|false=>yR g r
theorem V3(h:FOK F w)(g:Nat):rep J F w (yR g za) (.pointer<|some ⟨g,0,none⟩):=by
 have key:∀l:List<|Nat×List D,(∀x∈l,x∈za)->rep J F w (yR g l) (.pointer<|some ⟨g,0,none⟩):=λl=>by
  induction l with
  |nil=>intro _;simp only[yR,rep]
  |cons x r ih =>
   intro hl;obtain⟨k,cs⟩:=x;simp only[yR]
   cases e:Nat.beq g k with
   |true =>
    have:=Ch e;subst this;exact h.rep J<|hl _<|by simp
   |false=>exact ih λy hy=>hl y<|by simp[hy]
 exact key _ λ_ h=>h
def fh(env:Env):aT->D
 | .tmp t=>gj t env
 | .const v=>lift v
 | .global g=>yR g za
 | .func f=>.fn (.func f) [] []
def rh(t:Nat)(K:D->Prop):Env->Prop
 |[]=>K .dB
 |(k,d)::r=>match Nat.beq t k with|true=>K d|false=>rh t K r
def scK:List aH->(List D->Prop)->Prop
 |[],K=>K []
 |v::r,K=>scK r λcs=>K (.sc v::cs)
def dq(env:Env)(x:aT)(K:D->Prop):Prop :=
 match x with
 | .tmp t=>rh t K env
 | .const v=>match v with
  | .agg cs=>scK cs.toList λl=>K (.agg l)
  |v=>K (.sc v)
 | .global g=>K<|yR g za
 | .func f=>K (.fn (.func f) [] [])
def Aj(env:Env):List aT->(List D->Prop)->Prop
 |[],K=>K []
 |x::r,K=>dq env x λd=>Aj env r λds=>K<|d::ds
def atK:List D->Nat->(D->Prop)->Prop
 |[],_,_=>False
 |c::_,0,K=>K c
 |_::r,n+1,K=>atK r n K
def sM:List D->Nat->(List D->Prop)->Prop
 |_,0,K=>K []
 |[],_+1,_=>False
 |c::r,n+1,K=>sM r n λcs=>K<|c::cs
def qF:List D->Nat->(List D->Prop)->Prop
 |cs,0,K=>K cs
 |[],_+1,_=>False
 |_::r,n+1,K=>qF r n K
def ux:D->Bool
 | .agg _|.aJ _|.dB=>false
 | .sc (.agg _)|.sc (.tuple _)=>false
 |_=>true
def Bq:List D->Bool
 |[]=>true
 |c::r=>match ux c with|true=>Bq r|false=>false
def Bf(d:D)(K:List D->Prop):Prop :=
 match d with
 | .agg cs=>match Bq cs with|true=>K cs|false=>False
 |d=>match ux d with|true=>K [d]|false=>False
def pQ:List D->Nat->List D->(List D->Prop)->Prop
 |r,0,[],K=>K r
 |_::r,0,c::cs,K=>pQ r 0 cs λr'=>K<|c::r'
 |[],0,_::_,_=>False
 |[],_+1,_,_=>False
 |x::r,n+1,cs,K=>pQ r n cs λr'=>K<|x::r'
def oI:List an->Nat->an->(List an->Prop)->Prop
 |[],_,_,_=>False
 |_::r,0,o,K=>K<|o::r
 |x::r,n+1,o,K=>oI r n o λr'=>K<|x::r'
def rz:List an->an->(List an->Nat->Prop)->Prop
 |[],o,K=>K [o] 0
 |x::r,o,K=>rz r o λr' n=>K (x::r')<|n+1
def jn:List an->Nat->(an->Prop)->Prop
 |[],_,_=>False
 |o::_,0,K=>K o
 |_::r,n+1,K=>jn r n K
def ifK(c:Bool)(A B:Prop):Prop:=match c with
 |true=>A
 |false=>B
theorem xa{c:Bool}{A B:Prop}(h:c->A)(k:c=false->B):ifK c A B:=by
 cases c
 ·exact k rfl
 exact h rfl
def nW(a b:Nat)(A:Prop):Prop:=match Nat.beq a b with
 |true=>A
 |false=>False
abbrev oW:=D->List an->List Nat->List Nat->Prop
def dW(k:IntKind)(z:Int):Prop:=k.wrap z=z
def wN(k:IntKind)(z:Int)(K:D->Prop):Prop:=(dW k z/\K (.sc (.int k z)))\/∀u,u=k.wrap z->K (.sc (.int k u))
def gF(op:BinOp)(k:IntKind)(x y:Int):Int :=
 let a:=BitVec.ofInt k.bits x
 let b:=BitVec.ofInt k.bits y
 match op with
 | .and=>k.wrap (a &&& b).toNat
 | .or=>k.wrap (a ||| b).toNat
 | .xor=>k.wrap (a ^^^ b).toNat
 |_=>k.wrap (a &&& ~~~b).toNat
def B7:IntKind->Nat
 | .i8=>0|.i16=>1|.i32=>2|.i64=>3|.u8=>4|.u16=>5|.u32=>6|.u64=>7
def OH(op:BinOp)(x y:D)(K:D->Prop):Prop :=
 match x,y with
 | .sc (.int k a),.sc (.int k' b) =>
  match op with
  | .shl=>0<=b/\wN k (a*2^min b.toNat k.bits) K
  | .shr=>0<=b/\K (.sc (.int k<|a.fdiv<|2^min b.toNat k.bits))
  |op=>match Nat.beq (B7 k) (B7 k') with
   |false=>False
   |true =>
    match op with
    | .add=>wN k (a+b) K
    | .sub=>wN k (a-b) K
    | .mul=>wN k (a*b) K
    | .quo=>b≠0/\wN k (a.tdiv b) K
    | .rem=>b≠0/\K (.sc (.int k<|a.tmod b))
    | .eql=>K (.sc (.bool<|a==b))
    | .neq=>K (.sc (.bool<|a != b))
    | .lss=>K (.sc (.bool<|decide (a<b)))
    | .leq=>K (.sc (.bool<|decide (a<=b)))
    | .gtr=>K (.sc (.bool<|decide (a>b)))
    | .geq=>K (.sc (.bool<|decide (a>=b)))
    | .and=>K (.sc (.int k<|gF .and k a b))
    | .or=>K (.sc (.int k<|gF .or k a b))
    | .xor=>K (.sc (.int k<|gF .xor k a b))
    | .andNot=>K (.sc (.int k<|gF .andNot k a b))
    |_=>False
 | .sc (.string a),.sc (.string b) =>
  match op with
  | .add=>(((a.size+b.size:Nat):Int)<=9223372036854775807)/\K (.sc (.string<|a++b))
  | .eql=>K (.sc (.bool<|a.toList==b.toList))
  | .neq=>K (.sc (.bool<|!(a.toList==b.toList)))
  | .lss=>K (.sc (.bool<|Op.bytesLess a.toList b.toList))
  | .leq=>K (.sc (.bool<|Op.bytesLess a.toList b.toList||a.toList==b.toList))
  | .gtr=>K (.sc (.bool<|!(Op.bytesLess a.toList b.toList||a.toList==b.toList)))
  | .geq=>K (.sc (.bool<|!Op.bytesLess a.toList b.toList))
  |_=>False
 |_,_=>False
def eqbK(neq:Bool)(x y:D)(K:D->Prop):Prop :=
 match x,y with
 | .sc (.bool a),.sc (.bool b)=>match neq with
  |false=>K (.sc (.bool<|a==b))
  |true=>K (.sc (.bool<|!(a==b)))
 |_,_=>False
def uo(neq b:Bool):Bool:=match neq with
 |true=>!b
 |false=>b
def OE(c:Nat)(x y:D)(K:Bool->Prop):Prop :=
 match c,x,y with
 |0,.sc (.int k a),.sc (.int k' b)=>nW (B7 k) (B7 k')<|K<|a==b
 |1,.sc (.bool a),.sc (.bool b)=>K<|a==b
 |2,.sc (.string a),.sc (.string b)=>K<|a.toList==b.toList
 |_,_,_=>False
def xN:List Nat->List D->List D->(Bool->Prop)->Prop
 |[],[],[],K=>K true
 |c::cs,x::xs,y::ys,K=>OE c x y λr=>xN cs xs ys λq=>K<|r&&q
 |_,_,_,_=>False
def L2(neq:Bool)(ks:List Nat)(x y:D)(K:D->Prop):Prop :=
 match x,y with
 | .agg xs,.agg ys=>xN ks xs ys λb=>K (.sc (.bool<|uo neq b))
 |_,_=>False
def Dj(seq:Bool)(kind:Nat)(neq:Bool)(x:D)(K:D->Prop):Prop :=
 match kind with
 |0=>match x with
  | .sc (.pointer none)=>K (.sc (.bool<|!neq))
  | .loc ..|.aN ..|.elt ..=>K (.sc (.bool neq))
  |_=>False
 |1=>match x with
  | .sc .nilIface=>K (.sc (.bool<|!neq))
  | .ifc ..=>K (.sc (.bool neq))
  |_=>False
 |2=>match x with
  | .sc .nilFunc=>K (.sc (.bool<|!neq))
  | .fn ..=>K (.sc (.bool neq))
  |_=>False
 |3=>match x with
  | .sc (.slice none 0 0)=>K (.sc (.bool<|!neq))
  | .a8 _ xs=>seq=true/\∀b:Bool,(b=true->xs=[])->K (.sc (.bool<|uo neq b))
  |_=>False
 |_=>False
def unK(op:UnOp)(x:D)(K:D->Prop):Prop :=
 match op,x with
 | .not,.sc (.bool b)=>K (.sc (.bool<|!b))
 | .neg,.sc (.int k n)=>wN k (0-n) K
 |_,_=>False
def sx(env:Env)(x:Option aT)(dflt:Nat)(K:Nat->Prop):Prop :=
 match x with
 |none=>K dflt
 |some x=>dq env x λd=>match d with
  | .sc (.int _ i)=>0<=i/\K i.toNat
  |_=>False
def Jb(env:Env):List (Nat×Nat×aT)->List D->(List D->Prop)->Prop
 |[],cs,K=>K cs
 |(off,n,x)::r,cs,K=>dq env x λd=>Bf d λxs=>nW n xs.length<|pQ cs off xs λfC=>Jb env r fC K
def IM(env:Env)(ai:Nat):List aT->(List (List D)->Prop)->Prop
 |[],K=>K []
 |x::r,K=>dq env x λd=>Bf d λxs=>nW ai xs.length<|IM env ai r λrows=>K<|xs::rows
def zm (P : Program) (f : FuncId) : Prop := ∃ fn, P.funcs[f]? = some fn ∧ (fn.name == "runtime.NumGoroutine") = false ∧ fn.body.isNone = false
structure cd(P:bt)(f:FuncId)(args:List D)(H:List an)(d:D)(H2:List an):Prop where
 ok:zm P f
 len:H.length<=H2.length
 run:∀(J:aX) (F:Nat->Prop) (w:aU) (vs:List aH),cr J F w (λi=>H[i]?)->(∀id,J id≠none->id<H.length)->bj J F w args vs ->
  Calls P f vs.toArray w λe w'=>∃v J' F',e=.returned v/\cr J' F' w' (λi=>H2[i]?)/\(∀id,J' id≠none->id<H2.length)/\rep J' F' w' d v/\Ext J F w J' F' w'
structure qx(P:bt)(f:FuncId)(args:List D)(H:List an)(d:D)(H2:List an)(L:List Nat):Prop where
 ok:zm P f
 len:H.length<=H2.length
 frame:∀id,id ∉ L->H2[id]? = H[id]?
 lt:∀id∈L,id<H2.length
 run:∀(J:aX) (F:Nat->Prop) (w:aU) (vs:List aH) (G:Nat->Option an),cr J F w G->(∀id∈L,G id=H[id]?)->(∀id∈L,H.length<=id->J id=none)->bj J F w args vs ->
  Calls P f vs.toArray w λe w'=>∃v J' F',e=.returned v/\cr J' F' w' (λid=>if id∈L then H2[id]? else G id)/\(∀id,J' id≠none->J id≠none\/id∈L)/\rep J' F' w' d v/\Ext J F w J' F' w'
structure BV(P:bt)(f:FuncId)(args:List D)(H:List an)(d:D)(L:List Nat):Prop where
 ok:zm P f
 run:∀(J:aX) (F:Nat->Prop) (w:aU) (vs:List aH) (G:Nat->Option an),cr J F w G->(∀id∈L,G id=H[id]?)->bj J F w args vs ->
  Calls P f vs.toArray w λe w'=>∃v J' F',e=.returned v/\cr J' F' w' G/\(∀id,J' id≠none->J id≠none)/\rep J' F' w' d v/\Ext J F w J' F' w'
def jI:aX:=λ_=>none
structure ar(P:bt)(f:FuncId)(args:List D)(d:D):Prop where
 ok:zm P f
 run:∀(J:aX) (F:Nat->Prop) (w:aU) (vs:List aH),FOK F w->bj J F w args vs ->
  Calls P f vs.toArray w λe w'=>∃v F',e=.returned v/\(∀b,F' b->b<w'.heap.size)/\rep jI F' w' d v/\Ext jI F w jI F' w'
mutual
inductive Deep(H:List an):D->D->Prop
 |refl (d:D):Deep H d d
 |dB (d:D):Deep H d .dB
 |none (ai:Nat):Deep H (.sc (.slice none 0 0)) (.a8 ai [])
 |loc (id off:Nat) (m:Bool) (cs ds:List D) (h:H[id]? = some (.row m cs)) (k:im H (cs.drop off) ds):Deep H (.loc id off) (.aN ds)
 |own (id aw lo hi ai:Nat) (m:Bool) (xs ys:List (List D)) (h:H[id]? = some (.vec m aw ai xs)) (k:lE H ((xs.take hi).drop lo) ys):Deep H (.own id aw lo hi) (.a8 ai ys)
 |fn (f:Fn) (a b c e:List D) (h:im H a b) (k:im H c e):Deep H (.fn f a c) (.fn f b e)
 |ifc (t:aY) (d e:D) (h:Deep H d e):Deep H (.ifc t d) (.ifc t e)
 |agg (a b:List D) (h:im H a b):Deep H (.agg a) (.agg b)
 |aJ (a b:List D) (h:im H a b):Deep H (.aJ a) (.aJ b)
inductive im(H:List an):List D->List D->Prop
 |nil:im H [] []
 |cons (d e:D) (a b:List D) (h:Deep H d e) (k:im H a b):im H (d::a) (e::b)
inductive lE(H:List an):List (List D)->List (List D)->Prop
 |nil:lE H [] []
 |cons (x y:List D) (a b:List (List D)) (h:im H x y) (k:lE H a b):lE H (x::a) (y::b)
end
def isScalar:D->Bool
 | .sc _=>true
 |_=>false
def Ah:List D->Bool
 |[]=>true
 |d::r=>match isScalar d with|true=>Ah r|false=>false
def FC:D->Bool
 | .sc _=>true
 | .aJ ds|.agg ds=>Ah ds
 |_=>false
mutual
def az(m:Nat):D->Prop
 | .dB|.sc _|.gv _=>True
 | .loc id _|.elt id _ _ _|.own id _ _ _|.mp id=>id<m
 | .aN cs|.agg cs|.aJ cs=>aK m cs
 | .a8 _ xs=>bN m xs
 | .fn _ a b=>aK m a/\aK m b
 | .ifc _ d=>az m d
def aK(m:Nat):List D->Prop
 |[]=>True
 |d::r=>az m d/\aK m r
def bN(m:Nat):List (List D)->Prop
 |[]=>True
 |d::r=>aK m d/\bN m r
end
def an.under(m:Nat):an->Prop
 | .row _ cs=>aK m cs
 | .vec _ _ _ xs=>bN m xs
 | .dI _ _=>True
def kl(m:Nat):List an->Prop
 |[]=>True
 |o::r=>o.under m/\kl m r
def vZ:Nat->List Nat
 |0=>[]
 |n+1=>n::vZ n
def an.frozen:an->an
 | .row _ cs=>.row false cs
 | .vec _ v e xs=>.vec false v e xs
 | .dI _ I=>.dI false I
def vU:List an->List an
 |[]=>[]
 |o::r=>o.frozen::vU r
def Kr(P:bt)(seq:Bool)(f:FuncId)(args:List D)(H:List an)(K:oW):Prop :=
 (∃d,ar P f args d/\K d H [] [])\/(∃args' d,im H args args'/\ar P f args' d/\FC d/\K d H (List.range H.length) []) \/
  (seq=true/\∃d H2,cd P f args H d H2/\K d H2 [] []) \/
  (∃d H2,aK H.length args/\kl H.length H/\cd P f args H d H2/\K d H2 (vZ H2.length) (vZ H2.length)) \/
  (∃d H2 L,qx P f args H d H2 L/\K d H2 L L) \/
  (seq=true/\∃args' d,im H args args'/\ar P f args' d/\K d (vU H) [] []) \/
  (∃d L,BV P f args H d L/\K d H L [])
def mu(k:Nat)(bytes:Nat)(m:Nat):Prop:=(k+m)*bytes<=140737488355328
def Hz(H:List an)(ai:Nat)(dy:D)(K:List (List D)->List Nat->Prop):Prop :=
 match dy with
 | .a8 kE ys=>nW ai kE<|K ys []
 | .own id aw lo hi=>jn H id λo=>match o with
  | .vec _ bY kE zs=>aw=bY/\nW ai kE (K ((zs.take hi).drop lo) [id])
  |_=>False
 | .sc (.slice none 0 0)=>K [] []
 |_=>False
def kF(P:bt)(kt:aY)(f:aH->Option aH):Array MapEntry->Prop:=λes =>
 (∀e∈es.toList,∃l,keyOf P kt e.key=some l)/\(∀e∈es.toList,f e.key=some e.val)/\∀key v,f key=some v->∃e∈es.toList,e.key=key
noncomputable def ox(f:aH->Option aH)(key v:aH):aH->Option aH:=λk=>open Classical in if k=key then some v else f k
def scV:D->aH
 | .sc v=>v
 |_=>undef
def FA(d:D)(K:aH->Prop):Prop:=match d with
 | .sc v=>K v
 | .agg cs=>Ah cs=true/\K (.agg (cs.map scV).toArray)
 |_=>False
def step(P:bt)(seq:Bool)(p:POp)(env:Env)(H:List an)(K:oW):Prop :=
 match p with
 | .move x=>dq env x λd=>K d H [] []
 | .pick c a b=>dq env c λdc=>match dc with
  | .sc (.bool t)=>ifK t (dq env a λd=>K d H [] [])<|dq env b λd=>K d H [] []
  |_=>False
 | .alloc z=>scK z λcs=>rz H (.row true cs) λH' id=>K (.loc id 0) H' [] [id]
 | .box x=>dq env x λd=>Bf d λcs=>rz H (.row true cs) λH' id=>K (.loc id 0) H' [] [id]
 | .build z parts=>scK z λzs=>Jb env parts zs λcs=>K (.agg cs) H [] []
 | .pX ai n parts=>IM env ai parts λrows=>nW n rows.length<|rz H (.vec true 0 ai rows) λH' id=>K (.own id 0 0 n) H' [] [id]
 | .fu a=>dq env a λd=>match d with
  | .loc id off=>jn H id λo=>match o with
   | .row _ cs=>atK cs off λc=>K c H [id] []
   |_=>False
  | .aN cs=>atK cs 0 λc=>K c H [] []
  | .elt id aw i off=>jn H id λo=>match o with
   | .vec _ bY _ xs=>aw=bY/\∃row,xs[i]? = some row/\atK row off λc=>K c H [id] []
   |_=>False
  |_=>False
 | .r8 n a=>dq env a λd=>match d with
  | .loc id off=>jn H id λo=>match o with
   | .row _ cs=>qF cs off λr=>sM r n λc=>K (.agg c) H [id] []
   |_=>False
  | .aN cs=>sM cs n λc=>K (.agg c) H [] []
  | .elt id aw i off=>jn H id λo=>match o with
   | .vec _ bY _ xs=>aw=bY/\∃row,xs[i]? = some row/\qF row off λr=>sM r n λc=>K (.agg c) H [id] []
   |_=>False
  |_=>False
 | .store n a x=>dq env a λd=>dq env x λdx=>Bf dx λxs=>nW n xs.length (match d with
  | .loc id off=>jn H id λo=>match o with
   | .row true cs=>pQ cs off xs λfC=>oI H id (.row true fC) λH'=>K (.sc undef) H' [] [id]
   |_=>False
  | .elt id aw i off=>jn H id λo=>match o with
   | .vec true bY ai ys=>aw=bY/\∃row,ys[i]? = some row/\pQ row off xs λzNR=>oI H id (.vec true bY ai<|ys.set i zNR) λH'=>K (.sc undef) H' [] [id]
   |_=>False
  |_=>False)
 | .fO x=>dq env x λd=>match d with
  | .loc ..|.aN ..|.elt ..|.fn (.func _) ..=>K d H [] []
  |_=>False
 | .bin op x y=>dq env x λdx=>dq env y λdy=>OH op dx dy λd=>K d H [] []
 | .eqb neq x y=>dq env x λdx=>dq env y λdy=>eqbK neq dx dy λd=>K d H [] []
 | .eqa neq ks x y=>dq env x λdx=>dq env y λdy=>L2 neq ks dx dy λd=>K d H [] []
 | .Bb kind neq x=>dq env x λdx=>Dj seq kind neq dx λd=>K d H [] []
 | .un op x=>dq env x λdx=>unK op dx λd=>K d H [] []
 | .ext i x=>dq env x λd=>match d with
  | .aJ cs=>atK cs i λc=>K c H [] []
  |_=>False
 | .gU off x=>dq env x λd=>match d with
  | .loc id o=>K (.loc id<|o+off) H [] []
  | .elt id aw i o=>K (.elt id aw i<|o+off) H [] []
  | .aN cs=>qF cs off λr=>K (.aN r) H [] []
  |_=>False
 | .field off n agg x=>dq env x λd=>match d with
  | .agg cs=>match agg with
   |true=>qF cs off λr=>sM r n λc=>K (.agg c) H [] []
   |false=>atK cs off λc=>K c H [] []
  |_=>False
 | .lg ai x i=>dq env x λdx=>dq env i λdi=>match di with
  | .sc (.int _ z)=>match dx with
   | .a8 kE xs=>nW ai kE (0<=z/\∃row,xs[z.toNat]? = some row/\K (.aN row) H [] [])
   | .own id aw lo hi=>jn H id λo=>match o with
    | .vec _ bY kE _=>aw=bY/\nW ai kE (0<=z/\z<(hi-lo:Nat)/\K (.elt id aw (lo+z.toNat) 0) H [id] [])
    |_=>False
   |_=>False
  |_=>False
 | .LS len ai x i=>dq env x λdx=>dq env i λdi=>match di with
  | .sc (.int _ z)=>0<=z/\z<(len:Nat)/\match dx with
   | .loc id o=>K (.loc id<|o+z.toNat * ai) H [] []
   | .elt id aw i o=>K (.elt id aw i<|o+z.toNat * ai) H [] []
   | .aN cs=>qF cs (z.toNat * ai) λr=>K (.aN r) H [] []
   |_=>False
  |_=>False
 | .CI len ai agg x i=>dq env x λdx=>dq env i λdi=>match di with
  | .sc (.int _ z)=>match dx with
   | .agg cs=>0<=z/\z<(len:Nat)/\match agg with
    |true=>qF cs (z.toNat * ai) λr=>sM r ai λc=>K (.agg c) H [] []
    |false=>∃c,cs[z.toNat * ai]? = some c/\K c H [] []
   |_=>False
  |_=>False
 | .E2 x i=>dq env x λdx=>dq env i λdi=>match dx,di with
  | .sc (.string s),.sc (.int _ z)=>0<=z/\∃b,s[z.toNat]? = some b/\K (.sc (.int .u8 b.toNat)) H [] []
  |_,_=>False
 | .n4 f first cap=>Aj env first λds=>Aj env cap λcs=>K (.fn f ds cs) H [] []
 | .wo ai bytes z l c=>dq env l λdl=>dq env c λdc=>match dl,dc with
  | .sc (.int .i64 nl),.sc (.int .i64 nc)=>0<=nl/\nl<=nc/\nc*bytes<=140737488355328 /\
   rz H (.vec true 0 ai<|List.replicate nl.toNat<|z.map .sc) λH' id=>K (.own id 0 0 nl.toNat) H' [] [id]
  |_,_=>False
 | .slc ai x lo hi mx=>dq env x λdx=>match dx,mx with
  | .a8 kE xs,none=>nW ai kE<|sx env hi xs.length λh=>sx env lo 0 λl=>l<=h/\h<=xs.length/\K (.a8 kE<|(xs.take h).drop l) H [] []
  | .a8 kE xs,some m=>match hi with
   |none=>False
   |some bu=>nW ai kE<|sx env (some bu) 0 λh=>sx env lo 0 λl=>sx env (some m) 0 λmm=>l<=h/\h<=mm/\mm<=xs.length/\K (.a8 kE<|(xs.take h).drop l) H [] []
  | .own id aw a b,none=>jn H id λo=>match o with
   | .vec _ bY kE _=>aw=bY/\nW ai kE (sx env hi (b-a) λh=>sx env lo 0 λl=>l<=h/\h<=b-a/\K (.own id aw (a+l)<|a+h) H [id] [])
   |_=>False
  |_,_=>False
 | .zt x lo hi=>dq env x λdx=>match dx with
  | .sc (.string s)=>sx env hi s.size λh=>sx env lo 0 λl=>l<=h/\h<=s.size/\K (.sc (.string<|s.extract l h)) H [] []
  |_=>False
 | .len x=>dq env x λdx=>match dx with
  | .a8 _ xs=>K (.sc (.int .i64 xs.length)) H [] []
  | .own id aw lo hi=>jn H id λo=>match o with
   | .vec _ bY _ _=>aw=bY/\K (.sc (.int .i64 (hi-lo:Nat))) H [id] []
   |_=>False
  | .sc (.slice none 0 0)=>K (.sc (.int .i64 0)) H [] []
  |_=>False
 | .vK x=>dq env x λdx=>match dx with
  | .sc (.string s)=>K (.sc (.int .i64 s.size)) H [] []
  |_=>False
 | .append ai bytes x y=>dq env x λdx=>dq env y λdy=>Hz H ai dy λys rd =>
  match dx with
   | .sc (.slice none 0 0)=>mu 0 bytes ys.length/\rz H (.vec true 0 ai ys) λH' id=>K (.own id 0 0 ys.length) H' rd [id]
   | .own id aw lo hi=>jn H id λo=>match o with
    | .vec true bY kE zs=>aw=bY/\nW ai kE (mu (hi-lo) bytes ys.length /\
     oI H id (.vec true (aw+1) ai<|(zs.take hi).drop lo++ys) λH'=>K (.own id (aw+1) 0<|hi-lo+ys.length) H' rd [id])
    |_=>False
   |_=>False
 | .clr u x=>dq env x λdx=>match dx with
  | .own id aw lo hi=>jn H id λo=>match o with
   | .vec true bY ai zs=>aw=bY/\nW ai 1 (oI H id (.vec true aw 1<|zs.take lo++List.replicate (hi-lo) [.sc u]++zs.drop hi) λH'=>K (.aJ []) H' [] [id])
   |_=>False
  |_=>False
 | .mx big x y=>dq env x λdx=>dq env y λdy=>match dx with
  | .sc (.int k n)=>match dy with
   | .sc (.int _ m)=>match big with
    |true=>K (.sc (.int k<|max n m)) H [] []
    |false=>K (.sc (.int k<|min n m)) H [] []
   |_=>False
  |_=>False
 | .call f args=>Aj env args λds=>Kr P seq f ds H K
 | .iB x args=>dq env x λdx=>match dx with
  | .fn (.func f) first cap=>Aj env args λds=>Kr P seq f (first++ds++cap) H K
  |_=>False
 | .ND t x=>dq env x λd=>K (.ifc t d) H [] []
 | .conv k x=>dq env x λd=>match d with
  | .sc (.int _ n)=>wN k n λd=>K d H [] []
  |_=>False
 | .LD x=>dq env x λdx=>Hz H 1 dx λys rd=>∃ns:af,ys=(ns.map λn=>[.sc (.int .u8 n)])/\K (.sc (.string<|ns.foldl (λr n=>r.push<|UInt8.ofNat n.toNat) ByteArray.empty)) H rd []
 | .FY kt=>rz H (.dI true<|kF P kt λ_=>none) λH' id=>K (.mp id) H' [] [id]
 | .look kt z m x=>dq env m λdm=>dq env x λdx=>match dm with
  | .mp id=>jn H id λo=>match o with
   | .dI _ I=>FA dx λkey=>∃f,I=kF P kt f/\Maps.Keyed P kt/\(∃l,keyOf P kt key=some l)/\(∀v,f key=some v->K (.aJ [.sc v,.sc (.bool true)]) H [id] [])/\(f key=none->K (.aJ [.sc z,.sc (.bool false)]) H [id] [])
   |_=>False
  |_=>False
 | .Oh kt m x=>dq env m λdm=>dq env x λdx=>match dm with
  | .mp id=>jn H id λo=>match o with
   | .dI _ I=>FA dx λkey=>∃f,I=kF P kt f/\Maps.Keyed P kt/\(∃l,keyOf P kt key=some l)/\∃v,f key=some v/\K (.sc v) H [id] []
   |_=>False
  |_=>False
 | .LI kt m x v=>dq env m λdm=>dq env x λdx=>dq env v λdv=>match dm with
  | .mp id=>jn H id λo=>match o with
   | .dI true I=>FA dx λkey=>match dv with
    | .sc u=>∃f,I=kF P kt f/\Maps.Keyed P kt/\(∃l,keyOf P kt key=some l)/\f key=none/\oI H id (.dI true<|kF P kt<|ox f key u) λH'=>K (.sc undef) H' [] [id]
    |_=>False
   |_=>False
  |_=>False
def lf(P:bt):List cE->Env->List an->(Env->List an->Prop)->Prop
 |[],env,H,K=>K env H
 |o::r,env,H,K =>
  match o.guard with
  |none=>step P true o.op env H λd H' _ _=>match o.dst with
   |some t=>lf P r ((t,d)::env) H' K
   |none=>lf P r env H' K
  |some (t,b)=>rh t (λg=>match g with
   | .sc (.bool c)=>match b with
    |true=>ifK c
     (step P true o.op env H λd H' _ _=>match o.dst with
      |some u=>lf P r ((u,d)::env) H' K
      |none=>lf P r env H' K)
     (match o.dst with
      |some u=>lf P r ((u,.sc undef)::env) H K
      |none=>lf P r env H K)
    |false=>ifK c
     (match o.dst with
      |some u=>lf P r ((u,.sc undef)::env) H K
      |none=>lf P r env H K)
     (step P true o.op env H λd H' _ _=>match o.dst with
      |some u=>lf P r ((u,d)::env) H' K
      |none=>lf P r env H' K)
   | .sc (.tuple _)=>match o.dst with
    |some u=>lf P r ((u,.sc undef)::env) H K
    |none=>lf P r env H K
   |_=>False) env
def yV(p:POp)(env:Env):Option<|Nat×Nat:=match p with
 | .fu a=>match fh env a with
  | .loc id k=>some (id,k)
  |_=>none
 |_=>none
abbrev Trace:=List<|(List Nat×List Nat)×(Option (Nat×Nat)×D×List an)
def mF(P:bt):List cE->Env->List an->(Env->List an->Trace->Prop)->Prop
 |[],env,H,K=>K env H []
 |o::r,env,H,K =>
  match o.guard with
  |none=>step P false o.op env H λd H' rd wr=>match o.dst with
   |some t=>mF P r ((t,d)::env) H' λe h tr=>K e h<|((rd,wr),(yV o.op env,d,H'))::tr
   |none=>mF P r env H' λe h tr=>K e h<|((rd,wr),(yV o.op env,d,H'))::tr
  |some (t,b)=>rh t (λg=>match g with
   | .sc (.bool c)=>match b with
    |true=>ifK c
     (step P false o.op env H λd H' rd wr=>match o.dst with
      |some u=>mF P r ((u,d)::env) H' λe h tr=>K e h<|((rd,wr),(none,d,H'))::tr
      |none=>mF P r env H' λe h tr=>K e h<|((rd,wr),(none,d,H'))::tr)
     (match o.dst with
      |some u=>mF P r ((u,.sc undef)::env) H λe h tr=>K e h<|(([],[]),(none,.sc undef,H))::tr
      |none=>mF P r env H λe h tr=>K e h<|(([],[]),(none,.sc undef,H))::tr)
    |false=>ifK c
     (match o.dst with
      |some u=>mF P r ((u,.sc undef)::env) H λe h tr=>K e h<|(([],[]),(none,.sc undef,H))::tr
      |none=>mF P r env H λe h tr=>K e h<|(([],[]),(none,.sc undef,H))::tr)
     (step P false o.op env H λd H' rd wr=>match o.dst with
      |some u=>mF P r ((u,d)::env) H' λe h tr=>K e h<|((rd,wr),(none,d,H'))::tr
      |none=>mF P r env H' λe h tr=>K e h<|((rd,wr),(none,d,H'))::tr)
   | .sc (.tuple _)=>match o.dst with
    |some u=>mF P r ((u,.sc undef)::env) H λe h tr=>K e h<|(([],[]),(none,.sc undef,H))::tr
    |none=>mF P r env H λe h tr=>K e h<|(([],[]),(none,.sc undef,H))::tr
   |_=>False) env
def pO(x:Nat):List Nat->Bool
 |[]=>false
 |y::r=>match Nat.beq x y with|true=>true|false=>pO x r
def meets:List Nat->List Nat->Bool
 |[],_=>false
 |x::r,l=>match pO x l with|true=>true|false=>meets r l
def tB(a b:List Nat×List Nat):Bool:=meets a.2 b.1||meets a.2 b.2||meets b.2 a.1
def uI(m i:Nat):Bool:=match Nat.beq ((m/2^i)%2) 1 with|true=>true|false=>false
def Bt(m:Nat)(b:List Nat×List Nat):Nat->List (List Nat×List Nat)->Bool
 |_,[]=>true
 |i,a::r=>match (uI m i||!tB a b) with|true=>Bt m b (i+1) r|false=>false
def Cr(pre:List<|List Nat×List Nat):List cE->Trace->Bool
 |o::r,(b,_)::tr=>match Bt o.mask b 0 pre with|true=>Cr (pre++[b]) r tr|false=>false
 |_,_=>true
def Bm(pre:List<|List Nat×List Nat):List cE->Trace->Bool
 |o::r,(b,(q,_))::tr=>match Bt o.mask b 0 pre with
  |true=>match q with
   |some _=>Bm (pre++[([],b.2)]) r tr
   |none=>Bm (pre++[b]) r tr
  |false=>false
 |_,_=>true
def WR(H:List an)(id k:Nat)(d:D)(K:Prop):Prop:=jn H id λo=>match o with
 | .row _ cs=>atK cs k λc=>c=d/\K
 |_=>False
def Ek(m:Nat)(wr:List Nat)(H:List an)(K:Prop):List (Nat×(Nat×Nat)×D)->Prop
 |[]=>K
 |(i,(id,k),d)::r=>match (uI m i||!pO id wr) with
  |true=>Ek m wr H K r
  |false=>WR H id k d<|Ek m wr H K r
def Cp(K:Prop):Nat->List (Nat×(Nat×Nat)×D)->List cE->Trace->Prop
 |i,ws,o::r,(b,(q,d,H))::tr=>Ek o.mask b.2 H (match q with
  |some l=>Cp K (i+1) (ws++[(i,l,d)]) r tr
  |none=>Cp K (i+1) ws r tr) ws
 |_,_,_,_=>K
def Ih(P:bt)(l:List cE)(env:Env)(H:List an)(K:Env->List an->Prop):Prop:=mF P l env H λe h tr=>match Cr [] l tr with
 |true=>K e h
 |false=>match Bm [] l tr with
  |true=>Cp (K e h) 0 [] l tr
  |false=>False
def zA5(P:bt)(t:aY):Bool:=match P.underlying t with|some (.int _)=>true|_=>false
def zCz(P:bt)(t:aY):Bool:=match P.underlying t with|some .string=>true|_=>false
def G8(P:bt)(t:aY):Bool:=match P.underlying t with|some .bool=>true|_=>false
def yZ(P:bt)(t:aY)(y:aT):Option Nat :=
 match P.underlying t,y with
 |some (.pointer _),.const (.pointer none)=>some 0
 |some (.interface _),.const .nilIface=>some 1
 |some (.func _ _ _),.const .nilFunc=>some 2
 |some (.slice _),.const (.slice none 0 0)=>some 3
 |_,_=>none
def ym(P:bt)(t:aY):Option Nat:=match P.underlying t with
 |some (.int _)=>some 0
 |some .bool=>some 1
 |some .string=>some 2
 |_=>none
def EO(P:bt):Nat->List Field->Option (List Nat)
 |_,[]=>some []
 | i, f :: r => if f.name ≠ "_" ∧ f.offset = i then match ym P f.type, EO P (i + 1) r with
  |some c,some cs=>some<|c::cs
  |_,_=>none
  else none
def IQ(P:bt)(t:aY):Option<|List Nat:=match P.underlying t with
 |some (.struct fs)=>if P.stoodInHeld t=false/\P.eqGuardType P.depth t=false then EO P 0 fs.toList else none
 |some (.array n e)=>if P.eqGuardType P.depth t=false/\P.cellsOf e=1/\(P.info? e).isSome=true then (ym P e).map (List.replicate n ·) else none
 |_=>none
def vD(place:Nat->Option (Nat×Nat)):List (Nat×aT)->Option (List<|Nat×Nat×aT)
 |[]=>some []
 |(i,x)::r=>match place i,vD place r with
  |some (off,n),some l=>some<|(off,n,x)::l
  |_,_=>none
def wH:Nat->List (Nat×aT)->Option (List aT)
 |_,[]=>some []
 |k,(i,x)::r=>if i=k then (wH (k+1) r).map (x::·) else none
def j8(z:aH):Nat->Nat->List (Nat×aT)->Option (List aT)
 |_,0,[]=>some []
 |_,0,_::_=>none
 |k,m+1,[]=>(j8 z (k+1) m []).map (.const z::·)
 |k,m+1,(i,x)::r=>if i=k then (j8 z (k+1) m r).map (x::·) else (j8 z (k+1) m<|(i,x)::r).map (.const z::·)
def nU(P:bt)(t:aY):Option Bool:=match P.underlying t with
 |some (.struct _)|some (.array _ _)=>some true
 |some _=>some false
 |none=>none
def cop(P:bt)(o:Oper):Option POp :=
 match o.op with
 | .move x|.assign x=>some (.move x)
 | .pick c a b=>some (.pick c a b)
 | .alloc t=>match (P.info? t).bind (·.zero) with
  |some z=>if z.cells.toList.all fH then some (.alloc z.cells.toList) else none
  |none=>none
 | .box _ x=>some (.box x)
 | .build t parts=>match (P.info? t).bind (·.zero),P.underlying t with
  |some z,some (.struct fs)=>match fs.toList.mapM (λf=>(P.info? f.type).map λi=>(f.offset,i.size)) with
   |some places=>(vD (places.toArray[·]?) parts.toList).map (.build z.cells.toList)
   |none=>none
  |some z,some (.array _ e)=>match P.info? e with
   |some ie=>(vD (λi=>some (i*ie.size,ie.size)) parts.toList).map (.build z.cells.toList)
   |none=>none
  |_,_=>none
 | .buildSlice t n parts=>match P.underlying t with
  |some (.slice e)=>match (P.info? e).bind (·.zero) with
   |some z=>if n*P.cellsOf e<=16777216/\0<P.cellsOf e then match wH 0 parts.toList with
    |some xs=>some (.pX (P.cellsOf e) n xs)
    |none=>(j8 z 0 n parts.toList).map (.pX (P.cellsOf e) n)
    else none
   |none=>none
  |_=>none
 | .load t a=>match nU P t with
  |some true=>some (.r8 (P.cellsOf t) a)
  |some false=>some (.fu a)
  |none=>none
 | .store t a v=>if P.cellsOf t=0 then none else some (.store (P.cellsOf t) a v)
 | .nilCheck x=>some (.fO x)
 | .binOp op t x y _ =>
  if zA5 P t||zCz P t then some (.bin op x y)
  else match op with
   | .eql=>if G8 P t then some (.eqb false x y) else match IQ P t with
    |some ks=>some (.eqa false ks x y)
    |none=>(yZ P t y).map (.Bb · false x)
   | .neq=>if G8 P t then some (.eqb true x y) else match IQ P t with
    |some ks=>some (.eqa true ks x y)
    |none=>(yZ P t y).map (.Bb · true x)
   |_=>none
 | .unOp op _ x=>some (.un op x)
 | .extract x i=>some (.ext i x)
 | .fieldAddr s x f=>match P.underlying s with
  |some (.struct fs)=>match fs[f]? with
   |some fd=>if P.cellsOf fd.type=0 then none else some (.gU fd.offset x)
   |none=>none
  |_=>none
 | .field s x f=>match P.underlying s with
  |some (.struct fs)=>match fs[f]? with
   |some fd=>match nU P fd.type with
    |some ag=>some (.field fd.offset (P.cellsOf fd.type) ag x)
    |none=>none
   |none=>none
  |_=>none
 | .indexAddr t x i=>match P.underlying t with
  |some (.slice e)=>if P.cellsOf e=0 then none else some (.lg (P.cellsOf e) x i)
  |some (.array n e)=>if P.cellsOf e=0 then none else some (.LS n (P.cellsOf e) x i)
  |_=>none
 | .index t x i=>match P.underlying t with
  |some .string=>some (.E2 x i)
  |some (.array n e)=>match nU P e with
   |some ag=>some (.CI n (P.cellsOf e) ag x i)
   |none=>none
  |_=>none
 | .makeFunc f first cap=>some (.n4 f first.toList cap.toList)
 | .makeSlice t l c=>match P.underlying t with
  |some (.slice e)=>match (P.info? e).bind (·.zero) with
   |some z=>if z.cells.size=P.cellsOf e/\0<P.cellsOf e/\0<P.bytesOf e/\z.cells.toList.all fH=true then some (.wo (P.cellsOf e) (P.bytesOf e) z.cells.toList l c) else none
   |none=>none
  |_=>none
 | .slice t x lo hi mx=>match P.underlying t with
  |some (.slice e)=>if 0<P.cellsOf e then some (.slc (P.cellsOf e) x lo hi mx) else none
  |some .string=>match mx with
   |none=>some (.zt x lo hi)
   |some _=>none
  |_=>none
 | .call { callee:=.builtin .len,args,argTypes }=>match args.toList,argTypes.toList with
  |[x],[t]=>match P.underlying t with
   |some (.slice _)=>some (.len x)
   |some .string=>some (.vK x)
   |_=>none
  |_,_=>none
 | .call { callee:=.builtin .append,args,argTypes }=>match args.toList,argTypes.toList with
  |[x,y],[t,u]=>match P.underlying t,P.underlying u with
   |some (.slice e),some (.slice _)=>match (P.info? e).bind (·.zero) with
    |some z=>if z.cells.size=P.cellsOf e/\0<P.cellsOf e/\0<P.bytesOf e then some (.append (P.cellsOf e) (P.bytesOf e) x y) else none
    |none=>none
   |_,_=>none
  |_,_=>none
 | .call { callee:=.builtin .clear,args,argTypes }=>match args.toList,argTypes.toList with
  |[x],[t]=>match P.underlying t with
   |some (.slice e)=>match (P.info? e).bind (·.zero) with
    |some z=>match z.cells.toList with
     |[u]=>if P.cellsOf e=1/\fH u=true then some (.clr u x) else none
     |_=>none
    |none=>none
   |_=>none
  |_,_=>none
 | .call { callee:=.builtin .max,args,.. }=>match args.toList with
  |[x,y]=>some (.mx true x y)
  |_=>none
 | .call { callee:=.builtin .min,args,.. }=>match args.toList with
  |[x,y]=>some (.mx false x y)
  |_=>none
 | .call { callee:=.value (.func f),args,.. }=>match P.funcs[f]? with
  | some fn => if fn.name == "runtime.NumGoroutine" || fn.body.isNone then none else some (.call f args.toList)
  |none=>none
 | .call { callee:=.value x,args,.. }=>some (.iB x args.toList)
 | .convert src dst x=>match P.underlying src,P.underlying dst with
  |some (.int _),some (.int k)=>some (.conv k x)
  |some (.slice e),some .string=>match P.underlying e with
   |some (.int .u8)=>some (.LD x)
   |_=>none
  |_,_=>none
 | .makeMap t none=>match P.underlying t with
  |some (.map k _)=>some (.FY k)
  |_=>none
 | .lookup t m x true=>match P.underlying t with
  |some (.map k e)=>match (P.info? e).bind (·.zero) with
   |some z=>if fH z=true then some (.look k z m x) else none
   |none=>none
  |_=>none
 | .lookup t m x false=>match P.underlying t with
  |some (.map k _)=>some (.Oh k m x)
  |_=>none
 | .mapUpdate t m x v=>match P.underlying t with
  |some (.map k _)=>some (.LI k m x v)
  |_=>none
 | .makeInterface t x=>match P.underlying t with
  |some (.interface _)=>none
  |some _=>some (.ND t x)
  |none=>none
 |_=>none
def MH(n:Nat)(o:Oper):Bool:=match o.dst with
 |some d=>decide (d<n)
 |none=>true
def mU(o:Oper):List Nat:=(o.after.toList.filter<|Region.binds .any).map (·.on)
def yj(ms:List Nat):List Nat->Nat
 |[]=>0
 |i::r=>2^i ||| ms.getD i 0 ||| yj ms r
def qE:List Nat->List Oper->List Nat
 |acc,[]=>acc
 |acc,o::r=>qE (acc++[yj acc<|mU o]) r
def Hq(ops:Array Oper)(m:Nat)(o:Oper):Nat->List Oper->Bool
 |_,[]=>true
 |i,x::r=>(m.testBit i||x.apart ops o)&&Hq ops m o (i+1) r
def zp(ops:Array Oper)(ms:List Nat):List Oper->List Oper->Bool
 |_,[]=>true
 |pre,o::r=>(mU o).all (·<pre.length)&&Hq ops (ms.getD pre.length 0) o 0 pre&&zp ops ms (pre++[o]) r
def Mc(P:bt)(n:Nat)(ops:Array Oper)(mask:Nat)(o:Oper):Option cE :=
 match MH n o,cop P o,o.guard with
 |true,some p,none=>some ⟨o.dst,p,none,mask⟩
 |true,some p,some (j,b)=>match (ops[j]?).bind (·.dst) with
  |some t=>some ⟨o.dst,p,some (t,b),mask⟩
  |none=>none
 |_,_,_=>none
def oD(P:bt)(n:Nat)(ops:Array Oper):List Nat->List Oper->Option (List cE)
 |_,[]=>some []
 |ms,o::r=>match Mc P n ops (ms.headD 0) o,oD P n ops ms.tail r with
  |some p,some l=>some<|p::l
  |_,_=>none
def FN(P:bt)(n:Nat)(ops:Array Oper)(draw:Bool):Option (List cE) :=
 match draw with
 |false=>oD P n ops [] ops.toList
 |true=>match P.follows .mixedOrders&&zp ops (qE [] ops.toList) [] ops.toList with
  |true=>oD P n ops (qE [] ops.toList) ops.toList
  |false=>none
def comp(P:bt)(n:Nat):Code->Option PC
 | .skip=>some .skip
 | .region _ ops draw=>(FN P n ops draw).map (.ops · draw)
 | .seq a b=>match comp P n a,comp P n b with
  |some x,some y=>some (.seq x y)
  |_,_=>none
 | .cond c a b=>match comp P n a,comp P n b with
  |some x,some y=>some (.cond c x y)
  |_,_=>none
 | .block id c=>(comp P n c).map (.block id)
 | .loop c=>(comp P n c).map .loop
 | .exit id=>some (.exit id)
 | .ret=>some .ret
 |_=>none
structure iE(n:Nat)(J:aX)(F:Nat->Prop)(env:Env)(H:List an)(a:Act)(w:aU):Prop where
 defers:a.defers=[]
 size:a.tmps.size=n
 tmps:∀t,rep J F w (gj t env)<|a.tmps.getD t undef
 ok:cr J F w λi=>H[i]?
 dom:∀id,J id≠none->id<H.length
abbrev iC:=Exit->Env->List an->Prop
@[irreducible] def PWp(P:bt)(n:Nat)(p:PC)(Q:iC)(env:Env)(H:List an):Prop :=
 ∀c,comp P n c=some p.bare->∀(J:aX) (F:Nat->Prop) (a:Act) (w:aU),iE n J F env H a w ->
  c.wp P (λe a' w'=>∃env' H' J' F',Q e env' H'/\iE n J' F' env' H' a' w'/\Ext J F w J' F' w') a w
def pw(P:bt)(n:Nat):PC->iC->Env->List an->Prop
 | .skip,Q,env,H=>Q .normal env H
 | .ops l d,Q,env,H=>match d with
  |false=>lf P l env H λenv H=>Q .normal env H
  |true=>Ih P l env H λenv H=>Q .normal env H
 | .seq a b,Q,env,H=>pw P n a (λe env H=>match e with
  | .normal=>pw P n b Q env H
  |e=>Q e env H) env H
 | .cond c a b,Q,env,H=>dq env c λd=>match d with
  | .sc (.bool t)=>ifK t (pw P n a Q env H)<|pw P n b Q env H
  |_=>False
 | .block id c,Q,env,H=>pw P n c (λe env H=>match e with
  | .exit ij=>match Nat.beq ij id with
   |true=>Q .normal env H
   |false=>Q (.exit ij) env H
  |e=>Q e env H) env H
 | .loop c,Q,env,H=>PWp P n (.loop c) Q env H
 | .exit id,Q,env,H=>Q (.exit id) env H
 | .ret,Q,env,H=>Q .ret env H
 | .stop c,Q,env,H=>PWp P n c Q env H
def St.le(n:Nat)(env:Env)(H:List an)(env':Env)(H':List an):Prop:=∀J F a w,iE n J F env H a w->∃J' F',iE n J' F' env' H' a w/\Ext J F w J' F' w
def qA(env:Env):Env->Prop
 |[]=>True
 |(t,d)::r=>gj t env=d/\qA env r
def zDl{ι:Type}(n:Nat)(Q:iC)(E:ι->Env)(O:ι->List an)(G:ι->Prop)(m:ι->Nat)(k:Nat):iC
 | .normal,env,H=>∃j,G j/\m j<k/\St.le n env H (E j) (O j)
 |e,env,H=>Q e env H
inductive RV where
 |tmp (t:Nat)
 |agg (t n:Nat)
 |one (t:Nat)
def crv(P:bt):ResultVar->Option RV
 | .tmp t=>some (.tmp t)
 | .cell t ty=>match nU P ty with
  |some true=>some (.agg t<|P.cellsOf ty)
  |some false=>some (.one t)
  |none=>none
def wk(P:bt):List ResultVar->Option (List RV)
 |[]=>some []
 |r::l=>match crv P r,wk P l with
  |some x,some y=>some<|x::y
  |_,_=>none
structure pj(P:bt)(f:FuncId)(n:Nat)(rs:List RV)(p:PC):Prop where
 out : ∃ fn, P.funcs[f]? = some fn ∧ fn.ntmps = n ∧ (fn.name == "runtime.NumGoroutine") = false ∧ wk P fn.results.toList = some rs ∧ fn.body.bind (comp P n) = some p.bare
def uH(env:Env)(H:List an):List RV->(List D->Prop)->Prop
 |[],K=>K []
 | .tmp t::r,K=>rh t (λd=>uH env H r λds=>K<|d::ds) env
 | .agg t n::r,K=>rh t (λd=>match d with
  | .loc id off=>jn H id λo=>match o with
   | .row _ cs=>qF cs off λfC=>sM fC n λc=>uH env H r λds=>K (.agg c::ds)
   |_=>False
  |_=>False) env
 | .one t::r,K=>rh t (λd=>match d with
  | .loc id off=>jn H id λo=>match o with
   | .row _ cs=>atK cs off λc=>uH env H r λds=>K<|c::ds
   |_=>False
  |_=>False) env
def BZ(rs:List RV)(R:D->List an->Prop):iC
 | .normal,env,H|.ret,env,H=>uH env H rs λds=>match ds with
  |[d]=>R d H
  |ds=>R (.aJ ds) H
 |_,_,_=>False
def params:Nat->List D->Env
 |_,[]=>[]
 |k,d::r=>(k,d)::params (k+1) r
mutual
def Pure:D->Prop
 | .dB|.sc _|.gv _=>True
 | .loc ..|.elt ..|.own ..|.mp ..=>False
 | .aN cs|.agg cs|.aJ cs=>ao cs
 | .a8 _ xs=>dX xs
 | .fn _ a b=>ao a/\ao b
 | .ifc _ d=>Pure d
def ao:List D->Prop
 |[]=>True
 |d::r=>Pure d/\ao r
def dX:List (List D)->Prop
 |[]=>True
 |d::r=>ao d/\dX r
end
section
def upd(G:Nat->Option an)(wr:List Nat)(H2:List an):Nat->Option an:=λid=>if id∈wr then H2[id]? else G id
theorem z8(G:Nat->Option an)(H2:List an):upd G [] H2=G:=by funext id;simp[upd]
structure OpS(P:bt)(o:Oper)(env:Env)(rd wr:List Nat)(H:List an)(d:D)(H2:List an):Prop where
 frame:∀id,id ∉ wr->H2[id]? = H[id]?
 len:H.length<=H2.length
 lt:∀id∈wr,id<H2.length
 run:∀(J:aX) (F:Nat->Prop) (w:aU) (a:Act) (G:Nat->Option an),cr J F w G->(∀x∈o.op.operands,rep J F w (fh env x)<|a.eval x) ->
  (∀id,id∈rd\/id∈wr->G id=H[id]?)->(∀id,H.length<=id->id∈wr->J id=none) ->
  ∀(K:Act->aU->Prop) (Q:Exit->Act->aU->Prop),
   (∀v w' J' F',rep J' F' w' d v->cr J' F' w' (upd G wr H2)->Ext J F w J' F' w'->(∀id,J id=none->id ∉ wr->J' id=none)->K (a.put o.dst v) w')->o.wp P a w K Q
theorem OpS.value{P:bt}{o:Oper}{env:Env}{rd:List Nat}{H:List an}{d:D}
  (h:∀(J:aX) (F:Nat->Prop) (w:aU) (a:Act) (G:Nat->Option an),cr J F w G->(∀x∈o.op.operands,rep J F w (fh env x)<|a.eval x) ->
   (∀id∈rd,G id=H[id]?)->∃v,(execOp a.eval o).run P w=.ok (.value v) w/\rep J F w d v):OpS P o env rd [] H d H where
 frame _ _:=rfl
 len:=aI _
 lt _ h:=by cases h
 run J F w a G aA aR cW _ K Q hK:=by
  obtain⟨v,h1,h2⟩:=h J F w a G aA aR λid hid=>cW id (.inl hid);unfold Oper.wp;rw[h1,Oper.upon_value];exact hK v w J F h2 (by rw[z8];exact aA) (Ext.refl _ _ _) λ_ h _=>h
theorem xV(t:Nat)(K:D->Prop):∀env,rh t K env=K (gj t env)
 |[]=>rfl
 |(k,d)::r=>by
  simp only[rh,gj];cases Nat.beq t k
  ·exact xV t K r
  rfl
theorem Gk:∀(l:List aH) (K:List D->Prop),scK l K=K (l.map .sc)
 |[],K=>rfl
 |v::r,K=>by simp only[scK,Gk r,dR]
theorem fz(env:Env)(x:aT)(K:D->Prop):dq env x K=K (fh env x):=by
 cases x with
 |tmp t=>exact xV t K env
 |const v=>cases v<;>first|rfl|simp only[dq,fh,lift,Gk]
 |global g=>rfl
 |func f=>rfl
theorem IV(env:Env):∀(xs:List aT) (K:List D->Prop),Aj env xs K=K (xs.map<|fh env)
 |[],K=>rfl
 |x::r,K=>by simp only[Aj,fz,IV env r,dR]
theorem uC:∀(cs:List D) (n:Nat) (K:D->Prop),atK cs n K↔∃c,cs[n]? = some c/\K c
 |[],n,K=>by simp[atK]
 |c::r,0,K=>by simp[atK]
 |c::r,n+1,K=>by simp only[atK,Fv];exact uC r n K
theorem zP:∀(cs:List D) (n:Nat) (K:List D->Prop),sM cs n K↔n<=cs.length/\K (cs.take n)
 |cs,0,K=>by simp[sM]
 |[],n+1,K=>by simp[sM]
 |c::r,n+1,K=>by simp only[sM,zP r n,cj,Ey,Nat.add_le_add_iff_right]
theorem z7:∀(cs:List D) (n:Nat) (K:List D->Prop),qF cs n K↔n<=cs.length/\K (cs.drop n)
 |cs,0,K=>by cases cs<;>simp[qF]
 |[],n+1,K=>by simp[qF]
 |c::r,n+1,K=>by simp only[qF,z7 r n,cj,FV,Nat.add_le_add_iff_right]
theorem kr:∀(H:List an) (n:Nat) (K:an->Prop),jn H n K↔∃c,H[n]? = some c/\K c
 |[],n,K=>by simp[jn]
 |c::r,0,K=>by simp[jn]
 |c::r,n+1,K=>by simp only[jn,Fv];exact kr r n K
theorem uP:∀(H:List an) (n:Nat) (o:an) (K:List an->Prop),oI H n o K↔n<H.length/\K (H.set n o)
 |[],n,o,K=>by simp[oI]
 |c::r,0,o,K=>by simp[oI]
 |c::r,n+1,o,K=>by simp only[oI,uP r n,cj,List.set_cons_succ,Nat.add_lt_add_iff_right]
theorem wx:∀(H:List an) (o:an) (K:List an->Nat->Prop),rz H o K↔K (H++[o]) H.length
 |[],o,K=>by simp[rz]
 |c::r,o,K=>by simp only[rz,wx r,cj,mJ]
theorem Cy:∀(r:List D) (n:Nat) (cs:List D) (K:List D->Prop),pQ r n cs K↔n+cs.length<=r.length/\K (r.take n++cs++r.drop (n+cs.length))
 |[],0,[],K=>by simp[pQ]
 |[],0,c::cs,K=>by simp[pQ]
 |[],n+1,cs,K=>by simp[pQ]
 |x::r,0,[],K=>by simp[pQ]
 |x::r,0,c::cs,K=>by
  simp only[pQ,Cy r 0 cs,cj,zC,m9,jP,mJ,FV,Nat.add_le_add_iff_right]
 |x::r,n+1,cs,K=>by
  simp only[pQ,Cy r n cs,cj,Ey,mJ];rw[show n+1+cs.length=n+cs.length+1 by omega,FV,Nat.add_le_add_iff_right]
theorem po(a b:Nat)(A:Prop):nW a b A↔a=b/\A:=by
 unfold nW;cases e:Nat.beq a b
 ·simp only[false_iff,not_and];intro h;subst h;simp at e
 simp[Ch e]
def D.cells:D->List D
 | .agg cs=>cs
 |d=>[d]
def storable(d:D):Bool:=match d with
 | .agg cs=>Bq cs
 |d=>ux d
theorem HK(d:D)(K:List D->Prop):Bf d K↔storable d/\K d.cells:=by
 cases d<;>simp only[Bf,storable,D.cells]
 all_goals
  first
  |(generalize e:Bq _=b;cases b<;>simp)
  |(generalize e:ux _=b;cases b<;>simp)
section
variable{J:aX}{F:Nat->Prop}{w:aU}
theorem VE:∀(cs:List D),Bq cs->∀c∈cs,ux c=true
 |[],_,c,h=>by cases h
 |c::r,h,d,hd=>by
  simp only[Bq] at h
  cases e:ux c with
  |false=>rw[e] at h;cases h
  |true =>
   rw[e] at h;rcases dD.1 hd with rfl|hd
   ·exact e
   exact VE r h d hd
theorem Tg{c:D}{v:aH}(h:ux c)(k:rep J F w c v):fH v:=by
 cases c<;>simp only[rep] at k
 case sc u=>subst k;cases v<;>first|rfl|simp[ux] at h
 case loc=>obtain⟨_,_,_,_,_,rfl⟩:=k;rfl
 case aN=>obtain⟨_,_,rfl,_⟩:=k;rfl
 case a8=>obtain⟨_,_,_,rfl,_⟩:=k;rfl
 case fn=>obtain⟨_,_,rfl,_⟩:=k;rfl
 case ifc=>obtain⟨_,rfl,_⟩:=k;rfl
 case elt=>obtain⟨_,_,_,rfl,_⟩:=k;rfl
 case own=>obtain⟨_,_,_,_,_,rfl,_⟩:=k;rfl
 case mp=>obtain⟨_,_,_,_,_,rfl⟩:=k;rfl
 case gv=>exact k.2.2
 all_goals simp[ux] at h
end
theorem Au(k:IntKind)(z:Int)(K:D->Prop)(h:wN k z K):K (.sc (.int k<|k.wrap z)):=by
 rcases h with⟨h1,h2⟩|h
 ·unfold dW at h1;rw[h1];exact h2
 exact h _ rfl
variable(P:bt)
theorem ng(w:aU)(op:BinOp)(t:aY)(x y:aT)(k k':IntKind)(a b:Int):(eqGuard op t x y (.int k a) (.int k' b)).run P w=.ok () w:=by
 cases op<;>simp[eqGuard,pure,Sem.run]
theorem SV(w:aU)(op:BinOp)(t:aY)(x y:aT)(a b:aM):(eqGuard op t x y (.string a) (.string b)).run P w=.ok () w:=by
 cases op<;>simp[eqGuard,pure,Sem.run]
theorem QO(w:aU)(op:BinOp)(t:aY)(x y:aT)(a b:Bool):(eqGuard op t x y (.bool a) (.bool b)).run P w=.ok () w:=by
 cases op<;>simp[eqGuard,pure,Sem.run]
theorem Wb{k k':IntKind}(h:Nat.beq (B7 k)<|B7 k'):k=k':=by
 cases k<;>cases k'<;>first|rfl|cases h
theorem zpV(op:BinOp)(dx dy:D)(K:D->Prop)(h:OH op dx dy K) :
  ∃u v r,dx=.sc u/\dy=.sc v/\K (.sc r)/\∀(P:bt) (w:aU) (t:aY) (x y:aT),((do eqGuard op t x y u v;binOp op t u v:Sem aH)).run P w=.ok r w:=by
 unfold OH at h;split at h
 ·rename_i k a k' b;split at h
  ·obtain⟨h0,h⟩:=h;refine⟨_,_,_,rfl,rfl,Au _ _ _ h,λP w t x y=>?_⟩;simp[ng,binOp,Op.shift,show ¬b<0 by omega,pure,Sem.run]
  ·obtain⟨h0,h⟩:=h;refine⟨_,_,_,rfl,rfl,h,λP w t x y=>?_⟩;simp[ng,binOp,Op.shift,show ¬b<0 by omega,pure,Sem.run]
  rename_i Hm QK;split at h
  ·exact h.elim
  rename_i hk;have hk:=Wb hk;subst hk;cases op<;>simp only at h;all_goals try exact h.elim
  case add=>exact⟨_,_,_,rfl,rfl,Au _ _ _ h,λP w t x y=>by simp[ng,binOp,Op.intArith,pure,Sem.run]⟩
  case sub=>exact⟨_,_,_,rfl,rfl,Au _ _ _ h,λP w t x y=>by simp[ng,binOp,Op.intArith,pure,Sem.run]⟩
  case mul=>exact⟨_,_,_,rfl,rfl,Au _ _ _ h,λP w t x y=>by simp[ng,binOp,Op.intArith,pure,Sem.run]⟩
  case quo=>exact⟨_,_,_,rfl,rfl,Au _ _ _ h.2,λP w t x y=>by simp[ng,binOp,Op.intDiv,pure,Sem.run,h.1]⟩
  case rem=>exact⟨_,_,_,rfl,rfl,h.2,λP w t x y=>by simp[ng,binOp,Op.intDiv,pure,Sem.run,h.1]⟩
  case eql=>exact⟨_,_,_,rfl,rfl,h,λP w t x y=>by simp[ng,binOp,Op.intCmp,pure,Sem.run]⟩
  case neq=>exact⟨_,_,_,rfl,rfl,h,λP w t x y=>by simp[ng,binOp,Op.intCmp,pure,Sem.run]⟩
  case lss=>exact⟨_,_,_,rfl,rfl,h,λP w t x y=>by simp[ng,binOp,Op.intCmp,pure,Sem.run]⟩
  case leq=>exact⟨_,_,_,rfl,rfl,h,λP w t x y=>by simp[ng,binOp,Op.intCmp,pure,Sem.run]⟩
  case gtr=>exact⟨_,_,_,rfl,rfl,h,λP w t x y=>by simp[ng,binOp,Op.intCmp,pure,Sem.run]⟩
  case geq=>exact⟨_,_,_,rfl,rfl,h,λP w t x y=>by simp[ng,binOp,Op.intCmp,pure,Sem.run]⟩
  case and=>exact⟨_,_,_,rfl,rfl,h,λP w t x y=>by simp[ng,binOp,Op.intBits,pure,Sem.run,gF]⟩
  case or=>exact⟨_,_,_,rfl,rfl,h,λP w t x y=>by simp[ng,binOp,Op.intBits,pure,Sem.run,gF]⟩
  case xor=>exact⟨_,_,_,rfl,rfl,h,λP w t x y=>by simp[ng,binOp,Op.intBits,pure,Sem.run,gF]⟩
  case andNot=>exact⟨_,_,_,rfl,rfl,h,λP w t x y=>by simp[ng,binOp,Op.intBits,pure,Sem.run,gF]⟩
 ·rename_i a b;cases op<;>simp only at h;all_goals try exact h.elim
  case add=>exact⟨_,_,_,rfl,rfl,h.2,λP w t x y=>by
   have h1:=h.1;have h2:(a.size:Int)+(b.size:Int)<=9223372036854775807:=(by omega);simp[SV,binOp,Op.stringOp,pure,Sem.run,h2]⟩
  all_goals exact⟨_,_,_,rfl,rfl,h,λP w t x y=>by simp[SV,binOp,Op.stringOp,pure,Sem.run]⟩
 exact h.elim
section
variable{P:bt}{seq:Bool}{o:Oper}{env:Env}{H:List an}{K:oW}
def Sound(P:bt)(o:Oper)(env:Env)(H:List an)(K:oW):Prop:=∃d H2 rd wr,OpS P o env rd wr H d H2/\K d H2 rd wr
theorem fj{d:D}{rd:List Nat}(hK:K d H rd [])
  (h:∀(J:aX) (F:Nat->Prop) (w:aU) (a:Act) (G:Nat->Option an),cr J F w G->(∀x∈o.op.operands,rep J F w (fh env x)<|a.eval x) ->
   (∀id∈rd,G id=H[id]?)->∃v,(execOp a.eval o).run P w=.ok (.value v) w/\rep J F w d v):Sound P o env H K:=⟨d,H,rd,[],OpS.value h,hK⟩
variable{x:aT}
theorem V6(ho:o.op=.move x\/o.op=.assign x)(h:step P seq (.move x) env H K):Sound P o env H K:=by
 simp only[step,fz] at h;refine fj h λJ F w a G _ aR _=>⟨a.eval x,?_,?_⟩
 ·rcases ho with e|e<;>simp[execOp,e,pure,Sem.run]
 rcases ho with e|e<;>exact aR x<|by simp[e,Op.operands]
theorem zxI{A B:Prop}:ifK true A B=A:=rfl
theorem zty{A B:Prop}:ifK false A B=B:=rfl
variable{y:aT}
theorem zCI{c:aT}(ho:o.op=.pick c x y)(h:step P seq (.pick c x y) env H K):Sound P o env H K:=by
 simp only[step,fz] at h
 cases hc:fh env c with
 |sc u =>
  cases u with
  |bool t =>
   rw[hc] at h
   cases t with
   |true =>
    simp only[zxI] at h;refine fj h λJ F w a G _ aR _=>⟨a.eval x,?_,aR x<|by simp[ho,Op.operands]⟩;have h1:=aR c (by simp[ho,Op.operands]);rw[hc] at h1;simp only[rep] at h1;simp[execOp,ho,pure,Sem.run,h1,asBool]
   |false =>
    simp only[zty] at h;refine fj h λJ F w a G _ aR _=>⟨a.eval y,?_,aR y<|by simp[ho,Op.operands]⟩;have h1:=aR c (by simp[ho,Op.operands]);rw[hc] at h1;simp only[rep] at h1;simp[execOp,ho,pure,Sem.run,h1,asBool]
  |_=>rw[hc] at h;exact h.elim
 |_=>rw[hc] at h;exact h.elim
theorem zvR(ho:o.op=.nilCheck x)(h:step P seq (.fO x) env H K):Sound P o env H K:=by
 simp only[step,fz] at h;have key:∀v,(∃a,v=Value.pointer (some a))\/(∃f us vs,v=.func (.func f) us vs)->∀(w:aU) (ρ:aT->aH),ρ x=v->(execOp ρ o).run P w=.ok (.value v) w:=by
  rintro v (⟨a,rfl⟩|⟨f,us,vs,rfl⟩) w ρ e<;>simp[execOp,ho,e,pure,Sem.run]
 cases hx:fh env x with
 |loc id off =>
  rw[hx] at h;refine fj h λJ F w a G _ aR _=>?_;have h1:=aR x (by simp[ho,Op.operands]);rw[hx] at h1;refine⟨_,key _ (.inl ?_) w _ rfl,h1⟩;simp only[rep] at h1;obtain⟨_,_,_,_,_,e⟩:=h1;exact⟨_,e⟩
 |elt id aw i off =>
  rw[hx] at h;refine fj h λJ F w a G _ aR _=>?_;have h1:=aR x (by simp[ho,Op.operands]);rw[hx] at h1;refine⟨_,key _ (.inl ?_) w _ rfl,h1⟩;simp only[rep] at h1;obtain⟨_,_,_,e,_⟩:=h1;exact⟨_,e⟩
 |aN cs =>
  rw[hx] at h;refine fj h λJ F w a G _ aR _=>?_;have h1:=aR x (by simp[ho,Op.operands]);rw[hx] at h1;refine⟨_,key _ (.inl ?_) w _ rfl,h1⟩;simp only[rep] at h1;obtain⟨_,_,e,_⟩:=h1;exact⟨_,e⟩
 |fn f first cap =>
  rw[hx] at h
  cases f with
  |func f =>
   refine fj h λJ F w a G _ aR _=>?_;have h1:=aR x (by simp[ho,Op.operands]);rw[hx] at h1;refine⟨_,key _ (.inr ?_) w _ rfl,h1⟩;simp only[rep] at h1;obtain⟨_,_,e,_⟩:=h1;exact⟨_,_,_,e⟩
  |_=>exact h.elim
 |_=>rw[hx] at h;exact h.elim
variable{op:BinOp}{t yt:aY}
theorem Zx(ho:o.op=.binOp op t x y yt)(h:step P seq (.bin op x y) env H K):Sound P o env H K:=by
 simp only[step,fz] at h;obtain⟨u,v,r,h1,h2,h3,h4⟩:=zpV _ _ _ _ h;refine fj h3 λJ F w a G _ aR _=>⟨r,?_,by simp only[rep]⟩;have k1:=aR x (by simp[ho,Op.operands]);have k2:=aR y (by simp[ho,Op.operands]);rw[h1] at k1;rw[h2] at k2;simp only[rep] at k1 k2;simp only[execOp,ho,k1,k2];have:=h4 P w t x y;simp only[Sem.run_bind] at this⊢;rw[this];rfl
theorem run_equal_bool(ht:P.underlying t=some .bool)(a b:Bool)(w:aU):(Op.equal t (.bool a) (.bool b)).run P w=.ok (a==b) w:=by
 unfold Op.equal;rw[show Op.maxDepth=9999+1 from rfl];unfold Op.equalIn;simp[underlying,program,Sem.run,ht,pure]
variable{neq:Bool}
theorem SC(kB:op=if neq then .neq else .eql)(ht:P.underlying t=some .bool)(ho:o.op=.binOp op t x y yt)(h:step P seq (.eqb neq x y) env H K):Sound P o env H K:=by
 simp only[step,fz] at h;unfold eqbK at h;split at h
 ·rename_i u v e1 e2
  cases neq with
  |false =>
   simp only[yQ,if_false] at kB;refine fj h λJ F w a G _ aR _=>⟨_,?_,rfl⟩;have k1:=aR x (by simp[ho,Op.operands]);have k2:=aR y (by simp[ho,Op.operands]);rw[e1] at k1;rw[e2] at k2;simp only[rep] at k1 k2;simp[execOp,ho,k1,k2,kB,QO,binOp,run_equal_bool ht,Sem.run,pure]
  |true =>
   simp only[if_true] at kB;refine fj h λJ F w a G _ aR _=>⟨_,?_,rfl⟩;have k1:=aR x (by simp[ho,Op.operands]);have k2:=aR y (by simp[ho,Op.operands]);rw[e1] at k1;rw[e2] at k2;simp only[rep] at k1 k2;simp[execOp,ho,k1,k2,kB,QO,binOp,run_equal_bool ht,Sem.run,pure]
 exact h.elim
theorem O9{c:Nat}{x y:D}{K:Bool->Prop}(h:OE c x y K) :
  ∃u v b,x=.sc u/\y=.sc v/\K b/\∀(P:bt) (t:aY),ym P t=some c->(∀(us:Array aH) (i:Nat) (w:aU) (z:aH),us[i]? = some z->(part t us i).run P w=.ok z w)/\∀d w,(Op.equalIn (d+1) t u v).run P w=.ok b w:=by
 unfold OE at h;split at h
 ·rename_i k a k' b;obtain⟨e1,h2⟩:=(po _ _ _).1 h;have e1:k=k':=Wb (by rw[e1];exact Nat.beq_refl _);subst e1;refine⟨_,_,_,rfl,rfl,h2,λP t ht=>?_⟩;unfold ym at ht;split at ht<;>try (cases ht;done)
  rename_i k0 e;exact⟨λus i w z hz=>by simp[part,isAgg,run_underlying e,hz],λd w=>run_equalIn_int w d t k k0 a b e⟩
 ·refine⟨_,_,_,rfl,rfl,h,λP t ht=>?_⟩;unfold ym at ht;split at ht<;>try (cases ht;done)
  rename_i e;exact⟨λus i w z hz=>by simp[part,isAgg,run_underlying e,hz],λd w=>run_equalIn_bool' w d t _ _ e⟩
 ·refine⟨_,_,_,rfl,rfl,h,λP t ht=>?_⟩;unfold ym at ht;split at ht<;>try (cases ht;done)
  rename_i e;exact⟨λus i w z hz=>by simp[part,isAgg,run_underlying e,hz],λd w=>run_equalIn_string w d t _ _ e⟩
 exact h.elim
theorem Uy:∀{ks:List Nat} {xs ys:List D} {K:Bool->Prop},xN ks xs ys K->∃b,K b /\
  ∀(P:bt) (us vs:Array aH) (J:aX) (F:Nat->Prop) (w0:aU) (fs:List Field) (i:Nat),EO P i fs=some ks ->
   bj J F w0 xs (us.toList.drop i)->bj J F w0 ys (vs.toList.drop i)->∀d w,(Op.eqFields (d+1) us vs fs).run P w=.ok b w
 |[],xs,ys,K,h=>by
  cases xs<;>cases ys<;>simp only[xN] at h;refine⟨_,h,λP us vs J F w0 fs i hf _ _ d w=>?_⟩
  cases fs with
  |nil=>simp[Op.eqFields,Sem.run,pure]
  |cons f r =>
   simp only[EO] at hf;repeat' (split at hf)
   all_goals cases hf
 |c::cs,xs,ys,K,h=>by
  cases xs<;>cases ys<;>simp only[xN] at h;rename_i x xs y ys;obtain⟨u,v,b,rfl,rfl,h,hP⟩:=O9 h;obtain⟨q,hq,hR⟩:=Uy h;refine⟨_,hq,λP us vs J F w0 fs i hf h1 h2 d w=>?_⟩
  cases fs with
  |nil=>cases hf
  |cons f r =>
   simp only[EO] at hf;split at hf
   ·rename_i hc;split at hf
    ·rename_i c' fC e1 e2;cases hf;obtain⟨hp,he⟩:=hP P f.type e1;simp only[bj,rep] at h1 h2;obtain⟨u',Ls,g1,rfl,g2⟩:=h1;obtain⟨v',No,g3,rfl,g4⟩:=h2;have k1:us[i]? = some u':=by
      have:=bK (λl=>l[0]?) g1;simpa using this
     have k2:vs[i]? = some v':=by
      have:=bK (λl=>l[0]?) g3;simpa using this
     have k3:us.toList.drop (i+1)=Ls:=by
      have:=bK List.tail g1;simpa [List.tail_drop] using this
     have k4:vs.toList.drop (i+1)=No:=by
      have:=bK List.tail g3;simpa [List.tail_drop] using this
     have hr:=hR P us vs J F w0 r (i+1) e2 (k3▸g2) (k4▸g4) d;have p1:=hp us i w u' k1;have p2:=hp vs i w v' k2;simp only[Op.eqFields,ae hc.1,hc.2,Sem.run_bind,p1,p2,Result.andThen_ok,he d w,Sem.run_ite];cases b
     ·simp[Sem.run,pure]
     simp[hr w]
    cases hf
   cases hf
theorem WX{c:Nat}:∀{n:Nat} {xs ys:List D} {K:Bool->Prop},xN (List.replicate n c) xs ys K->∃b,K b /\
  ∀(P:bt) (us vs:Array aH) (J:aX) (F:Nat->Prop) (w0:aU) (e:aY) (i:Nat),ym P e=some c ->
   bj J F w0 xs (us.toList.drop i)->bj J F w0 ys (vs.toList.drop i)->∀d w,(Op.eqItems (d+1) e 1 us vs<|List.range' i n).run P w=.ok b w
 |0,xs,ys,K,h=>by
  cases xs<;>cases ys<;>simp only[List.replicate,xN] at h;exact⟨_,h,λP us vs J F w0 e i hf _ _ d w=>by simp[Op.eqItems,Sem.run,pure]⟩
 |n+1,xs,ys,K,h=>by
  cases xs<;>cases ys<;>simp only[List.replicate,xN] at h;rename_i x xs y ys;obtain⟨u,v,b,rfl,rfl,h,hP⟩:=O9 h;obtain⟨q,hq,hR⟩:=WX h;refine⟨_,hq,λP us vs J F w0 e i hf h1 h2 d w=>?_⟩;obtain⟨hp,he⟩:=hP P e hf;simp only[bj,rep] at h1 h2;obtain⟨u',Ls,g1,rfl,g2⟩:=h1;obtain⟨v',No,g3,rfl,g4⟩:=h2;have k1:us[i]? = some u':=by
   have:=bK (λl=>l[0]?) g1;simpa using this
  have k2:vs[i]? = some v':=by
   have:=bK (λl=>l[0]?) g3;simpa using this
  have k3:us.toList.drop (i+1)=Ls:=by
   have:=bK List.tail g1;simpa [List.tail_drop] using this
  have k4:vs.toList.drop (i+1)=No:=by
   have:=bK List.tail g3;simpa [List.tail_drop] using this
  have hr:=hR P us vs J F w0 e (i+1) hf (k3▸g2) (k4▸g4) d;have p1:=hp us i w u' k1;have p2:=hp vs i w v' k2;simp only[List.range'_succ,Op.eqItems,AE,Sem.run_bind,p1,p2,Result.andThen_ok,he d w,Sem.run_ite];cases b
  ·simp[Sem.run,pure]
  simp[hr w]
theorem XJ{ks:List Nat}(kB:op=if neq then .neq else .eql)(ht:IQ P t=some ks)(ho:o.op=.binOp op t x y yt)(h:step P seq (.eqa neq ks x y) env H K):Sound P o env H K:=by
 simp only[step,fz] at h;unfold IQ at ht;split at ht
 ·rename_i fs hu;split at ht
  ·rename_i hg;unfold L2 at h;split at h
   ·rename_i xs ys e1 e2;have QX:P.fieldsOf t=fs:=(by simp[Program.fieldsOf,hu]);obtain⟨b,hK,hr⟩:=Uy h;refine fj hK λJ F w a G _ aR _=>?_;have k1:=aR x (by simp[ho,Op.operands]);have k2:=aR y (by simp[ho,Op.operands]);rw[e1] at k1;rw[e2] at k2;simp only[rep] at k1 k2;obtain⟨us,k1,r1⟩:=k1;obtain⟨vs,k2,r2⟩:=k2;have iz:=hr P us.toArray vs.toArray J F w fs.toList 0 ht (by simpa using r1) (by simpa using r2) 9998 w;have heq:(Op.equalIn 10000 t (.agg us.toArray) (.agg vs.toArray)).run P w=.ok b w:=by
     rw[show(10000:Nat)=9999+1 from rfl,run_equalIn_struct w 9999 t _ _ (by rw[QX];exact hu) hg.1,QX];exact iz
    cases neq with
    |false =>
     simp only[yQ,if_false] at kB;exact⟨_,by simp[execOp,ho,k1,k2,kB,run_eqGuard_agg w _ t x y _ _ hg.2,run_eql_struct,heq,Sem.run,pure,uo],rfl⟩
    |true =>
     simp only[if_true] at kB;exact⟨_,by simp[execOp,ho,k1,k2,kB,run_eqGuard_agg w _ t x y _ _ hg.2,run_neq_struct,heq,Sem.run,pure,uo],rfl⟩
   exact h.elim
  cases ht
 ·rename_i n e hu;split at ht
  ·rename_i hg
   cases L7:ym P e with
   |none=>rw[L7] at ht;cases ht
   |some c =>
    rw[L7] at ht;cases ht;obtain⟨inf,hi⟩:=Option.isSome_iff_exists.1 hg.2.2;unfold L2 at h;split at h
    ·rename_i xs ys e1 e2;obtain⟨b,hK,hr⟩:=WX h;refine fj hK λJ F w a G _ aR _=>?_;have k1:=aR x (by simp[ho,Op.operands]);have k2:=aR y (by simp[ho,Op.operands]);rw[e1] at k1;rw[e2] at k2;simp only[rep] at k1 k2;obtain⟨us,k1,r1⟩:=k1;obtain⟨vs,k2,r2⟩:=k2;have iz:=hr P us.toArray vs.toArray J F w e 0 L7 (by simpa using r1) (by simpa using r2) 9998 w;have heq:(Op.equalIn 10000 t (.agg us.toArray) (.agg vs.toArray)).run P w=.ok b w:=by
      rw[show(10000:Nat)=9999+1 from rfl,run_equalIn_array w 9999 _ _ hu hi,hg.2.1,List.range_eq_range'];exact iz
     cases neq with
     |false =>
      simp only[yQ,if_false] at kB;exact⟨_,by simp[execOp,ho,k1,k2,kB,run_eqGuard_agg w _ t x y _ _ hg.1,run_eql_struct,heq,Sem.run,pure,uo],rfl⟩
     |true =>
      simp only[if_true] at kB;exact⟨_,by simp[execOp,ho,k1,k2,kB,run_eqGuard_agg w _ t x y _ _ hg.1,run_neq_struct,heq,Sem.run,pure,uo],rfl⟩
    exact h.elim
  cases ht
 cases ht
theorem s_un{op:UnOp}(ho:o.op=.unOp op t x)(h:step P seq (.un op x) env H K):Sound P o env H K:=by
 simp only[step,fz] at h;unfold unK at h;split at h
 ·rename_i b e;refine fj h λJ F w a G _ aR _=>⟨_,?_,rfl⟩;have k1:=aR x (by simp[ho,Op.operands]);rw[e] at k1;simp only[rep] at k1;simp[execOp,ho,k1,Op.unary,Sem.run,pure]
 ·rename_i k n e;refine fj (Au _ _ _ h) λJ F w a G _ aR _=>⟨_,?_,rfl⟩;have k1:=aR x (by simp[ho,Op.operands]);rw[e] at k1;simp only[rep] at k1;simp[execOp,ho,k1,Op.unary,Op.intArith,Sem.run,pure]
 exact h.elim
theorem zDN{i:Nat}(ho:o.op=.extract x i)(h:step P seq (.ext i x) env H K):Sound P o env H K:=by
 simp only[step,fz] at h;split at h
 ·rename_i cs e;obtain⟨c,h1,h2⟩:=(uC _ _ _).1 h;refine fj h2 λJ F w a G _ aR _=>?_;have k1:=aR x (by simp[ho,Op.operands]);rw[e] at k1;simp only[rep] at k1;obtain⟨vs,k2,k3⟩:=k1;obtain⟨v,k4,k5⟩:=qe _ _ _ _ h1 k3;refine⟨v,?_,k5⟩;simp[execOp,ho,k2,Instr.extract,k4,Sem.run,pure]
 exact h.elim
theorem ZB{f:Fn}{first cap:Array aT}(ho:o.op=.makeFunc f first cap)(h:step P seq (.n4 f first.toList cap.toList) env H K):Sound P o env H K:=by
 simp only[step,IV] at h;refine fj h λJ F w a G _ aR _=>⟨.func f (first.map a.eval)<|cap.map a.eval,?_,?_⟩
 ·simp[execOp,ho,Instr.makeFunc,Sem.run,pure]
 simp only[rep];refine⟨first.toList.map a.eval,cap.toList.map a.eval,?_,?_,?_⟩
 ·congr 1<;>(apply Array.ext' ;simp)
 ·refine E9 _ _ (by simp) λj d v hd hv=>?_;rw[cy] at hd hv
  cases e:first.toList[j]? with
  |none=>rw[e] at hd;cases hd
  |some x =>
   rw[e] at hd hv;simp only[xg,Option.some.injEq] at hd hv;subst hd;subst hv;exact aR x<|by simp[ho,Op.operands];exact .inl<|by simpa using kI e
 refine E9 _ _ (by simp) λj d v hd hv=>?_;rw[cy] at hd hv
 cases e:cap.toList[j]? with
 |none=>rw[e] at hd;cases hd
 |some x =>
  rw[e] at hd hv;simp only[xg,Option.some.injEq] at hd hv;subst hd;subst hv;exact aR x<|by simp[ho,Op.operands];exact .inr<|by simpa using kI e
theorem zCg(hc:∀ms,P.underlying t≠some (.interface ms))(hu:P.underlying t≠none)(ho:o.op=.makeInterface t x)(h:step P seq (.ND t x) env H K):Sound P o env H K:=by
 simp only[step,fz] at h;refine fj h λJ F w a G _ aR _=>⟨.iface t<|a.eval x,?_,?_⟩
 ·cases e:P.underlying t with
  |none=>exact absurd e hu
  |some d =>
   cases d<;>first|exact absurd e (hc _)|simp[execOp,ho,Instr.makeInterface,Sem.run,pure,underlying,program,e]
 simp only[rep];exact⟨_,rfl,aR x<|by simp[ho,Op.operands]⟩
theorem zBH{args:Array aT}{ts:Array aY}(ha:args.toList=[x])(jy:ts.toList=[t])(ht:P.underlying t=some .string)(ho:o.op=.call { callee:=.builtin .len,args,argTypes:=ts })(h:step P seq (.vK x) env H K):Sound P o env H K:=by
 have ea:args=#[x]:=Array.ext' (by simpa using ha);have et:ts=#[t]:=Array.ext' (by simpa using jy);subst ea et;simp only[step,fz] at h;split at h
 ·rename_i s e;refine fj h λJ F w a G _ aR _=>⟨_,?_,rfl⟩;have k1:=aR x (by simp[ho,Op.operands,Call.operands]);rw[e] at k1;simp only[rep] at k1;simp[execOp,ho,resolve,invoke,builtin,Builtin.len_,k1,Sem.run,pure,underlying,program,ht,goInt]
 exact h.elim
theorem zB5{i:aT}(ht:P.underlying t=some .string)(ho:o.op=.index t x i)(h:step P seq (.E2 x i) env H K):Sound P o env H K:=by
 simp only[step,fz] at h;split at h
 ·rename_i s k z e1 e2;obtain⟨h0,b,hb,h⟩:=h;refine fj h λJ F w a G _ aR _=>⟨_,?_,rfl⟩;have k1:=aR x (by simp[ho,Op.operands]);have k2:=aR i (by simp[ho,Op.operands]);rw[e1] at k1;rw[e2] at k2;simp only[rep] at k1 k2;simp[execOp,ho,Instr.index,asIntOf,k1,k2,Sem.run,pure,underlying,program,ht,h0,hb]
 exact h.elim
end
end
section
theorem mZ(b o n:Nat):(⟨b,o,none⟩:Addr).add n=⟨b,o+n,none⟩:=by
 unfold Addr.add;split
 ·rename_i h;subst h;rfl
 rfl
section
variable{J:aX}{F:Nat->Prop}{w:aU}
variable{b o:Nat}{cs:List D}
theorem Kk(h:dM J F w b cs o)(off n:Nat):dM J F w b ((cs.drop off).take n)<|o+off:=by
 refine qJ _ _ λj c hc=>?_;have h1:cs[off+j]? = some c:=by
  rw[xv] at hc;split at hc
  ·rwa [vq] at hc
  cases hc
 have:=sk cs o (off+j) c h1 h;rwa [show o+(off+j)=o+off+j by omega] at this
theorem FM(h:dM J F w b cs o)(off:Nat):dM J F w b (cs.drop off)<|o+off:=by
 have:=Kk h off (cs.drop off).length;rwa [gz] at this
theorem GN{b:Nat}:∀(cs:List D) (o:Nat),dM J F w b cs o->∃vs:List aH,bj J F w cs vs/\(∀j v,vs[j]? = some v->w.cell? ⟨b,o+j,none⟩=some v)/\∀v∈vs,fH v=true
 |[],o,_=>⟨[],by simp only[bj],(λj v h=>by simp at h),(λv h=>by cases h)⟩
 |c::r,o,h=>by
  simp only[dM] at h;obtain⟨⟨u,h1,h0,h2⟩,h3⟩:=h;obtain⟨vs,k1,k2,k3⟩:=GN r (o+1) h3;refine⟨u::vs,by simp only[bj];exact⟨u,vs,rfl,h2,k1⟩,λj v hv=>?_,λv hv=>(dD.1 hv).elim (λe=>e▸h0)<|k3 v⟩
  cases j with
  |zero=>simp at hv;subst hv;exact h1
  |succ j =>
   have:=k2 j v (by simpa using hv);rwa [show o+1+j=o+(j+1) by omega] at this
variable{P:bt}
variable{t:aY}
theorem Co{b:Bool}(h:nU P t=some b):(isAgg t).run P w=.ok b w:=by
 unfold nU at h
 cases e:P.underlying t with
 |none=>rw[e] at h;cases h
 |some d =>
  rw[e] at h;cases d<;>simp at h<;>subst h<;>simp[isAgg,underlying,program,Sem.run,e,pure]
theorem LU{b:Bool}(h:nU P t=some b):∃i,P.info? t=some i/\i.size=P.cellsOf t:=by
 unfold nU Program.underlying at h
 cases e:P.info? t with
 |none=>rw[e] at h;cases h
 |some i=>exact⟨i,rfl,by simp[Program.cellsOf,e]⟩
theorem rG{i:TypeInfo}(h:P.info? t=some i):(sizeOf t).run P w=.ok i.size w:=by
 simp[sizeOf,typeInfo,program,Sem.run,h,pure]
theorem UA(h:nU P t=some false){a:Addr}{u:aH}(hc:w.cell? a=some u):(Instr.loadAt t (.pointer<|some a)).run P w=.ok u w:=by
 simp[Instr.loadAt,Instr.sureAddr,loadVar,Co h,load,Sem.run,hc,pure]
theorem T7(h:nU P t=some true){vs:List aH}(hn:vs.length=P.cellsOf t)(hc:∀(j:Nat) (v:aH),vs[j]? = some v->w.cell? ⟨b,o+j,none⟩=some v) :
  (Instr.loadAt t (.pointer<|some ⟨b,o,none⟩)).run P w=.ok (.agg vs.toArray) w:=by
 obtain⟨i,h1,h2⟩:=LU h;have h3:=run_loadCells_list (P:=P) (w:=w) ⟨b,o,none⟩ vs λj v hv=>by rw[mZ];exact hc j v hv
 simp[Instr.loadAt,Instr.sureAddr,loadVar,Co h,rG h1,h2,<-hn,Sem.run,pure,h3]
variable{G:Nat->Option an}{id:Nat}{s:Site}{m:Bool}
theorem Lf(h:cr J F w G)(h1:J id=some s)(h2:s.ad=some ⟨b,0,none⟩)(h3:G id=some (.row m cs)):dM J F w b cs 0:=by
 obtain⟨o,k1,k2⟩:=h.obj id s h1;rw[h3] at k1;cases k1;obtain⟨_,_,_,_,_,b',_,_,e,_,_,k,_⟩:=k2;rw[h2] at e;cases e;exact k
theorem uX(h:cr J F w G){aw ai:Nat}{xs:List<|List D}(h1:J id=some s)(h3:G id=some (.vec m aw ai xs)) :
  s.row=false/\s.aw=aw/\s.ai=ai/\s.len=xs.length/\s.len<=s.cap/\(s.cap=0\/∃b o vals te,s.ad=some ⟨b,o,none⟩/\w.heap[b]? = some (.cells vals te (0,0))/\o+s.cap*ai<=vals.size/\eU J F w b ai xs o/\(m=false->F b)):=by
 obtain⟨o,k1,k2⟩:=h.obj id s h1;rw[h3] at k1;cases k1;exact k2
end
section
variable{P:bt}{seq:Bool}{o:Oper}{env:Env}{H:List an}{K:oW}
def Fl(P:bt)(env:Env)(H:List an)(d:D)(rd:List Nat)(cs:List D):Prop :=
 ∀(J:aX) (F:Nat->Prop) (w:aU) (G:Nat->Option an) (v:aH),cr J F w G->(∀id∈rd,G id=H[id]?)->rep J F w d v->∃b o,v=.pointer (some ⟨b,o,none⟩)/\dM J F w b cs o
variable{m:Bool}{cs:List D}
theorem MA{id off:Nat}(h:H[id]? = some (.row m cs)):Fl P env H (.loc id off) [id]<|cs.drop off:=λJ F w G v aA cW hv=>by
 simp only[rep] at hv;obtain⟨s,b,h1,h2,h3,rfl⟩:=hv;have:=FM (Lf aA h1 h3<|by rw[cW id<|by simp];exact h) off;exact⟨b,off,rfl,by simpa using this⟩
theorem Ua:Fl P env H (.aN cs) [] cs:=λJ F w G v aA cW hv=>by
 simp only[rep] at hv;obtain⟨b,o,rfl,_,h⟩:=hv;exact⟨b,o,rfl,h⟩
variable{ai:Nat}{xs:List<|List D}
theorem WK{id aw i off:Nat}{row:List D}(h:H[id]? = some (.vec m aw ai xs))(hr:xs[i]? = some row):Fl P env H (.elt id aw i off) [id]<|row.drop off:=λJ F w G v aA cW hv=>by
 simp only[rep] at hv;obtain⟨s,a,h1,rfl,h2,h3⟩:=hv;have hG:G id=some (.vec m aw ai xs):=by rw[cW id<|by simp];exact h
 obtain⟨k1,k2,k3,k4,k5,k6⟩:=uX aA h1 hG;obtain⟨b,o,q1,q2,q3,rfl⟩:=h3 k2.symm;rcases k6 with k6|⟨b',o',vals,te,e,_,_,k,_⟩
 ·omega
 rw[q2] at e;cases e;obtain⟨r1,r2⟩:=uU xs o i row hr k;have:=FM r2 off;rw[k3];exact⟨b,_,rfl,this⟩
variable{t:aY}{x:aT}{rd:List Nat}
theorem OX{c:D}(ht:nU P t=some false)(ho:o.op=.load t x)(hp:Fl P env H (fh env x) rd cs)(hc:cs[0]? = some c)(hK:K c H rd []):Sound P o env H K:=by
 refine fj hK λJ F w a G aA aR cW=>?_;obtain⟨b,o',e,k⟩:=hp J F w G _ aA cW<|aR x (by simp[ho,Op.operands]);obtain⟨u,k1,k2⟩:=sk cs o' 0 c hc k;rw[kN] at k1;refine⟨u,?_,k2.2⟩;simp[execOp,ho,e,UA ht k1,Sem.run,pure]
theorem JR(ht:nU P t=some true)(ho:o.op=.load t x)(hp:Fl P env H (fh env x) rd cs)(hn:P.cellsOf t<=cs.length)(hK:K (.agg<|cs.take<|P.cellsOf t) H rd []):Sound P o env H K:=by
 refine fj hK λJ F w a G aA aR cW=>?_;obtain⟨b,o',e,k⟩:=hp J F w G _ aA cW<|aR x (by simp[ho,Op.operands]);have k1:=Kk k 0<|P.cellsOf t;simp only[ft,kN] at k1;obtain⟨vs,k2,k3,_⟩:=GN _ _ k1;have hl:vs.length=P.cellsOf t:=by rw[lJ _ _ k2,gO];omega
 refine⟨.agg vs.toArray,?_,by simp only[rep];exact⟨vs,rfl,k2⟩⟩;simp[execOp,ho,e,T7 ht hl k3,Sem.run,pure]
theorem zzC(ht:nU P t=some false)(ho:o.op=.load t x)(h:step P seq (.fu x) env H K):Sound P o env H K:=by
 simp only[step,fz] at h;split at h
 ·rename_i id off e;obtain⟨ob,h1,h2⟩:=(kr _ _ _).1 h;split at h2
  ·rename_i m cs;obtain⟨c,h3,h4⟩:=(uC _ _ _).1 h2;exact OX ht ho (e▸MA h1) (by rw[vq];exact h3) h4
  exact h2.elim
 ·rename_i cs e;obtain⟨c,h3,h4⟩:=(uC _ _ _).1 h;exact OX ht ho (e▸Ua) h3 h4
 ·rename_i id aw i off e;obtain⟨ob,h1,h2⟩:=(kr _ _ _).1 h;split at h2
  ·rename_i m bY ai xs;obtain⟨rfl,row,h3,h4⟩:=h2;obtain⟨c,h5,h6⟩:=(uC _ _ _).1 h4;exact OX ht ho (e▸WK h1 h3) (by rw[vq];exact h5) h6
  exact h2.elim
 exact h.elim
theorem zyi(ht:nU P t=some true)(ho:o.op=.load t x)(h:step P seq (.r8 (P.cellsOf t) x) env H K):Sound P o env H K:=by
 simp only[step,fz] at h;split at h
 ·rename_i id off e;obtain⟨ob,h1,h2⟩:=(kr _ _ _).1 h;split at h2
  ·rename_i m cs;obtain⟨_,h3⟩:=(z7 _ _ _).1 h2;obtain⟨h4,h5⟩:=(zP _ _ _).1 h3;exact JR ht ho (e▸MA h1) h4 h5
  exact h2.elim
 ·rename_i cs e;obtain⟨h4,h5⟩:=(zP _ _ _).1 h;exact JR ht ho (e▸Ua) h4 h5
 ·rename_i id aw i off e;obtain⟨ob,h1,h2⟩:=(kr _ _ _).1 h;split at h2
  ·rename_i m bY ai xs;obtain⟨rfl,row,h3,h4⟩:=h2;obtain⟨_,h5⟩:=(z7 _ _ _).1 h4;obtain⟨h6,h7⟩:=(zP _ _ _).1 h5;exact JR ht ho (e▸WK h1 h3) h6 h7
  exact h2.elim
 exact h.elim
def BF(d:D)(off:Nat)(K':D->Prop):Prop:=match d with
 | .loc id o=>K' (.loc id<|o+off)
 | .elt id aw i o=>K' (.elt id aw i<|o+off)
 | .aN cs=>qF cs off λr=>K' (.aN r)
 |_=>False
theorem SM{d:D}{off:Nat}{K':D->Prop}(h:BF d off K'):∃d',K' d'/\∀(J:aX) (F:Nat->Prop) (w:aU) (v:aH),rep J F w d v->∃a,v=.pointer (some a)/\rep J F w d' (.pointer<|some<|a.add off):=by
 unfold BF at h;split at h
 ·refine⟨_,h,λJ F w v hv=>?_⟩;simp only[rep] at hv⊢;obtain⟨s,b,h1,h2,h3,rfl⟩:=hv;exact⟨_,rfl,s,b,h1,h2,h3,by rw[mZ]⟩
 ·refine⟨_,h,λJ F w v hv=>?_⟩;simp only[rep] at hv⊢;obtain⟨s,a,h1,rfl,h2,h3⟩:=hv;refine⟨_,rfl,s,_,h1,rfl,h2,λq=>?_⟩;obtain⟨b,o,q1,q2,q3,rfl⟩:=h3 q;exact⟨b,o,q1,q2,q3,by rw[mZ,nT]⟩
 ·rename_i cs;obtain⟨_,h2⟩:=(z7 _ _ _).1 h;refine⟨_,h2,λJ F w v hv=>?_⟩;simp only[rep] at hv⊢;obtain⟨b,o,rfl,hF,k⟩:=hv;exact⟨_,rfl,b,_,by rw[mZ],hF,FM k off⟩
 exact h.elim
variable{s:aY}{f:Nat}{fs:Array Field}{fd:Field}
theorem zyD(hs:P.underlying s=some (.struct fs))(hf:fs[f]? = some fd)(hz:P.cellsOf fd.type≠0)(ho:o.op=.fieldAddr s x f)(h:step P seq (.gU fd.offset x) env H K):Sound P o env H K:=by
 simp only[step,fz] at h;have h':BF (fh env x) fd.offset λd=>K d H [] []:=by
  unfold BF;split at h<;>simp_all
 obtain⟨d',hK,hr⟩:=SM h';refine fj hK λJ F w a G aA aR cW=>?_;obtain⟨ad,e,k⟩:=hr J F w _<|aR x (by simp[ho,Op.operands]);have hi:∃i,P.info? fd.type=some i/\i.size≠0:=by
  unfold Program.cellsOf at hz
  cases e:P.info? fd.type with
  |none=>simp[e] at hz
  |some i=>exact⟨i,rfl,by simpa [e] using hz⟩
 obtain⟨i,gg,iI⟩:=hi;refine⟨_,?_,k⟩;simp[execOp,ho,e,Instr.fieldAt,Instr.sureAddr,fieldPlace,rG gg,iI,underlying,program,Sem.run,hs,hf,pure]
variable{e:aY}
theorem w9(hz:P.cellsOf e≠0):∃i,P.info? e=some i/\i.size=P.cellsOf e:=by
 unfold Program.cellsOf at hz⊢
 cases e:P.info? e with
 |none=>simp[e] at hz
 |some i=>exact⟨i,rfl,by simp[e]⟩
variable{i:aT}
theorem Yi(ht:P.underlying t=some (.slice e))(hz:P.cellsOf e≠0)(ho:o.op=.indexAddr t x i)(h:step P seq (.lg (P.cellsOf e) x i) env H K):Sound P o env H K:=by
 simp only[step,fz] at h;obtain⟨ei,gg,iI⟩:=w9 hz;have run:∀(w:aU) (a:Act) (k:IntKind) (z:Int) (ad:Addr) (n c:Nat),a.eval x=.slice (some ad) n c->a.eval i=.int k z->0<=z->z<n->(execOp a.eval o).run P w=.ok (.value (.pointer<|some<|ad.add<|z.toNat * P.cellsOf e)) w:=by
  intro w a k z ad n c h1 h2 h3 h4;simp[execOp,ho,h1,h2,Instr.indexAt,asIntOf,underlying,program,Sem.run,ht,pure,h3,h4,rG gg,iI]
 clear gg iI;generalize hE:P.cellsOf e=ez0 at h run hz;split at h
 ·rename_i k z ez;split at h
  ·rename_i kE xs ex;obtain⟨h3,h0,row,h1,h2⟩:=(po _ _ _).1 h;refine fj h2 λJ F w a G aA aR cW=>?_;have k1:=aR x (by simp[ho,Op.operands]);have k2:=aR i (by simp[ho,Op.operands]);rw[ex] at k1;rw[ez] at k2;simp only[rep] at k1 k2;obtain⟨A,n,c,q1,q2,_,q3⟩:=k1;have bF:z.toNat<xs.length:=by
    rcases c7 z.toNat xs.length with h|h
    ·exact h
    rw[db h] at h1;cases h1
   rcases q3 with q3|⟨b,o',q4,q5,q6⟩
   ·omega
   subst q4;obtain⟨r1,r2⟩:=uU xs o' z.toNat row h1 q6;refine⟨_,run w a k z _ n c q1 k2 h0<|by omega,?_⟩;simp only[rep];exact⟨b,_,by rw[mZ,h3],q5,r2⟩
  ·rename_i id aw lo hi ex;obtain⟨ob,h1,h2⟩:=(kr _ _ _).1 h;split at h2
   ·rename_i m bY ai xs;obtain⟨rfl,h2⟩:=h2;obtain⟨h3,h4,h5,h6⟩:=(po _ _ _).1 h2;refine fj h6 λJ F w a G aA aR cW=>?_;have k1:=aR x (by simp[ho,Op.operands]);have k2:=aR i (by simp[ho,Op.operands]);rw[ex] at k1;rw[ez] at k2;simp only[rep] at k1 k2;obtain⟨s,A,n,c,q1,q2,q3,q4⟩:=k1;have hG:G id=some (.vec m aw ai xs):=(by rw[cW id<|by simp];exact h1);obtain⟨p1,p2,p3,p4,p5,-⟩:=uX aA q1 hG;obtain⟨t1,t2,t3,t4,t5,t6⟩:=q4 p2.symm;rcases t6 with t6|⟨b,o',t6,t7⟩
    ·omega
    subst t7;refine⟨_,run w a k z _ n c q2 k2 h4<|by omega,?_⟩;simp only[rep];refine⟨s,_,q1,rfl,q3,λ_=>⟨b,o',t1,t6,by omega,?_⟩⟩;rw[mZ,p3,<-h3,iJ];simp only[Addr.mk.injEq,and_true,true_and];omega
   exact h2.elim
  exact h.elim
 exact h.elim
variable{n:Nat}
theorem zys(ht:P.underlying t=some (.array n e))(hz:P.cellsOf e≠0)(ho:o.op=.indexAddr t x i)(h:step P seq (.LS n (P.cellsOf e) x i) env H K):Sound P o env H K:=by
 simp only[step,fz] at h;obtain⟨ei,gg,iI⟩:=w9 hz;split at h
 ·rename_i k z ez;obtain⟨h0,h1,h⟩:=h;have h':BF (fh env x) (z.toNat * P.cellsOf e) λd=>K d H [] []:=by
   unfold BF;split at h<;>simp_all
  obtain⟨d',hK,hr⟩:=SM h';refine fj hK λJ F w a G aA aR cW=>?_;obtain⟨ad,e1,k1⟩:=hr J F w _<|aR x (by simp[ho,Op.operands]);have k2:=aR i (by simp[ho,Op.operands]);rw[ez] at k2;simp only[rep] at k2;refine⟨_,?_,k1⟩;simp[execOp,ho,e1,k2,Instr.indexAt,Instr.sureAddr,asIntOf,underlying,program,Sem.run,ht,pure,h0,h1,rG gg,iI]
 exact h.elim
theorem zDp{args:Array aT}{ts:Array aY}(ha:args.toList=[x])(jy:ts.toList=[t])(ht:P.underlying t=some (.slice e))(ho:o.op=.call { callee:=.builtin .len,args,argTypes:=ts })(h:step P seq (.len x) env H K):Sound P o env H K:=by
 have ea:args=#[x]:=Array.ext' (by simpa using ha);have et:ts=#[t]:=Array.ext' (by simpa using jy);subst ea et;have run:∀(w:aU) (a:Act) (A:Option Addr) (n c:Nat),a.eval x=.slice A n c->(execOp a.eval o).run P w=.ok (.value (.int .i64 n)) w:=by
  intro w a A n c h1;simp[execOp,ho,resolve,invoke,builtin,Builtin.len_,h1,Sem.run,pure,underlying,program,ht,goInt]
 simp only[step,fz] at h;split at h
 ·rename_i ai xs e1;refine fj h λJ F w a G aA aR cW=>?_;have k1:=aR x (by simp[ho,Op.operands,Call.operands]);rw[e1] at k1;simp only[rep] at k1;obtain⟨A,n,c,q1,rfl,_⟩:=k1;exact⟨_,run w a A _ c q1,rfl⟩
 ·rename_i id aw lo hi e1;obtain⟨ob,h1,h2⟩:=(kr _ _ _).1 h;split at h2
  ·rename_i m bY ai xs;obtain⟨rfl,h2⟩:=h2;refine fj h2 λJ F w a G aA aR cW=>?_;have k1:=aR x (by simp[ho,Op.operands,Call.operands]);rw[e1] at k1;simp only[rep] at k1;obtain⟨s,A,n,c,q1,q2,q3,q4⟩:=k1;have hG:G id=some (.vec m aw ai xs):=(by rw[cW id<|by simp];exact h1);obtain⟨p1,p2,_⟩:=uX aA q1 hG;obtain⟨_,_,_,rfl,_⟩:=q4 p2.symm;exact⟨_,run w a A _ c q2,rfl⟩
  exact h2.elim
 ·rename_i e1;refine fj h λJ F w a G aA aR cW=>?_;have k1:=aR x (by simp[ho,Op.operands,Call.operands]);rw[e1] at k1;simp only[rep] at k1;exact⟨_,run w a _ 0 0 k1,rfl⟩
 exact h.elim
theorem vG{x:Option aT}{dflt:Nat}{K':Nat->Prop}(h:sx env x dflt K'):∃n,K' n /\
  ∀(J:aX) (F:Nat->Prop) (w:aU) (a:Act),(∀y∈x.toList,rep J F w (fh env y)<|a.eval y)->(x=none/\n=dflt)\/∃y k,x=some y/\a.eval y=.int k n:=by
 unfold sx at h
 cases x with
 |none=>exact⟨dflt,h,λJ F w a _=>.inl ⟨rfl,rfl⟩⟩
 |some y =>
  simp only[fz] at h;split at h
  ·rename_i k i e;refine⟨i.toNat,h.2,λJ F w a hy=>.inr ⟨y,k,rfl,?_⟩⟩;have:=hy y (by simp);rw[e] at this;simp only[rep] at this;rw[this,w7 h.1]
  exact h.elim
theorem Sh{i:TypeInfo}(ht:P.underlying t=some (.slice e))(hi:P.info? e=some i)(A:Option Addr)(len cap l h:Nat)(lo bu:Option aH)(w:aU)
  (h1:(lo=none/\l=0)\/∃k,lo=some (.int k l)) (h2:(bu=none/\h=len)\/∃k,bu=some (.int k h)) (J5:l<=h) (hc:h<=cap) :
  (Instr.sliceAt t (.slice A len cap) lo bu none).run P w=.ok (.slice (if cap=l then A else A.map (·.add (l*i.size))) (h-l)<|cap-l) w:=by
 have hb:(Instr.sliceBounds true len cap lo bu none).run P w=.ok (l,h,cap) w:=by
  rcases h1 with⟨rfl,rfl⟩|⟨k,rfl⟩<;>rcases h2 with⟨rfl,rfl⟩|⟨k',rfl⟩ <;>
   simp[Instr.sliceBounds,Instr.sliceBound,asIntOf,pure,Sem.run,J5,hc]
 simp[Instr.sliceAt,Instr.slice,underlying,program,Sem.run,ht,pure,hb,rG hi]
theorem zq{b o:Nat}(h:eU J F w b ai xs o)(l n:Nat):eU J F w b ai ((xs.take n).drop l)<|o+l*ai:=by
 refine uW _ _ λj x hx=>?_;have h1:xs[l+j]? = some x:=by
  rw[vq,xv] at hx;split at hx
  ·exact hx
  cases hx
 have:=uU xs o (l+j) x h1 h;rwa [iJ,<-nT] at this
theorem zDT{lo hi mx:Option aT}(ht:P.underlying t=some (.slice e))(hz:0<P.cellsOf e)(ho:o.op=.slice t x lo hi mx)(h:step P seq (.slc (P.cellsOf e) x lo hi mx) env H K):Sound P o env H K:=by
 simp only[step,fz] at h;obtain⟨ei,gg,iI⟩:=w9 (e:=e) (P:=P) (by omega);split at h
 ·rename_i kE xs e1;obtain⟨h3,h⟩:=(po _ _ _).1 h;obtain⟨n,h,hn⟩:=vG h;obtain⟨l,⟨h4,h5,h6⟩,hl⟩:=vG h;refine fj h6 λJ F w a G aA aR cW=>?_;have k1:=aR x (by simp[ho,Op.operands]);rw[e1] at k1;simp only[rep] at k1;obtain⟨A,len,c,q1,q2,qc,q3⟩:=k1;have jx:=hn J F w a λy hy=>aR y (by simp[ho,Op.operands];exact .inr (.inr<|by simpa using hy));have jY:=hl J F w a λy hy=>aR y (by simp[ho,Op.operands];exact .inr (.inl<|by simpa using hy));refine⟨.slice (if c=l then A else A.map (·.add (l*ei.size))) (n-l)<|c-l,?_,?_⟩
  ·have:=Sh (P:=P) ht gg A len c l n (lo.map a.eval) (hi.map a.eval) w
    (by rcases jY with⟨rfl,rfl⟩|⟨y,k,rfl,q⟩
        ·exact .inl ⟨rfl,rfl⟩
        exact .inr ⟨k,by simp[q]⟩)
    (by rcases jx with⟨rfl,rfl⟩|⟨y,k,rfl,q⟩
        ·exact .inl ⟨rfl,q2.symm⟩
        exact .inr ⟨k,by simp[q]⟩) h4 (by omega)
   simp[execOp,ho,q1,this,Sem.run,pure]
  simp only[rep];refine⟨_,_,_,rfl,by simp[mi,gO];omega,by omega,?_⟩;rcases q3 with q3|⟨b,o',rfl,q5,q6⟩
  ·exact .inl<|by omega
  by_cases iQ:c=l
  ·exact .inl<|by omega
  rw[aa iQ];exact .inr ⟨b,_,by simp only[xg,mZ,iI,h3],q5,zq q6 l n⟩
 ·rename_i kE xs m e1;split at h
  ·exact h.elim
  rename_i bu;obtain⟨h3,h⟩:=(po _ _ _).1 h;obtain⟨n,h,hn⟩:=vG h;obtain⟨l,h,hl⟩:=vG h;obtain⟨mm,⟨h4,h5,h6,h7⟩,hm⟩:=vG h;refine fj h7 λJ F w a G aA aR cW=>?_;have k1:=aR x (by simp[ho,Op.operands]);rw[e1] at k1;simp only[rep] at k1;obtain⟨A,len,c,q1,q2,qc,q3⟩:=k1;have jx:=hn J F w a λy hy=>aR y (by simp[ho,Op.operands] at hy⊢;simp[hy]);have jY:=hl J F w a λy hy=>aR y (by simp[ho,Op.operands] at hy⊢;simp[hy]);have zM:=hm J F w a λy hy=>aR y (by simp[ho,Op.operands] at hy⊢;simp[hy]);rcases jx with⟨q,_⟩|⟨y1,kh,q,hv⟩
  ·cases q
  cases q;rcases zM with⟨q,_⟩|⟨y2,km,q,mv⟩
  ·cases q
  cases q;refine⟨.slice (if mm=l then A else A.map (·.add (l*ei.size))) (n-l)<|mm-l,?_,?_⟩
  ·have hb:(Instr.sliceBounds true len c (lo.map a.eval) (some (.int kh n))<|some (.int km mm)).run P w=.ok (l,n,mm) w:=by
    have Pl:mm<=c:=(by omega);rcases jY with⟨rfl,rfl⟩|⟨y,k,rfl,q⟩
    ·simp[Instr.sliceBounds,Instr.sliceBound,asIntOf,pure,Sem.run,h5,Pl]
    simp[Instr.sliceBounds,Instr.sliceBound,asIntOf,pure,Sem.run,h4,h5,Pl,q]
   simp[execOp,ho,q1,hv,mv,Instr.sliceAt,Instr.slice,underlying,program,Sem.run,ht,pure,hb,rG gg]
  simp only[rep];refine⟨_,_,_,rfl,by simp[mi,gO];omega,by omega,?_⟩;rcases q3 with q3|⟨b,o',rfl,q5,q6⟩
  ·exact .inl<|by omega
  by_cases iQ:mm=l
  ·exact .inl<|by omega
  rw[aa iQ];exact .inr ⟨b,_,by simp only[xg,mZ,iI,h3],q5,zq q6 l n⟩
 ·rename_i id aw p q e1;obtain⟨ob,h1,h2⟩:=(kr _ _ _).1 h;split at h2
  ·rename_i m bY ai xs;obtain⟨rfl,h2⟩:=h2;obtain⟨h3,h⟩:=(po _ _ _).1 h2;obtain⟨n,h,hn⟩:=vG h;obtain⟨l,⟨h4,h5,h6⟩,hl⟩:=vG h;refine fj h6 λJ F w a G aA aR cW=>?_;have k1:=aR x (by simp[ho,Op.operands]);rw[e1] at k1;simp only[rep] at k1;obtain⟨s,A,len,c,q1,q2,q3,q4⟩:=k1;have hG:G id=some (.vec m aw ai xs):=(by rw[cW id<|by simp];exact h1);obtain⟨p1,p2,p3,p4,p5,-⟩:=uX aA q1 hG;obtain⟨t1,t2,t3,t4,t5,t6⟩:=q4 p2.symm;have T6:=Lib.hid t6;clear t6;have jx:=hn J F w a λy hy=>aR y (by simp[ho,Op.operands];exact .inr (.inr<|by simpa using hy));have jY:=hl J F w a λy hy=>aR y (by simp[ho,Op.operands];exact .inr (.inl<|by simpa using hy));refine⟨.slice (if c=l then A else A.map (·.add (l*ei.size))) (n-l)<|c-l,?_,?_⟩
   ·have:=Sh (P:=P) ht gg A len c l n (lo.map a.eval) (hi.map a.eval) w
     (by rcases jY with⟨rfl,rfl⟩|⟨y,k,rfl,q⟩
         ·exact .inl ⟨rfl,rfl⟩
         exact .inr ⟨k,by simp[q]⟩)
     (by rcases jx with⟨rfl,rfl⟩|⟨y,k,rfl,q⟩
         ·exact .inl ⟨rfl,by omega⟩
         exact .inr ⟨k,by simp[q]⟩) h4 (by omega)
    simp[execOp,ho,q2,this,Sem.run,pure]
   simp only[rep];refine⟨s,_,_,_,q1,rfl,q3,λ_=>⟨t1,by omega,by omega,by omega,by omega,?_⟩⟩;by_cases iQ:c=l
   ·exact .inl<|by omega
   rcases T6.out with t6|⟨b,o',t6,rfl⟩
   ·exact .inl<|by omega
   rw[aa iQ];refine .inr ⟨b,o',t6,?_⟩;simp only[xg,mZ,iI,h3,p3,iJ,nT]
  exact h2.elim
 exact h.elim
theorem zA3{lo hi:Option aT}(ht:P.underlying t=some .string)(ho:o.op=.slice t x lo hi none)(h:step P seq (.zt x lo hi) env H K):Sound P o env H K:=by
 simp only[step,fz] at h;split at h
 ·rename_i s e1;obtain⟨n,h,hn⟩:=vG h;obtain⟨l,⟨h4,h5,h6⟩,hl⟩:=vG h;refine fj h6 λJ F w a G aA aR cW=>?_;have k1:=aR x (by simp[ho,Op.operands]);rw[e1] at k1;simp only[rep] at k1;have jx:=hn J F w a λy hy=>aR y (by simp[ho,Op.operands];exact .inr (.inr<|by simpa using hy));have jY:=hl J F w a λy hy=>aR y (by simp[ho,Op.operands];exact .inr (.inl<|by simpa using hy));refine⟨.string<|s.extract l n,?_,by simp only[rep]⟩;have hb:(Instr.sliceBounds false s.size s.size (lo.map a.eval) (hi.map a.eval) none).run P w=.ok (l,n,s.size) w:=by
   rcases jY with⟨rfl,rfl⟩|⟨y,k,rfl,q⟩<;>rcases jx with⟨rfl,rfl⟩|⟨y',k',rfl,q'⟩ <;>
    simp[Instr.sliceBounds,Instr.sliceBound,asIntOf,pure,Sem.run, *]
  simp[execOp,ho,k1,Instr.sliceAt,Instr.slice,underlying,program,Sem.run,ht,pure,hb]
 exact h.elim
variable{ds:List D}{vs:List aH}
theorem NR(h:bj J F w ds vs)(n:Nat):bj J F w (ds.take n)<|vs.take n:=by
 have hl:=lJ _ _ h;refine E9 _ _ (by simp[hl]) λj d v hd hv=>?_;rw[xv] at hd hv;split at hd
 ·rename_i hj;rw[ae hj] at hv;obtain⟨v',h1,h2⟩:=qe _ _ _ _ hd h;rw[hv] at h1;cases h1;exact h2
 cases hd
theorem KC(h:bj J F w ds vs)(n:Nat):bj J F w (ds.drop n)<|vs.drop n:=by
 have hl:=lJ _ _ h;refine E9 _ _ (by simp[hl]) λj d v hd hv=>?_;rw[vq] at hd hv;obtain⟨v',h1,h2⟩:=qe _ _ _ _ hd h;rw[hv] at h1;cases h1;exact h2
variable{ag:Bool}
theorem zz9(hs:P.underlying s=some (.struct fs))(hf:fs[f]? = some fd)(oH:nU P fd.type=some ag)(ho:o.op=.field s x f)(h:step P seq (.field fd.offset (P.cellsOf fd.type) ag x) env H K):Sound P o env H K:=by
 simp only[step,fz] at h;obtain⟨i,gg,iI⟩:=LU oH;split at h
 ·rename_i cs e1
  cases ag with
  |true =>
   simp only at h;obtain⟨h1,h2⟩:=(z7 _ _ _).1 h;obtain⟨h3,h4⟩:=(zP _ _ _).1 h2;refine fj h4 λJ F w a G aA aR cW=>?_;have k1:=aR x (by simp[ho,Op.operands]);rw[e1] at k1;simp only[rep] at k1;obtain⟨vs,q1,q2⟩:=k1;refine⟨.agg ((vs.drop fd.offset).take<|P.cellsOf fd.type).toArray,?_,by simp only[rep];exact⟨_,rfl,NR (KC q2 _) _⟩⟩;have e2:vs.toArray.extract fd.offset (fd.offset+P.cellsOf fd.type)=((vs.drop fd.offset).take<|P.cellsOf fd.type).toArray:=by
    apply Array.ext';rw[List.extract_toArray];simp[List.extract_eq_take_drop]
   simp[execOp,ho,q1,Instr.field,asAgg,part,Co oH,rG gg,iI,underlying,program,Sem.run,hs,hf,pure,e2]
  |false =>
   simp only at h;obtain⟨c,h1,h2⟩:=(uC _ _ _).1 h;refine fj h2 λJ F w a G aA aR cW=>?_;have k1:=aR x (by simp[ho,Op.operands]);rw[e1] at k1;simp only[rep] at k1;obtain⟨vs,q1,q2⟩:=k1;obtain⟨v,q3,q4⟩:=qe _ _ _ _ h1 q2;refine⟨v,?_,q4⟩;simp[execOp,ho,q1,Instr.field,asAgg,part,Co oH,underlying,program,Sem.run,hs,hf,pure,q3]
 exact h.elim
theorem zCu(ht:P.underlying t=some (.array n e))(oH:nU P e=some ag)(ho:o.op=.index t x i)(h:step P seq (.CI n (P.cellsOf e) ag x i) env H K):Sound P o env H K:=by
 simp only[step,fz] at h;obtain⟨ie,gg,iI⟩:=LU oH;split at h
 ·rename_i k z e2;split at h
  ·rename_i cs e1;obtain⟨h0,hz,h⟩:=h
   cases ag with
   |true =>
    simp only at h;obtain⟨h1,h2⟩:=(z7 _ _ _).1 h;obtain⟨h3,h4⟩:=(zP _ _ _).1 h2;refine fj h4 λJ F w a G aA aR cW=>?_;have k1:=aR x (by simp[ho,Op.operands]);have k2:=aR i (by simp[ho,Op.operands]);rw[e1] at k1;rw[e2] at k2;simp only[rep] at k1 k2;obtain⟨vs,q1,q2⟩:=k1;refine⟨.agg ((vs.drop<|z.toNat * P.cellsOf e).take<|P.cellsOf e).toArray,?_,by simp only[rep];exact⟨_,rfl,NR (KC q2 _) _⟩⟩;have e3:vs.toArray.extract (z.toNat * P.cellsOf e) (z.toNat * P.cellsOf e+P.cellsOf e)=((vs.drop<|z.toNat * P.cellsOf e).take<|P.cellsOf e).toArray:=by
     apply Array.ext';rw[List.extract_toArray];simp[List.extract_eq_take_drop]
    simp[execOp,ho,q1,k2,Instr.index,asIntOf,part,Co oH,rG gg,iI,underlying,program,Sem.run,ht,pure,e3,h0,hz]
   |false =>
    simp only at h;obtain⟨c,h1,h2⟩:=h;refine fj h2 λJ F w a G aA aR cW=>?_;have k1:=aR x (by simp[ho,Op.operands]);have k2:=aR i (by simp[ho,Op.operands]);rw[e1] at k1;rw[e2] at k2;simp only[rep] at k1 k2;obtain⟨vs,q1,q2⟩:=k1;obtain⟨v,q3,q4⟩:=qe _ _ _ _ h1 q2;refine⟨v,?_,q4⟩;simp[execOp,ho,q1,k2,Instr.index,asIntOf,part,Co oH,rG gg,iI,underlying,program,Sem.run,ht,pure,q3,h0,hz]
  exact h.elim
 exact h.elim
end
end
section
variable{s:Site}
theorem qO(hJ:J.le J')(hF:∀b,F b->F' b)(hw:∀b,F b->w'.heap[b]? = w.heap[b]?){o:an}(hb:∀b,s.cP=some b->w'.heap[b]? = w.heap[b]?)(h:na J F w s o):na J' F' w' s o:=by
 cases o with
 |row m cs =>
  obtain⟨h1,h2,h3,h4,h5,b,vals,te,h6,h7,h8,h9,gD⟩:=h;have ze:w'.heap[b]? = w.heap[b]?:=hb b (by simp[Site.cP,h1,h6]);exact⟨h1,h2,h3,h4,h5,b,vals,te,h6,by rw[ze];exact h7,h8,DC hJ hF hw b (yM ze) cs 0 h9,λq=>hF b<|gD q⟩
 |vec m aw ai xs =>
  obtain⟨h1,h2,h3,h4,h5,h6⟩:=h;refine⟨h1,h2,h3,h4,h5,?_⟩;by_cases hz:s.cap=0
  ·exact .inl hz
  obtain⟨b,o,vals,te,k1,k2,k3,k4,k5⟩:=h6.resolve_left hz;refine .inr ?_;have ze:w'.heap[b]? = w.heap[b]?:=hb b (by simp[Site.cP,hz,k1]);exact⟨b,o,vals,te,k1,by rw[ze];exact k2,k3,IW hJ hF hw b ai (yM ze) xs o k4,λq=>hF b<|k5 q⟩
 |dI m I =>
  obtain⟨h1,b,es,clock,h2,h3,h4⟩:=h;have ze:w'.heap[b]? = w.heap[b]?:=hb b (by simp[Site.cP,h1,h2]);exact⟨h1,b,es,clock,h2,by rw[ze];exact h3,h4⟩
variable{G:Nat->Option an}
theorem cr.update{J':aX}{w':aU}{G':Nat->Option an}(h:cr J F w G)(id:Nat)(s':Site)(o':an)
  (Kw:∀i,J' i=if i=id then some s' else J i) (hG:∀i,G' i=if i=id then some o' else G i) (hle:J.le J')
  (hF:∀b,F b->w'.heap[b]? = w.heap[b]?) (gT:w.heap.size<=w'.heap.size)
  (hold:∀i s b,i≠id->J i=some s->s.cP=some b->w'.heap[b]? = w.heap[b]?)
  (jr:∀b,s'.cP=some b->w.heap.size<=b\/∃s,J id=some s/\s.cP=some b)
  (bF:∀i s b,J i=some s->s.cP=some b->b<w.heap.size)
  (xW:∀b,s'.cP=some b->o'.mut->¬F b)
  (aA:na J' F w' s' o'):cr J' F w' G' where
 obj i s hi:=by
  rw[Kw] at hi;by_cases e:i=id
  ·subst e;rw[ae rfl] at hi;cases hi;exact⟨o',by rw[hG,ae rfl],aA⟩
  rw[aa e] at hi;obtain⟨o,h1,h2⟩:=h.obj i s hi;exact⟨o,by rw[hG,aa e];exact h1,qO hle (λ_ h=>h) hF (λb hb=>hold i s b e hi hb) h2⟩
 one i i' s1 s2 b h1 h2 h3 h4:=by
  rw[Kw] at h1 h2;by_cases e:i=id<;>by_cases e':i'=id
  ·rw[e,e']
  ·rw[ae e] at h1;rw[aa e'] at h2;cases h1;rcases jr b h3 with q|⟨s,q1,q2⟩
   ·have:=bF i' s2 b h2 h4;omega
   rw[e];exact h.one id i' s s2 b q1 h2 q2 h4
  ·rw[aa e] at h1;rw[ae e'] at h2;cases h2;rcases jr b h4 with q|⟨s,q1,q2⟩
   ·have:=bF i s1 b h1 h3;omega
   rw[e'];exact h.one i id s1 s b h1 q1 h3 q2
  rw[aa e] at h1;rw[aa e'] at h2;exact h.one i i' s1 s2 b h1 h2 h3 h4
 apart i s b o hi hb hg hm:=by
  rw[Kw] at hi;rw[hG] at hg;by_cases e:i=id
  ·rw[ae e] at hi hg;cases hi;cases hg;exact xW b hb hm
  rw[aa e] at hi hg;exact h.apart i s b o hi hb hg hm
 lt:=h.lt.mono (λ_ q=>q) hF λb hb=>vY (h.lt b hb) gT
variable{b:Nat}
theorem cr.iH(h:cr J F w G){i:Nat}(hi:J i=some s)(hb:s.cP=some b):b<w.heap.size:=by
 obtain⟨o,h1,h2⟩:=h.obj i s hi;have key:∀x:Nat,∀ob,w.heap[x]? = some ob->x<w.heap.size:=λx ob hx=>by
  rcases c7 x w.heap.size with h|h
  ·exact h
  rw[x' h] at hx;cases hx
 cases o with
 |row m cs =>
  obtain⟨k1,_,_,_,_,b',vals,te,k6,k7,_⟩:=h2;simp[Site.cP,k1,k6] at hb;exact hb▸key _ _ k7
 |vec m aw ai xs =>
  obtain⟨k1,_,_,_,_,k6⟩:=h2;rcases k6 with k6|⟨b',o,vals,te,q1,q2,_⟩
  ·simp[Site.cP,k1,k6] at hb
  unfold Site.cP at hb;split at hb
  ·cases hb
  simp[q1] at hb;exact hb▸key _ _ q2
 |dI m I =>
  obtain⟨k1,b',es,clock,q1,q2,_⟩:=h2;simp[Site.cP,k1,q1] at hb;exact hb▸key _ _ q2
theorem vd(w:aU)(o:Obj)(h:b<w.heap.size):(w.alloc o).heap[b]? = w.heap[b]?:=heap_alloc_old w o h
theorem cr.WS(h:cr J F w G)(id:Nat)(hid:J id=none)(s':Site)(o':an)(ob:Obj)(ua:s'.ad=some ⟨w.heap.size,0,none⟩)
  (aA:na (λi=>if i=id then some s' else J i) F (w.alloc ob) s' o') :
  cr (λi=>if i=id then some s' else J i) F (w.alloc ob) (λi=>if i=id then some o' else G i) /\
   Ext J F w (λi=>if i=id then some s' else J i) F (w.alloc ob):=by
 have hle:J.le λi=>if i=id then some s' else J i:=λi s hi=>by
  have e:i≠id:=λe=>by rw[e,hid] at hi;cases hi
  exact⟨s,by simp[e,hi],aI _,λ_=>rfl⟩
 have qD:∀b,s'.cP=some b->b=w.heap.size:=λb hb=>by
  unfold Site.cP at hb;split at hb
  ·cases hb
  simpa [ua] using hb.symm
 refine⟨h.update id s' o' (λ_=>rfl) (λ_=>rfl) hle (λb hb=>vd w _<|h.lt b hb) (by simp) (λi s b _ hi hb=>vd w _<|h.iH hi hb) (λb hb=>.inl<|by rw[qD b hb];exact aI _) (λi s b hi hb=>h.iH hi hb) (λb hb _ hF=>?_) aA,?_⟩
 ·have:=h.lt b hF;rw[qD b hb] at this;omega
 exact⟨rfl,rfl,rfl,by simp,λb hb _=>vd w _ hb,λb hb=>vd w _<|h.lt b hb,hle,λ_ h=>h,λb ⟨i,s,hi,hb⟩=>by
  dsimp only at hi;by_cases e:i=id
  ·rw[ae e] at hi;cases hi;exact .inr<|by rw[qD b hb];exact aI _
  rw[aa e] at hi;exact .inl ⟨i,s,hi,hb⟩,λb hb=>.inl hb⟩
theorem cr.alloc{J:aX}{F:Nat->Prop}{w:aU}{G:Nat->Option an}(h:cr J F w G)(id:Nat)(hid:J id=none)(s':Site)(o':an)(vals:Array aH)(te:aY)(ua:s'.ad=some ⟨w.heap.size,0,none⟩)
  (aA:na (λi=>if i=id then some s' else J i) F (w.alloc (.cells vals te)) s' o') :
  cr (λi=>if i=id then some s' else J i) F (w.alloc (.cells vals te)) (λi=>if i=id then some o' else G i) /\
   Ext J F w (λi=>if i=id then some s' else J i) F (w.alloc (.cells vals te)):=h.WS id hid s' o' _ ua aA
section
variable{J:aX}{F:Nat->Prop}{w:aU}
theorem zk4{cs:List D}{vs:List aH}(te:aY)(hJ:J.le J')(bF:∀b,F b->b<w.heap.size)(h1:∀v∈vs,fH v)(h:bj J F w cs vs) :
  dM J' F (w.alloc (.cells vs.toArray te)) w.heap.size cs 0:=by
 have h':bj J' F (w.alloc (.cells vs.toArray te)) cs vs:=Aa hJ (λ_ h=>h) (λb hb=>vd w _<|bF b hb) _ _ h;refine qJ _ _ λj c hc=>?_;obtain⟨v,h3,h2⟩:=qe _ _ _ _ hc h';exact⟨v,by simp[h3],h1 v<|kI h3,h2⟩
end
theorem Wm(h:cr J F w G)(id:Nat)(hid:J id=none){cs:List D}{vs:List aH}(te:aY)(h0:∀v∈vs,fH v)(hr:bj J F w cs vs) :
  ∃J',cr J' F (w.alloc (.cells vs.toArray te)) (λi=>if i=id then some (.row true cs) else G i)/\Ext J F w J' F (w.alloc (.cells vs.toArray te)) /\
   (∀i,i≠id->J' i=J i)/\rep J' F (w.alloc (.cells vs.toArray te)) (.loc id 0) (.pointer<|some ⟨w.heap.size,0,none⟩):=by
 have hle:J.le λi=>if i=id then some ⟨true,0,some ⟨w.heap.size,0,none⟩,1,cs.length,cs.length⟩ else J i:=λi s hi=>by
  have e:i≠id:=λe=>by rw[e,hid] at hi;cases hi
  exact⟨s,by simp[e,hi],aI _,λ_=>rfl⟩
 obtain⟨h1,h2⟩:=h.alloc id hid ⟨true,0,some ⟨w.heap.size,0,none⟩,1,cs.length,cs.length⟩ (.row true cs) vs.toArray te rfl
  ⟨rfl,rfl,rfl,rfl,rfl,w.heap.size,vs.toArray,te,rfl,heap_alloc_new w _,by simp[lJ _ _ hr],zk4 te hle h.lt h0 hr,λq=>by cases q⟩
 refine⟨_,h1,h2,λi hi=>by simp[hi],?_⟩;simp only[rep];exact⟨_,w.heap.size,by simp;rfl,rfl,rfl,rfl⟩
section
variable{P:bt}{seq:Bool}{o:Oper}{env:Env}{H:List an}{K:oW}
theorem Hg(G:Nat->Option an)(H2:List an)(id:Nat)(ob:an)(h:H2[id]? = some ob):upd G [id] H2=λi=>if i=id then some ob else G i:=by
 funext i;simp only[upd,cM];split
 ·rename_i e;rw[e,h]
 rfl
variable{d:D}
theorem Cs{ob:an}{rd:List Nat}(hK:K d (H++[ob]) rd [H.length])
  (h:∀(J:aX) (F:Nat->Prop) (w:aU) (a:Act) (G:Nat->Option an),cr J F w G->(∀x∈o.op.operands,rep J F w (fh env x)<|a.eval x)->(∀id∈rd,G id=H[id]?)->J H.length=none ->
   ∃v w' J' F',(execOp a.eval o).run P w=.ok (.value v) w'/\rep J' F' w' d v/\cr J' F' w' (λi=>if i=H.length then some ob else G i)/\Ext J F w J' F' w'/\(∀i,i≠H.length->J' i=J i)):Sound P o env H K:=by
 refine⟨d,H++[ob],rd,[H.length],⟨λid hid=>?_,by simp,λid hid=>by simp at hid;simp[hid],λJ F w a G aA aR cW lX K Q hK=>?_⟩,hK⟩
 ·simp at hid;rcases c7 id H.length with hl|hl
  ·rw[dJ hl]
  rw[db<|by simp;omega,db hl]
 obtain⟨v,w',J',F',h1,h2,h3,h4,h5⟩:=h J F w a G aA aR (λid hid=>cW id (.inl hid))<|lX _ (aI _) (by simp);unfold Oper.wp;rw[h1,Oper.upon_value];refine hK v w' J' F' h2 ?_ h4 λid hid hn=>?_
 ·rw[Hg G _ H.length ob<|by simp];exact h3
 rw[h5 id<|by simpa using hn];exact hid
variable{t:aY}{z:aH}
theorem Hi(h:(P.info? t).bind (·.zero)=some z):(zeroValue t).run P w=.ok z w:=by
 cases e:P.info? t with
 |none=>rw[e] at h;cases h
 |some i =>
  rw[e] at h;simp at h;simp[zeroValue,typeInfo,program,Sem.run,e,h,pure]
theorem B1{J:aX}{F:Nat->Prop}{w:aU}:∀vs:List aH,bj J F w (vs.map .sc) vs
 |[]=>by simp only[gP,bj]
 |v::r=>by simp only[dR,bj];exact⟨v,r,rfl,by simp only[rep],B1 r⟩
theorem zyR(hz:(P.info? t).bind (·.zero)=some z)(zO:z.cells.toList.all fH)(ho:o.op=.alloc t)(h:step P seq (.alloc z.cells.toList) env H K):Sound P o env H K:=by
 simp only[step,Gk,wx] at h;refine Cs h λJ F w a G aA aR cW hn=>?_;obtain⟨J',h1,h2,h3,h4⟩:=Wm aA H.length hn t (λv hv=>kv.1 zO v hv)<|B1 z.cells.toList;refine⟨_,_,J',F,?_,h4,h1,h2,h3⟩;simp[execOp,ho,Instr.alloc,Hi hz,newVar,newRow,newObj,Sem.run,pure]
theorem B4{v:aH}(hs:storable d)(h:rep J F w d v):bj J F w d.cells v.cells.toList/\∀u∈v.cells.toList,fH u:=by
 have one:ux d->(∀cs,d≠.agg cs)->bj J F w d.cells v.cells.toList/\∀u∈v.cells.toList,fH u:=by
  intro h1 h2;have h3:=Tg h1 h;have e1:v.cells=#[v]:=by cases v<;>first|rfl|simp[fH] at h3
  have e2:d.cells=[d]:=by cases d<;>first|rfl|exact absurd rfl (h2 _)
  rw[e1,e2];refine⟨by simp only[bj];exact⟨v,[],rfl,h,rfl⟩,λu hu=>?_⟩;simp at hu;rw[hu];exact h3
 cases d with
 |agg cs =>
  simp only[rep] at h;obtain⟨vs,rfl,k⟩:=h;refine⟨by simpa [D.cells,Value.cells] using k,λu hu=>?_⟩;simp[Value.cells] at hu;obtain⟨j,hj,e⟩:=kn.1 hu;have jC:j<cs.length:=(by rw[<-lJ _ _ k];exact hj);obtain⟨u',q1,q2⟩:=qe _ _ _ _ (aG jC) k;rw[aG hj,e] at q1;cases q1;exact Tg (VE cs hs _<|ig jC) q2
 |_=>exact one hs<|by intro cs h;cases h
theorem zDL{x:aT}(ho:o.op=.box t x)(h:step P seq (.box x) env H K):Sound P o env H K:=by
 simp only[step,fz,HK,wx] at h;obtain⟨h0,h⟩:=h;refine Cs h λJ F w a G aA aR cW hn=>?_;obtain⟨k1,k0⟩:=B4 h0<|aR x (by simp[ho,Op.operands]);obtain⟨J',h1,h2,h3,h4⟩:=Wm aA H.length hn t k0 k1;refine⟨_,_,J',F,?_,h4,h1,h2,h3⟩;simp[execOp,ho,Instr.box,newVar,newRow,newObj,Sem.run,pure]
end
end
section
theorem Rc(off:Nat):∀(l:List aH) (n:Nat) (cells:Array aH),off+n+l.length<=cells.size ->
  ((l.zipIdx n).foldl (λ(cs:Array aH) (p:aH×Nat)=>cs.setIfInBounds (off+p.2) p.1) cells).size=cells.size /\
  ∀i,((l.zipIdx n).foldl (λ(cs:Array aH) (p:aH×Nat)=>cs.setIfInBounds (off+p.2) p.1) cells)[i]? = if off+n<=i/\i<off+n+l.length then l[i-(off+n)]? else cells[i]?
 |[],n,cells,_=>⟨rfl,λi=>by simp;intro h1 h2;omega⟩
 |c::r,n,cells,h=>by
  simp only[List.zipIdx_cons,List.foldl_cons];simp only[cj] at h;obtain⟨k1,k2⟩:=Rc off r (n+1) (cells.setIfInBounds (off+n) c) (by simp;omega);refine⟨by rw[k1];simp,λi=>?_⟩;rw[k2];by_cases h1:i=off+n
  ·subst h1;rw[aa<|by omega,ae<|by simp];simp[Gn,show off+n<cells.size by omega]
  by_cases h2:off+(n+1)<=i/\i<off+(n+1)+r.length
  ·rw[ae h2,ae<|by simp;omega,show i-(off+n)=i-(off+(n+1))+1 by omega,Fv]
  rw[aa h2,aa<|by simp;omega,HB<|by omega]
theorem D4(place:Nat->Option (Nat×Nat))(cells:Array aH)(i:Nat)(v:aH)(rest:List<|Nat×aH)(off:Nat)(hp:place i=some (off,v.cells.size))(hb:off+v.cells.size<=cells.size) :
  ∃tn,Instr.fill place cells ((i,v)::rest)=Instr.fill place tn rest/\tn.size=cells.size/\∀j,tn[j]? = if off<=j/\j<off+v.cells.size then v.cells[j-off]? else cells[j]?:=by
 obtain⟨h1,h2⟩:=Rc off v.cells.toList 0 cells (by simpa using hb);refine⟨(v.cells.toList.zipIdx 0).foldl (λ(cs:Array aH) (p:aH×Nat)=>cs.setIfInBounds (off+p.2) p.1) cells,?_,h1,λj=>by simpa using h2 j⟩;simp only[Instr.fill,hp];rw[aa<|by simp;omega]
 congr 1
 rw[<-Array.foldl_toList,Array.toList_zipIdx]
theorem IE:∀(l:List<|Nat×aT) (k:Nat) (xs:List aT),wH k l=some xs->l=(xs.zipIdx k).map λp=>(p.2,p.1)
 |[],k,xs,h=>by simp[wH] at h;subst h;rfl
 |(i,x)::r,k,xs,h=>by
  simp only[wH] at h;split at h
  ·rename_i e
   cases e2:wH (k+1) r with
   |none=>rw[e2] at h;cases h
   |some ys =>
    rw[e2] at h;simp at h;subst h;subst e;rw[IE r (i+1) ys e2];simp
  cases h
theorem Wp(ai:Nat):∀(vs:List aH) (k:Nat) (cells:Array aH),(∀v∈vs,v.cells.size=ai)->(k+vs.length)*ai<=cells.size ->
  ∃tn,Instr.fill (λi=>some (i*ai,ai)) cells ((vs.zipIdx k).map λp=>(p.2,p.1))=some tn/\tn.size=cells.size/\(∀j,j<k*ai->tn[j]? = cells[j]?) /\
   ∀i v j c,vs[i]? = some v->v.cells[j]? = some c->tn[(k+i)*ai+j]? = some c
 |[],k,cells,_,_=>⟨cells,rfl,rfl,λ_ _=>rfl,λi v j c h=>by simp at h⟩
 |v::r,k,cells,hv,hb=>by
  simp only[List.zipIdx_cons,dR];have hs:v.cells.size=ai:=hv v (by simp);simp only[cj] at hb;have hm:(k+(r.length+1))*ai=k*ai+ai+r.length*ai:=(by rw[iJ,iJ];omega);obtain⟨c1,e1,e2,e3⟩:=D4 (λi=>some (i*ai,ai)) cells k v ((r.zipIdx<|k+1).map λp=>(p.2,p.1)) (k*ai) (by rw[hs]) (by omega);obtain⟨c2,f1,f2,f3,f4⟩:=Wp ai r (k+1) c1 (λu hu=>hv u<|by simp[hu]) (by rw[e2];rw[show k+1+r.length=k+(r.length+1) by omega];exact hb);refine⟨c2,by rw[e1];exact f1,by rw[f2,e2],λj hj=>?_,λi u j c hi hc=>?_⟩
  ·rw[f3 j<|by rw[iJ];omega,e3,aa<|by omega]
  cases i with
  |zero =>
   simp at hi;subst hi;have hj:j<v.cells.size:=by
    rcases c7 j v.cells.size with h|h
    ·exact h
    rw[x' h] at hc;cases hc
   rw[kN,f3 _<|by rw[iJ];omega,e3,ae<|by omega,show k*ai+j-k*ai=j by omega];exact hc
  |succ i =>
   have:=f4 i u j c (by simpa using hi) hc;rwa [show k+1+i=k+(i+1) by omega] at this
theorem Lp{G:Nat->Option an}(h:cr J F w G)(id:Nat)(hid:J id=none){ai cap:Nat}{xs:List<|List D}{vals:Array aH}(te:aY)
  (hlen:xs.length<=cap) (gT:cap*ai<=vals.size) (hx:∀(j:Nat) (x:List D),xs[j]? = some x->x.length=ai/\∀(k:Nat) (c:D),x[k]? = some c->∃u,vals[j*ai+k]? = some u/\fH u/\rep J F w c u) :
  ∃J',cr J' F (w.alloc (.cells vals te)) (λi=>if i=id then some (.vec true 0 ai xs) else G i)/\Ext J F w J' F (w.alloc (.cells vals te)) /\
   (∀i,i≠id->J' i=J i)/\rep J' F (w.alloc (.cells vals te)) (.own id 0 0 xs.length) (.slice (some ⟨w.heap.size,0,none⟩) xs.length cap):=by
 have hle:J.le λi=>if i=id then some ⟨false,0,some ⟨w.heap.size,0,none⟩,ai,cap,xs.length⟩ else J i:=λi s hi=>by
  have e:i≠id:=λe=>by rw[e,hid] at hi;cases hi
  exact⟨s,by simp[e,hi],aI _,λ_=>rfl⟩
 have Fk:eU (λi=>if i=id then some ⟨false,0,some ⟨w.heap.size,0,none⟩,ai,cap,xs.length⟩ else J i) F (w.alloc (.cells vals te)) w.heap.size ai xs 0:=by
  refine uW _ _ λj x hj=>?_;obtain⟨k1,k2⟩:=hx j x hj;refine⟨k1,qJ _ _ λk c hc=>?_⟩;obtain⟨u,q1,q0,q2⟩:=k2 k c hc;exact⟨u,by simp[q1],q0,js hle (λ_ h=>h) (λb hb=>vd w _<|h.lt b hb) _ _ q2⟩
 obtain⟨h1,h2⟩:=h.alloc id hid ⟨false,0,some ⟨w.heap.size,0,none⟩,ai,cap,xs.length⟩ (.vec true 0 ai xs) vals te rfl
  ⟨rfl,rfl,rfl,rfl,hlen,.inr ⟨w.heap.size,0,vals,te,rfl,heap_alloc_new w _,by simpa using gT,Fk,λq=>by cases q⟩⟩
 refine⟨_,h1,h2,λi hi=>by simp[hi],?_⟩;simp only[rep];exact⟨_,_,_,_,by simp;rfl,rfl,aI _,λ_=>⟨rfl,b9 _,aI _,by simp,by simp,.inr ⟨w.heap.size,0,rfl,by simp⟩⟩⟩
section
variable{P:bt}{seq:Bool}{o:Oper}{env:Env}{H:List an}{K:oW}
theorem VX(ai:Nat):∀(xs:List aT) (K':List (List D)->Prop),IM env ai xs K'->(∀x∈xs,storable (fh env x)/\ai=(fh env x).cells.length)/\K' (xs.map λx=>(fh env x).cells)
 |[],K',h=>⟨(λ_ h=>by cases h),h⟩
 |x::r,K',h=>by
  simp only[IM,fz,HK,po] at h;obtain⟨h1,h2,h3⟩:=h;obtain⟨h4,h5⟩:=VX ai r _ h3;refine⟨λy hy=>?_,h5⟩;rcases dD.1 hy with rfl|hy
  ·exact⟨h1,h2⟩
  exact h4 y hy
theorem zve(J:aX)(F:Nat->Prop)(w:aU)(z:aH):rep J F w (lift z) z:=by
 unfold lift;split
 ·rename_i cs;simp only[rep];exact⟨cs.toList,rfl,B1 _⟩
 simp only[rep]
theorem Lc{z:aH}{ai:Nat}(f:aT->aH)(hz:f (.const z)=z):∀(m k:Nat) (l:List<|Nat×aT) (xs:List aT) (cells:Array aH),j8 z k m l=some xs->(∀x∈xs,(f x).cells.size=ai)->(k+m)*ai<=cells.size ->
  (∀i j,k<=i->i<k+m->j<ai->z.cells.size=ai->cells[i*ai+j]? = z.cells[j]?) ->
  xs.length=m/\(∀x∈xs,x=.const z\/∃i,(i,x)∈l)/\Instr.fill (λi=>some (i*ai,ai)) cells (l.map λp=>(p.1,f p.2))=Instr.fill (λi=>some (i*ai,ai)) cells (((xs.map f).zipIdx k).map λp=>(p.2,p.1))
 |0,k,[],xs,cells,h,_,_,_=>by simp[j8] at h;subst h;exact⟨rfl,by simp,rfl⟩
 |0,k,_::_,xs,cells,h,_,_,_=>by simp[j8] at h
 |m+1,k,l,xs,cells,h,hs,hb,hc=>by
  have hm:(k+(m+1))*ai=k*ai+ai+m*ai:=(by rw[iJ,iJ];omega);have dN:(k+1)*ai=k*ai+ai:=(by rw[iJ];omega);have zero:∀ys,j8 z (k+1) m l=some ys->xs=.const z::ys->xs.length=m+1/\(∀x∈xs,x=.const z\/∃i,(i,x)∈l)/\Instr.fill (λi=>some (i*ai,ai)) cells (l.map λp=>(p.1,f p.2))=Instr.fill (λi=>some (i*ai,ai)) cells (((xs.map f).zipIdx k).map λp=>(p.2,p.1)):=λys hy e=>by
   subst e;have pc:z.cells.size=ai:=(by have:=hs (.const z) (by simp);rwa [hz] at this);obtain⟨h1,h2,h3⟩:=Lc f hz m (k+1) l ys cells hy (λx hx=>hs x<|by simp[hx]) (by rw[show k+1+m=k+(m+1) by omega];exact hb) λi j gg iI hj hz=>hc i j (by omega) (by omega) hj hz;refine⟨by simp[h1],λx hx=>?_,?_⟩
   ·rcases dD.1 hx with rfl|hx
    ·exact .inl rfl
    exact h2 x hx
   rw[h3,dR,List.zipIdx_cons,dR,hz];obtain⟨c1,e1,e2,e3⟩:=D4 (λi=>some (i*ai,ai)) cells k z (((ys.map f).zipIdx<|k+1).map λp=>(p.2,p.1)) (k*ai) (by rw[pc]) (by omega);refine Eq.trans ?_ e1.symm
   congr 1
   refine Array.ext_getElem? λj=>?_;rw[e3];by_cases hj:k*ai<=j/\j<k*ai+z.cells.size
   ·rw[ae hj,<-hc k (j-k*ai) (aI _) (by omega) (by omega) pc]
    congr 1
    omega
   rw[aa hj]
  cases l with
  |nil =>
   simp only[j8] at h
   cases e:j8 z (k+1) m [] with
   |none=>rw[e] at h;cases h
   |some ys=>rw[e] at h;exact zero ys e (oV h).symm
  |cons p r =>
   obtain⟨i,x⟩:=p;simp only[j8] at h;by_cases hi:i=k
   ·rw[ae hi] at h;subst hi
    cases e:j8 z (i+1) m r with
    |none=>rw[e] at h;cases h
    |some ys =>
     rw[e] at h;have:=(oV h).symm;subst this;have l4:(f x).cells.size=ai:=hs x (by simp);obtain⟨c1,e1,e2,e3⟩:=D4 (λi=>some (i*ai,ai)) cells i (f x) (r.map λp=>(p.1,f p.2)) (i*ai) (by rw[l4]) (by omega);obtain⟨d1,g1,_,g3⟩:=D4 (λi=>some (i*ai,ai)) cells i (f x) (((ys.map f).zipIdx<|i+1).map λp=>(p.2,p.1)) (i*ai) (by rw[l4]) (by omega);have Mm:c1=d1:=Array.ext_getElem? λj=>by rw[e3,g3]
     subst Mm;obtain⟨h1,h2,h3⟩:=Lc f hz m (i+1) r ys c1 e (λy hy=>hs y<|by simp[hy]) (by rw[show i+1+m=i+(m+1) by omega,e2];exact hb) λa j O0 Zl hj hzz=>by
      have:(i+1)*ai<=a*ai:=tE _ O0;rw[e3,aa<|by omega];exact hc a j (by omega) (by omega) hj hzz
     refine⟨by simp[h1],λy hy=>?_,?_⟩
     ·rcases dD.1 hy with rfl|hy
      ·exact .inr ⟨i,by simp⟩
      exact(h2 y hy).imp id λ⟨a,ha⟩=>⟨a,by simp[ha]⟩
     rw[dR,dR,List.zipIdx_cons,dR];rw[e1,g1,h3]
   rw[aa hi] at h
   cases e:j8 z (k+1) m<|(i,x)::r with
   |none=>rw[e] at h;cases h
   |some ys=>rw[e] at h;exact zero ys e (oV h).symm
theorem Hv{z:aH}:∀(m k:Nat) (l:List<|Nat×aT) (xs:List aT),j8 z k m l=some xs->∀x∈xs,x=.const z\/∃i,(i,x)∈l
 |0,k,[],xs,h,x,hx=>by simp[j8] at h;subst h;cases hx
 |0,k,_::_,xs,h,_,_=>by simp[j8] at h
 |m+1,k,[],xs,h,x,hx=>by
  simp only[j8] at h
  cases e:j8 z (k+1) m [] with
  |none=>rw[e] at h;cases h
  |some ys =>
   rw[e] at h;have:=(oV h).symm;subst this;rcases dD.1 hx with rfl|hx
   ·exact .inl rfl
   exact Hv m _ _ ys e x hx
 |m+1,k,(i,y)::r,xs,h,x,hx=>by
  simp only[j8] at h;split at h
  ·cases e:j8 z (k+1) m r with
   |none=>rw[e] at h;cases h
   |some ys =>
    rw[e] at h;have:=(oV h).symm;subst this;rcases dD.1 hx with rfl|hx
    ·exact .inr ⟨i,by simp⟩
    exact(Hv m _ _ ys e x hx).imp id λ⟨a,ha⟩=>⟨a,by simp[ha]⟩
  cases e:j8 z (k+1) m<|(i,y)::r with
  |none=>rw[e] at h;cases h
  |some ys =>
   rw[e] at h;have:=(oV h).symm;subst this;rcases dD.1 hx with rfl|hx
   ·exact .inl rfl
   exact Hv m _ _ ys e x hx
variable{z:aH}
theorem zp1{l:List<|Nat×aT}(h:wH 0 l=some []\/j8 z 0 0 l=some []):l=[]:=by
 cases l with
 |nil=>rfl
 |cons p r =>
  obtain⟨i,x⟩:=p;rcases h with h|h
  ·have:=IE _ _ _ h;simp at this
  simp[j8] at h
theorem O5{t e:aY}{n:Nat}{parts:Array<|Nat×aT}{xs:List aT}(ht:P.underlying t=some (.slice e))(hz:(P.info? e).bind (·.zero)=some z)(h24:n*P.cellsOf e<=16777216)(lj:0<P.cellsOf e)
  (l4:wH 0 parts.toList=some xs\/j8 z 0 n parts.toList=some xs) (ho:o.op=.buildSlice t n parts) (h:step P seq (.pX (P.cellsOf e) n xs) env H K):Sound P o env H K:=by
 simp only[step] at h;obtain⟨h1,P5⟩:=VX _ _ _ h;rw[po] at P5;obtain⟨h2,h3⟩:=P5;rw[wx] at h3;simp only[aS] at h2;obtain⟨ei,gg,iI⟩:=w9 (e:=e) (P:=P) (by omega);subst h2;refine Cs h3 λJ F w a G aA aR cW hn=>?_;have yI:∀(i:Nat) (x:aT),(i,x)∈parts.toList->x∈o.op.operands:=λi x hx=>by
  simp only[ho,Op.operands];simp only[List.mem_toArray,cU];exact⟨(i,x),hx,rfl⟩
 let zc:Array aH:=(Array.range<|xs.length*P.cellsOf e).map (z.cells[·%z.cells.size]!)
 have Fu:∀i j,0<=i->i<0+xs.length->j<P.cellsOf e->z.cells.size=P.cellsOf e->zc[i*P.cellsOf e+j]? = z.cells[j]?:=λi j _ hi hj hs=>by
  have h1:(i+1)*P.cellsOf e<=xs.length*P.cellsOf e:=tE _ (by omega);rw[iJ] at h1;have h2:i*P.cellsOf e+j<xs.length*P.cellsOf e:=(by omega);have h3:(i*P.cellsOf e+j)%P.cellsOf e=j:=(by rw[Nat.mul_add_mod_self_right,ya hj]);have h4:j<z.cells.size:=(by omega);have h5:z.cells[j]? = some z.cells[j]!:=(by rw[qH h4,getElem!_pos z.cells j h4]);rw[h5];simp[zc,h2,hs,h3]
 have jL:∀x∈xs,x=.const z\/x∈o.op.operands:=λx hx=>by
  rcases l4 with l4|l4
  ·obtain⟨j,hj,e⟩:=kn.1 hx;refine .inr<|yI j x ?_;rw[IE _ _ _ l4];refine cU.2 ⟨(x,j),?_,rfl⟩;rw[List.mem_zipIdx_iff_getElem?];simp[hj,e]
  exact(Hv _ _ _ _ l4 x hx).imp id λ⟨i,hi⟩=>yI i x hi
 have pY:∀x∈xs,rep J F w (fh env x)<|a.eval x:=λx hx=>by
  rcases jL x hx with rfl|h
  ·exact zve J F w z
  exact aR x h
 have rC:∀v∈xs.map a.eval,v.cells.size=P.cellsOf e:=λv hv=>by
  obtain⟨x,hx,rfl⟩:=cU.1 hv;have:=lJ _ _ (B4 (h1 x hx).1<|pY x hx).1;rw[(h1 x hx).2,<-this];simp
 obtain⟨c',f1,f2,_,f4⟩:=Wp (P.cellsOf e) (xs.map a.eval) 0 zc rC (by simp[zc]);have Z9:Instr.fill (λi=>some (i*P.cellsOf e,P.cellsOf e)) zc (parts.map λ(i,x)=>(i,a.eval x)).toList=some c':=by
  rw[Array.toList_map];rcases l4 with l4|l4
  ·rw[IE _ _ _ l4,<-f1,List.zipIdx_map,List.map_map,List.map_map];rfl
  obtain⟨_,_,h3⟩:=Lc (ai:=P.cellsOf e) a.eval rfl _ 0 _ xs zc l4 (λx hx=>rC _<|cU.2 ⟨x,hx,rfl⟩) (by simp[zc]) Fu;rw[<-f1,<-h3]
 have iz:(execOp a.eval o).run P w=.ok (.value (.slice (some ⟨w.heap.size,0,none⟩) xs.length xs.length)) (w.alloc (.cells c' e)):=by
  by_cases Jp:xs.length*P.cellsOf e=0
  ·have hx:xs=[]:=by
    rcases Nat.mul_eq_zero.1 Jp with h|h
    ·exact nh.1 h
    omega
   subst hx;have Yj:parts.toList=[]:=zp1 (z:=z) l4;have Fu:zc=#[]:=(by simp[zc]);simp only[gP,List.zipIdx_nil] at f1;rw[Fu] at f1;simp[Instr.fill] at f1;subst f1;have hp:parts=#[]:=Array.ext' Yj;subst hp;simp[execOp,ho,Instr.buildSlice,underlying,program,Sem.run,ht,pure,rG gg,iI,Instr.fill,newRow,newObj]
   congr 2
   apply Array.ext';simp
  have sZ:¬(xs.length*P.cellsOf e>2^24):=(by omega);simp only[execOp,ho,Instr.buildSlice,underlying,program,Sem.run_bind,Sem.run,ht,pure,Result.andThen_ok,rG gg,iI,aa sZ,aa Jp,Hi hz];rw[show(Array.map (λx=>z.cells[x%z.cells.size]!)<|Array.range<|xs.length*P.cellsOf e)=zc from rfl,Z9];simp[newRow,newObj,Sem.run,pure]
 obtain⟨J',k1,k2,k3,k4⟩:=Lp (ai:=P.cellsOf e) (cap:=xs.length) (xs:=xs.map λx=>(fh env x).cells) (vals:=c') aA H.length hn e (by simp) (by rw[f2];simp[zc]) λj x hj=>by
  rw[cy] at hj
  cases ej:xs[j]? with
  |none=>rw[ej] at hj;cases hj
  |some y =>
   rw[ej] at hj;simp at hj;subst hj;have hy:=kI ej;refine⟨(h1 y hy).2.symm,λk c hc=>?_⟩;obtain⟨q1,q0⟩:=B4 (h1 y hy).1<|pY y hy;obtain⟨u,q2,q3⟩:=qe _ _ _ _ hc q1;refine⟨u,?_,q0 u<|kI q2,q3⟩;have:=f4 j (a.eval y) k u (by simp[ej]) (by simpa using q2);simpa using this
 simp only[aS] at k4;exact⟨_,_,J',F,iz,k4,k1,k2,k3⟩
theorem zwL{t e:aY}{l c:aT}(ht:P.underlying t=some (.slice e))(hz:(P.info? e).bind (·.zero)=some z)(pc:z.cells.size=P.cellsOf e)(lj:0<P.cellsOf e)(AJ:0<P.bytesOf e)(zO:z.cells.toList.all fH)
  (ho:o.op=.makeSlice t l c) (h:step P seq (.wo (P.cellsOf e) (P.bytesOf e) z.cells.toList l c) env H K):Sound P o env H K:=by
 simp only[step,fz] at h;obtain⟨ei,gg,iI⟩:=w9 (e:=e) (P:=P) (by omega);have yz:ei.bytes=P.bytesOf e:=by simp[Program.bytesOf,gg]
 split at h
 ·rename_i nl nc e1 e2;obtain⟨h0,h1,h2,h3⟩:=h;rw[wx] at h3;refine Cs h3 λJ F w a G aA aR cW hn=>?_;have k1:=aR l (by simp[ho,Op.operands]);have k2:=aR c (by simp[ho,Op.operands]);rw[e1] at k1;rw[e2] at k2;simp only[rep] at k1 k2;have sZ:ei.zero=some z:=(by simpa [gg] using hz);have hb:(ei.bytes:Int)*nc<=281474976710656:=(by rw[yz,Int.mul_comm];omega);have KD:nc<=9223372036854775807:=by
   have:nc*1<=nc*(P.bytesOf e:Int):=Int.mul_le_mul_of_nonneg_left (by omega) (by omega);omega
  have run:=run_make (P:=P) w t e ei z ht gg sZ .i64 .i64 nl nc h0 h1 hb KD;obtain⟨J',q1,q2,q3,q4⟩:=Lp (ai:=P.cellsOf e) (cap:=nc.toNat) (xs:=List.replicate nl.toNat<|z.cells.toList.map .sc) (vals:=madeCells z.cells<|nc.toNat * ei.size) aA H.length hn e (by simp;omega) (by simp[madeCells,iI]) λj x hj=>by
   rw[sy] at hj;split at hj
   ·rename_i zE;cases hj;refine⟨by simp[pc],λk c hc=>?_⟩;rw[cy] at hc
    cases ek:z.cells.toList[k]? with
    |none=>rw[ek] at hc;cases hc
    |some u =>
     rw[ek] at hc;cases hc;have hk:k<P.cellsOf e:=by
      have:k<z.cells.toList.length:=by
       rcases c7 k z.cells.toList.length with h|h
       ·exact h
       rw[db h] at ek;cases ek
      rw[<-pc];simpa using this
     refine⟨u,?_,kv.1 zO u<|kI ek,by simp only[rep]⟩;have bF:j*P.cellsOf e+k<nc.toNat * ei.size:=by
      rw[iI];have:(j+1)*P.cellsOf e<=nc.toNat * P.cellsOf e:=tE _ (by omega);rw[iJ] at this;omega
     have hm:(j*P.cellsOf e+k)%z.cells.size=k:=(by rw[pc,Nat.mul_comm,Nat.mul_add_mod];exact ya hk);have ye:k<z.cells.size:=(by rw[pc];exact hk);have ek':z.cells[k]=u:=by
      rw[DH] at ek;simpa [qH ye] using ek
     simp only[madeCells,Array.getElem?_map];rw[qH<|by simpa using bF];simp[hm,ye,ek']
   cases hj
  simp only[zS] at q4;have e3:nl.toNat<=nc.toNat:=(by omega);refine⟨_,_,J',F,?_,q4,q1,q2,q3⟩;simp[execOp,ho,k1,k2,run,Sem.run,pure]
 exact h.elim
end
end
section
structure wR(w w':aU)(b o:Nat)(us:List aH)(vals:Array aH)(te:aY):Prop where
 os:w'.os=w.os
 tape:w'.tape=w.tape
 output:w'.output=w.output
 size:w'.heap.size=w.heap.size
 other:∀k,k≠b->w'.heap[k]? = w.heap[k]?
 here:∃px,w'.heap[b]? = some (.cells px te (0,0))/\px.size=vals.size/\∀j,px[j]? = if o<=j/\j<o+us.length then us[j-o]? else vals[j]?
theorem ziv{P:bt}{a:Addr}{u u':aH}(hu:fH u)(hc:w.cell? a=some u')(hf:w.frozen? a=false):(store a u).run P w=.ok () (w.setCell a u):=by
 cases u<;>simp[fH] at hu<;>simp[store,Sem.run,hc,hf]
theorem DS{P:bt}{b o:Nat}:∀(us:List aH) (i:Nat) (w:aU) (vals:Array aH) (te:aY),w.heap[b]? = some (.cells vals te (0,0))->o+i+us.length<=vals.size->(∀u∈us,fH u) ->
  ∃w',(storeCells ⟨b,o,none⟩ us i).run P w=.ok () w'/\wR w w' b (o+i) us vals te
 |[],i,w,vals,te,hb,_,_=>⟨w,rfl,rfl,rfl,rfl,rfl,λ_ _=>rfl,vals,hb,rfl,λj=>by simp;intro h1 h2;omega⟩
 |u::r,i,w,vals,te,hb,hl,h1=>by
  simp only[cj] at hl;have hc:w.cell? ⟨b,o+i,none⟩=vals[o+i]?:=(by simp[World.cell?,hb]);have hf:=frozen_of_row w b (o+i) vals te hb;have bF:o+i<vals.size:=(by omega);have nE:=heap_setCell_same w b (o+i) vals te u hb;obtain⟨w',e1,k⟩:=DS (P:=P) (b:=b) (o:=o) r (i+1) (w.setCell ⟨b,o+i,none⟩ u) (vals.setIfInBounds (o+i) u) te nE (by simp;omega) λv hv=>h1 v (by simp[hv]);have iz:(store (⟨b,o+i,none⟩:Addr) u).run P w=.ok () (w.setCell ⟨b,o+i,none⟩ u):=by
   have hu:=h1 u (by simp);rw[qH bF] at hc;exact ziv hu hc hf
  refine⟨w',?_,?_⟩
  ·simp only[storeCells,mZ,Sem.run_bind,iz,Result.andThen_ok];exact e1
  obtain⟨px,q1,q2,q3⟩:=k.here;refine⟨k.os,k.tape,k.output,by rw[k.size];simp[World.setCell],λx hx=>by rw[k.other x hx];exact heap_setCell_other w _ x u hx,px,q1,by rw[q2];simp,λj=>?_⟩;rw[q3];by_cases e:j=o+i
  ·subst e;rw[aa<|by omega,ae<|by simp];simp[Gn,bF]
  by_cases h2:o+(i+1)<=j/\j<o+(i+1)+r.length
  ·rw[ae h2,ae<|by simp;omega,show j-(o+i)=j-(o+(i+1))+1 by omega,Fv]
  rw[aa h2,aa<|by simp;omega,HB<|by omega]
theorem wR.cell{w w':aU}{b o:Nat}{us:List aH}{vals:Array aH}{te:aY}(h:wR w w' b o us vals te)(hb:w.heap[b]? = some (.cells vals te (0,0)))(j:Nat) :
  w'.cell? ⟨b,j,none⟩=if o<=j/\j<o+us.length then us[j-o]? else w.cell? ⟨b,j,none⟩:=by
 obtain⟨px,h1,_,h3⟩:=h.here;simp only[World.cell?,h1,hb];simpa using h3 j
variable{b o:Nat}{us:List aH}{vals:Array aH}{te:aY}
theorem VW{J J':aX}{F:Nat->Prop}{n:Nat}(h:wR w w' b (o+n) us vals te)(hb:w.heap[b]? = some (.cells vals te (0,0)))
  (hle:J.le J') (hF:∀x,F x->w'.heap[x]? = w.heap[x]?) {cs xs:List D} (hc:dM J F w b cs o) (h0:∀u∈us,fH u) (hx:bj J F w xs us) (hn:n+xs.length<=cs.length) :
  dM J' F w' b (cs.take n++xs++cs.drop (n+xs.length)) o:=by
 have hl:=lJ _ _ hx;refine qJ _ _ λj c hj=>?_;rw[h.cell hb];by_cases h1:j<n
 ·rw[aa<|by omega];rw[l8,dJ<|by simp;omega,xv,ae h1] at hj;obtain⟨u,q1,q0,q2⟩:=sk cs o j c hj hc;exact⟨u,q1,q0,js hle (λ_ h=>h) hF _ _ q2⟩
 by_cases h2:j<n+xs.length
 ·rw[ae<|by omega];rw[l8,fc<|by simp;omega] at hj;rw[dJ<|by simp;omega] at hj;simp only[gO] at hj;rw[show j-min n cs.length=j-n by omega] at hj;obtain⟨u,q1,q2⟩:=qe _ _ _ _ hj hx;exact⟨u,by rw[show o+j-(o+n)=j-n by omega];exact q1,h0 u<|kI q1,js hle (λ_ h=>h) hF _ _ q2⟩
 rw[aa<|by omega];rw[fc<|by simp;omega,vq] at hj;simp only[cL,gO] at hj;rw[show n+xs.length+(j-(min n cs.length+xs.length))=j by omega] at hj;obtain⟨u,q1,q0,q2⟩:=sk cs o j c hj hc;exact⟨u,q1,q0,js hle (λ_ h=>h) hF _ _ q2⟩
theorem wR.ext{J':aX}{G:Nat->Option an}(h:wR w w' b o us vals te)(aA:cr J F w G)
  (hle:J.le J') (jo:iU J b) (KT:∀x,iU J' x->iU J x) (hF:¬F b):Ext J F w J' F w' :=
 ⟨h.os,h.tape,h.output,by rw[h.size];exact aI _,λx hx hn=>h.other x λe=>hn<|e▸jo,λx hx=>h.other x λe=>hF<|e▸hx,hle,λ_ h=>h,λx hx=>.inl<|KT x hx,λx hx=>.inl hx⟩
variable{i:Nat}
theorem zk2{xs:List<|List D}{r:List D}(j:Nat)(x:List D)(h:(xs.set i r)[j]? = some x):(j=i/\x=r/\i<xs.length)\/(j≠i/\xs[j]? = some x):=by
 rw[wG] at h;by_cases e:i=j
 ·rw[ae e] at h;split at h
  ·cases h;exact .inl ⟨e.symm,rfl,by assumption⟩
  cases h
 rw[aa e] at h;exact .inr ⟨λq=>e q.symm,h⟩
theorem ziy{J J':aX}{F:Nat->Prop}{n ai:Nat}(h:wR w w' b (o+i*ai+n) us vals te)(hb:w.heap[b]? = some (.cells vals te (0,0)))
  (hle:J.le J') (hF:∀x,F x->w'.heap[x]? = w.heap[x]?) {ys:List<|List D} {row xs:List D} (hy:eU J F w b ai ys o) (hi:ys[i]? = some row) (h0:∀u∈us,fH u) (hx:bj J F w xs us) (hn:n+xs.length<=row.length) :
  eU J' F w' b ai (ys.set i<|row.take n++xs++row.drop (n+xs.length)) o:=by
 have hl:=lJ _ _ hx;refine uW _ _ λj x hj=>?_;obtain⟨r1,r2⟩:=uU ys o i row hi hy;rcases zk2 j x hj with⟨rfl,rfl,_⟩|⟨b7,hj⟩
 ·exact⟨by simp;omega,VW h hb hle hF r2 h0 hx hn⟩
 obtain⟨q1,q2⟩:=uU ys o j x hj hy;refine⟨q1,qJ _ _ λk c hc=>?_⟩;have hk:k<x.length:=by
  rcases c7 k x.length with h|h
  ·exact h
  rw[db h] at hc;cases hc
 obtain⟨u,p1,p0,p2⟩:=sk x _ k c hc q2;refine⟨u,?_,p0,js hle (λ_ h=>h) hF _ _ p2⟩;rw[h.cell hb,aa ?_]
 ·exact p1
 rintro⟨a1,a2⟩;rcases Nat.lt_or_gt_of_ne b7 with bF|bF
 ·have:(j+1)*ai<=i*ai:=tE _ bF;rw[iJ] at this;omega
 have:(i+1)*ai<=j*ai:=tE _ bF;rw[iJ] at this;omega
section
variable{P:bt}{seq:Bool}{o:Oper}{env:Env}{H:List an}{K:oW}
variable{ob:an}{id:Nat}{d:D}
theorem MR(hid:id<H.length)(hK:K d (H.set id ob) [] [id])
  (h:∀(J:aX) (F:Nat->Prop) (w:aU) (a:Act) (G:Nat->Option an),cr J F w G->(∀x∈o.op.operands,rep J F w (fh env x)<|a.eval x)->G id=H[id]? ->
   ∃v w',(execOp a.eval o).run P w=.ok v w'/\(v=.value undef\/v=.skip)/\d=.sc undef/\cr J F w' (λi=>if i=id then some ob else G i)/\Ext J F w J F w'):Sound P o env H K:=by
 refine⟨d,H.set id ob,[],[id],⟨λi hi=>?_,by simp,λi hi=>by simp at hi;simp[hi,hid],λJ F w a G aA aR cW lX K Q hK=>?_⟩,hK⟩
 ·simp at hi;rw[xk λe=>hi e.symm]
 obtain⟨v,w',h1,h2,rfl,h3,h4⟩:=h J F w a G aA aR<|cW id (.inr<|by simp);have hu:upd G [id] (H.set id ob)=λi=>if i=id then some ob else G i:=Hg G _ id ob<|by simp[hid]
 unfold Oper.wp;rw[h1];rcases h2 with rfl|rfl
 ·rw[Oper.upon_value];exact hK _ w' J F (by simp only[rep]) (by rw[hu];exact h3) h4 λi hi _=>hi
 rw[Oper.upon_skip];exact hK _ w' J F (by simp only[rep]) (by rw[hu];exact h3) h4 λi hi _=>hi
variable{t:aY}
theorem Um{v:aH}{off:Nat}(gT:v.cells.size=P.cellsOf t)(hz:P.cellsOf t≠0)(h:(storeCells ⟨b,off,none⟩ v.cells.toList 0).run P w=.ok () w') :
  (Instr.storeAt t (.pointer<|some ⟨b,off,none⟩) v).run P w=.ok () w':=by
 obtain⟨i,h1,h2⟩:=w9 hz;simp[Instr.storeAt,Instr.sureAddr,storeVar,rG h1,h2,gT,Sem.run,pure,h]
variable{x:aT}
theorem zzo{y:aT}(hz:P.cellsOf t≠0)(ho:o.op=.store t x y)(h:step P seq (.store (P.cellsOf t) x y) env H K):Sound P o env H K:=by
 simp only[step,fz,HK,po] at h;obtain⟨hs,hlen,h⟩:=h;split at h
 ·rename_i id off e1;obtain⟨ob,h1,h2⟩:=(kr _ _ _).1 h;split at h2
  ·rename_i cs;obtain⟨h3,h4⟩:=(Cy _ _ _ _).1 h2;obtain⟨h5,h6⟩:=(uP _ _ _ _).1 h4;refine MR h5 h6 λJ F w a G aA aR hG=>?_;have k1:=aR x (by simp[ho,Op.operands]);obtain⟨k2,k3⟩:=B4 hs<|aR y (by simp[ho,Op.operands]);rw[e1] at k1;simp only[rep] at k1;obtain⟨s,b,q1,q2,q3,q4⟩:=k1;obtain⟨o',p1,p2⟩:=aA.obj id s q1;rw[hG,h1] at p1;cases p1;obtain⟨p2,p3,p4,p5,p6,b',vals,te,p7,p8,p9,p10,p11⟩:=p2;rw[q3] at p7;cases p7;have hl:=lJ _ _ k2;obtain⟨w',r1,r2⟩:=DS (P:=P) (b:=b) (o:=off) (a.eval y).cells.toList 0 w vals te p8 (by omega) k3;have jo:s.cP=some b:=(by simp[Site.cP,q2,q3]);have lb:¬F b:=aA.apart id s b _ q1 jo (hG.trans h1) rfl;have ph:∀z,F z->w'.heap[z]? = w.heap[z]?:=λz vt=>r2.other z λe=>lb<|e▸vt;refine⟨.skip,w',?_,.inr rfl,rfl,?_,r2.ext aA (aX.le_refl J) ⟨id,s,q1,jo⟩ (λ_ h=>h) lb⟩
   ·simp[execOp,ho,q4,Um (by rw[hlen,<-hl];simp) hz r1,Sem.run,pure]
   refine aA.update id s _ (λi=>by split;· rename_i e;rw[e];exact q1
                                   rfl) (λ_=>rfl) (aX.le_refl J) ph (by rw[r2.size];exact aI _) (λi s' b' b7 hi hb=>r2.other b' λe=>b7<|aA.one i id s' s b' hi q1 hb<|e▸jo) (λb' hb=>.inr ⟨s,q1,hb⟩) (λi s' b' hi hb=>aA.iH hi hb) (λb' hb _=>by rw[jo] at hb;cases hb;exact lb) ?_
   obtain⟨px,r3,r4,_⟩:=r2.here;refine⟨p2,p3,p4,by simp;omega,by simp;omega,b,px,te,q3,r3,by rw[r4,p9];simp;omega,?_,λq=>by cases q⟩;have r2':wR w w' b (0+off) (a.eval y).cells.toList vals te:=(by simpa using r2);exact VW r2' p8 (aX.le_refl J) ph p10 k3 k2 h3
  exact h2.elim
 ·rename_i id aw i off e1;obtain⟨ob,h1,h2⟩:=(kr _ _ _).1 h;split at h2
  ·rename_i bY ai ys;obtain⟨rfl,row,dV,h2⟩:=h2;obtain⟨h3,h4⟩:=(Cy _ _ _ _).1 h2;obtain⟨h5,h6⟩:=(uP _ _ _ _).1 h4;refine MR h5 h6 λJ F w a G aA aR hG=>?_;have k1:=aR x (by simp[ho,Op.operands]);obtain⟨k2,k3⟩:=B4 hs<|aR y (by simp[ho,Op.operands]);rw[e1] at k1;simp only[rep] at k1;obtain⟨s,ad,q1,q4,q5,q6⟩:=k1;obtain⟨p1,p2,p3,p4,p5,p6⟩:=uX aA q1<|hG.trans h1;obtain⟨b,o',q7,q8,q9,rfl⟩:=q6 p2.symm;have hl:=lJ _ _ k2;rcases p6 with p6|⟨b',o'',vals,te,e,p7,p8,p9,p10⟩
   ·omega
   rw[q8] at e;cases e;obtain⟨t1,t2⟩:=uU ys o' i row dV p9;have ug:i<ys.length:=(by omega);have Dl:o'+i*ai+ai<=vals.size:=by
    have:(i+1)*ai<=s.cap*ai:=tE _ (by omega);rw[iJ] at this;omega
   rw[p3] at q4;obtain⟨w',r1,r2⟩:=DS (P:=P) (b:=b) (o:=o'+i*ai+off) (a.eval y).cells.toList 0 w vals te p7 (by omega) k3;rw[kN] at r2;have jo:s.cP=some b:=by
    have:¬(s.row=false/\s.cap=0):=λh=>by omega
    simp[Site.cP,this,q8]
   have lb:¬F b:=aA.apart id s b _ q1 jo (hG.trans h1) rfl;have ph:∀z,F z->w'.heap[z]? = w.heap[z]?:=λz vt=>r2.other z λe=>lb<|e▸vt;refine⟨.skip,w',?_,.inr rfl,rfl,?_,r2.ext aA (aX.le_refl J) ⟨id,s,q1,jo⟩ (λ_ h=>h) lb⟩
   ·simp[execOp,ho,q4,Um (by rw[hlen,<-hl];simp) hz r1,Sem.run,pure]
   refine aA.update id s _ (λi=>by split;· rename_i e;rw[e];exact q1
                                   rfl) (λ_=>rfl) (aX.le_refl J) ph (by rw[r2.size];exact aI _) (λi s' b' b7 hi hb=>r2.other b' λe=>b7<|aA.one i id s' s b' hi q1 hb<|e▸jo) (λb' hb=>.inr ⟨s,q1,hb⟩) (λi s' b' hi hb=>aA.iH hi hb) (λb' hb _=>by rw[jo] at hb;cases hb;exact lb) ?_
   obtain⟨px,r3,r4,_⟩:=r2.here;exact⟨p1,p2,p3,by simp;omega,p5,.inr ⟨b,o',px,te,q8,r3,by rw[r4];exact p8,ziy r2 p7 (aX.le_refl J) ph p9 dV k3 k2 h3,λq=>by cases q⟩⟩
  exact h2.elim
 exact h.elim
theorem ZL{r:aH}(hid:id<H.length)(hK:K d (H.set id ob) [] [id])(hd:∀(J:aX) (F:Nat->Prop) (w:aU),rep J F w d r)
  (h:∀(J:aX) (F:Nat->Prop) (w:aU) (a:Act) (G:Nat->Option an),cr J F w G->(∀x∈o.op.operands,rep J F w (fh env x)<|a.eval x)->G id=H[id]? ->
   ∃w',(execOp a.eval o).run P w=.ok (.value r) w'/\cr J F w' (λi=>if i=id then some ob else G i)/\Ext J F w J F w'):Sound P o env H K:=by
 refine⟨d,H.set id ob,[],[id],⟨λi hi=>?_,by simp,λi hi=>by simp at hi;simp[hi,hid],λJ F w a G aA aR cW lX K Q hK=>?_⟩,hK⟩
 ·simp at hi;rw[xk λe=>hi e.symm]
 obtain⟨w',h1,h3,h4⟩:=h J F w a G aA aR<|cW id (.inr<|by simp);have hu:upd G [id] (H.set id ob)=λi=>if i=id then some ob else G i:=Hg G _ id ob<|by simp[hid]
 unfold Oper.wp;rw[h1,Oper.upon_value];exact hK _ w' J F (hd J F w') (by rw[hu];exact h3) h4 λi hi _=>hi
theorem zpr{zs:List<|List D}{lo hi:Nat}{y x:List D}{j:Nat}(h1:lo<=hi)(h2:hi<=zs.length)(h:(zs.take lo++List.replicate (hi-lo) y++zs.drop hi)[j]? = some x) :
  (lo<=j/\j<hi/\x=y)\/(¬(lo<=j/\j<hi)/\zs[j]? = some x):=by
 rw[List.getElem?_append,List.getElem?_append] at h;simp only[cL,gO,zS] at h;rw[tJ<|by omega,show lo+(hi-lo)=hi by omega] at h;by_cases k1:j<hi
 ·rw[ae k1] at h;by_cases k2:j<lo
  ·rw[ae k2,xv,ae k2] at h;exact .inr ⟨by omega,h⟩
  rw[aa k2,sy,ae<|by omega] at h;cases h;exact .inl ⟨by omega,k1,rfl⟩
 rw[aa k1,vq,show hi+(j-hi)=j by omega] at h;exact .inr ⟨by omega,h⟩
theorem zDo{e:aY}{args:Array aT}{ts:Array aY}{z u:aH}(ha:args.toList=[x])(jy:ts.toList=[t])(ht:P.underlying t=some (.slice e))(hz:(P.info? e).bind (·.zero)=some z)
  (hzu:z.cells.toList=[u]) (hc:P.cellsOf e=1/\fH u) (ho:o.op=.call { callee:=.builtin .clear,args:=args,argTypes:=ts }) (h:step P seq (.clr u x) env H K):Sound P o env H K:=by
 obtain⟨args⟩:=args;obtain⟨ts⟩:=ts;simp only at ha jy;subst ha jy;simp only[step,fz] at h;split at h
 ·rename_i id aw lo hi e1;obtain⟨ob,h1,h2⟩:=(kr _ _ _).1 h;split at h2
  ·rename_i bY ai zs;obtain⟨rfl,h2⟩:=h2;obtain⟨rfl,h4⟩:=(po _ _ _).1 h2;obtain⟨h5,h6⟩:=(uP _ _ _ _).1 h4;refine ZL (r:=.tuple #[]) h5 h6 (λJ F w=>by simp only[rep];exact⟨[],rfl,by simp only[bj]⟩) λJ F w a G aA aR hG=>?_;have k1:=aR x (by simp[ho,Op.operands,Call.operands]);rw[e1] at k1;simp only[rep] at k1;obtain⟨s,A0,n0,c0,q1,q2,q3,q4⟩:=k1;obtain⟨p1,p2,p3,p4,p5,p6⟩:=uX aA q1<|hG.trans h1;obtain⟨t1,t2,t3,t4,t5,t6⟩:=q4 p2.symm;have exec:∀r w',(Builtin.clear_ #[t] o.type #[.slice A0 n0 c0]).run P w=.ok r w'->(execOp a.eval o).run P w=.ok (.value r) w':=by
    intro r w' hr;simp only[execOp,ho,resolve,invoke,builtin,Sem.run_bind,Sem.run,pure,Result.andThen_ok,Ej,dR,gP,q2];rw[hr];rfl
   by_cases hn:n0=0
   ·have J5:hi=lo:=(by omega);subst hn;refine⟨w,exec _ _ ?_,?_,Ext.refl _ _ _⟩
    ·cases A0<;>simp[Builtin.clear_,run_underlying ht,Sem.run,pure]
    have:(λi=>if i=id then some<|an.vec true aw 1<|zs.take lo++List.replicate (hi-lo) [D.sc u]++zs.drop hi else G i)=G:=by
     funext i;split
     ·rename_i e;rw[e,hG,h1,J5,mE,List.replicate_zero,oR,List.take_append_drop]
     rfl
    rw[this];exact aA
   have EE:s.cap≠lo:=(by omega);rcases t6 with t6|⟨b,o',e2,e3⟩
   ·exact absurd t6 EE
   rcases p6 with p6|⟨b',o'',vals,te,e4,p7,p8,p9,p10⟩
   ·omega
   rw[e2] at e4;cases e4;obtain⟨w',r1,r2⟩:=DS (P:=P) (b:=b) (o:=o'+lo*s.ai) (List.replicate n0 u) 0 w vals te p7 (by rw[zS,p3];omega) (λv hv=>by rw[List.eq_of_mem_replicate hv];exact hc.2);rw[kN] at r2;have jo:s.cP=some b:=by
    have:¬(s.row=false/\s.cap=0):=λh=>by omega
    simp[Site.cP,this,e2]
   have lb:¬F b:=aA.apart id s b _ q1 jo (hG.trans h1) rfl;have ph:∀z,F z->w'.heap[z]? = w.heap[z]?:=λz vt=>r2.other z λe=>lb<|e▸vt;refine⟨w',exec _ _ ?_,?_,r2.ext aA (aX.le_refl J) ⟨id,s,q1,jo⟩ (λ_ h=>h) lb⟩
   ·have Fu:(Builtin.zeroCells z.cells n0).toList=List.replicate n0 u:=by
     have zB:z.cells=#[u]:=by
      rw[<-Array.toArray_toList (xs:=z.cells),hzu]
     rw[zB];simp[Builtin.zeroCells];apply AT
     ·simp
     intro i h1 h2;simp[Nat.mod_one]
    subst e3;obtain⟨m,rfl⟩:∃m,n0=m+1:=⟨n0-1,by omega⟩;simp[Builtin.clear_,run_underlying ht,Hi hz,Fu,r1]
   refine aA.update id s _ (λi=>by split;· rename_i e;rw[e];exact q1
                                   rfl) (λ_=>rfl) (aX.le_refl J) ph (by rw[r2.size];exact aI _) (λi s' b' b7 hi hb=>r2.other b' λe=>b7<|aA.one i id s' s b' hi q1 hb<|e▸jo) (λb' hb=>.inr ⟨s,q1,hb⟩) (λi s' b' hi hb=>aA.iH hi hb) (λb' hb _=>by rw[jo] at hb;cases hb;exact lb) ?_
   obtain⟨px,r3,r4,_⟩:=r2.here;refine⟨p1,p2,p3,by simp;omega,p5,.inr ⟨b,o',px,te,e2,r3,by rw[r4];exact p8,uW _ _ λj y hj=>?_,λq=>by cases q⟩⟩;rcases zpr t2 (by omega) hj with⟨g1,g2,rfl⟩|⟨g1,g2⟩
   ·refine⟨rfl,qJ _ _ λi c hi=>?_⟩;obtain⟨rfl,rfl⟩:i=0/\c=.sc u:=by
     cases i with
     |zero=>simp at hi;exact⟨rfl,hi.symm⟩
     |succ i=>simp at hi
    refine⟨u,?_,hc.2,by simp only[rep]⟩;rw[r2.cell p7,ae<|by rw[zS,p3];omega,sy,ae<|by rw[p3];omega]
   obtain⟨g3,g4⟩:=uU zs o' j y g2 p9;refine⟨g3,qJ _ _ λi c hi=>?_⟩;obtain⟨v,g5,g6,g7⟩:=sk y _ i c hi g4;have hi0:i<y.length:=by
    rcases c7 i y.length with h|h
    ·exact h
    rw[db h] at hi;cases hi
   refine⟨v,?_,g6,js (aX.le_refl J) (λ_ h=>h) ph _ _ g7⟩;rw[r2.cell p7,aa<|by rw[zS,p3];omega];exact g5
  exact h2.elim
 exact h.elim
end
end
section
section
variable{J:aX}{F:Nat->Prop}{w:aU}
def j7(J:aX)(F:Nat->Prop)(w:aU)(ai:Nat)(xs:List<|List D)(us:List aH):Prop :=
 us.length=xs.length*ai/\(∀u∈us,fH u)/\∀(j:Nat) (x:List D),xs[j]? = some x->x.length=ai/\∀(k:Nat) (c:D),x[k]? = some c->∃u,us[j*ai+k]? = some u/\fH u/\rep J F w c u
theorem Ed{b ai:Nat}:∀(xs:List<|List D) (o:Nat),eU J F w b ai xs o->∃us,j7 J F w ai xs us/\∀j u,us[j]? = some u->w.cell? ⟨b,o+j,none⟩=some u
 |[],o,_=>⟨[],⟨by simp,(λu h=>by cases h),(λj x h=>by simp at h)⟩,λj u h=>by simp at h⟩
 |x::r,o,h=>by
  simp only[eU] at h;obtain⟨h1,h2,h3⟩:=h;obtain⟨vs,k1,k2,k3⟩:=GN x o h2;obtain⟨us,⟨k4,k5,k6⟩,k7⟩:=Ed r (o+ai) h3;have hl:=lJ _ _ k1;refine⟨vs++us,⟨?_,λu hu=>(de.1 hu).elim (k3 u)<|k5 u,λj y hj=>?_⟩,λj u hu=>?_⟩
  ·rw[cL,k4,cj,iJ];omega
  ·cases j with
   |zero =>
    simp at hj;subst hj;refine⟨h1,λk c hc=>?_⟩;obtain⟨v,q1,q2⟩:=qe _ _ _ _ hc k1;have hk:k<vs.length:=by
     rcases c7 k vs.length with h|h
     ·exact h
     rw[db h] at q1;cases q1
    exact⟨v,by rw[Nat.zero_mul,jP,dJ hk];exact q1,k3 v<|kI q1,q2⟩
   |succ j =>
    obtain⟨q1,q2⟩:=k6 j y (by simpa using hj);refine⟨q1,λk c hc=>?_⟩;obtain⟨u,p1,p2⟩:=q2 k c hc;refine⟨u,?_,p2⟩;rw[fc<|by rw[iJ];omega,show(j+1)*ai+k-vs.length=j*ai+k by rw[iJ];omega];exact p1
  by_cases hj:j<vs.length
  ·rw[dJ hj] at hu;exact k2 j u hu
  rw[fc<|by omega] at hu;have:=k7 _ u hu;rwa [show o+ai+(j-vs.length)=o+j by omega] at this
variable{ai:Nat}{xs:List<|List D}{us:List aH}
theorem j7.append{ys:List<|List D}{vs:List aH}(h:j7 J F w ai xs us)(k:j7 J F w ai ys vs):j7 J F w ai (xs++ys)<|us++vs:=by
 obtain⟨h1,h2,h3⟩:=h;obtain⟨k1,k2,k3⟩:=k;refine⟨by rw[cL,cL,h1,k1,iJ],λu hu=>(de.1 hu).elim (h2 u)<|k2 u,λj x hj=>?_⟩;by_cases hl:j<xs.length
 ·rw[dJ hl] at hj;obtain⟨q1,q2⟩:=h3 j x hj;refine⟨q1,λk c hc=>?_⟩;obtain⟨u,p1,p2⟩:=q2 k c hc;refine⟨u,?_,p2⟩;rw[dJ]
  ·exact p1
  rcases c7 (j*ai+k) us.length with h|h
  ·exact h
  rw[db h] at p1;cases p1
 rw[fc<|by omega] at hj;obtain⟨q1,q2⟩:=k3 _ x hj;refine⟨q1,λk c hc=>?_⟩;obtain⟨u,p1,p2⟩:=q2 k c hc;refine⟨u,?_,p2⟩;have:xs.length*ai<=j*ai:=tE _ (by omega);rw[fc<|by omega,show j*ai+k-us.length=(j-xs.length)*ai+k by rw[Nat.sub_mul];omega];exact p1
theorem j7.nil(ai:Nat):j7 J F w ai [] []:=⟨by simp,(λu h=>by cases h),(λj x h=>by simp at h)⟩
theorem j7.mono(h:j7 J F w ai xs us)(hm:∀d v,rep J F w d v->rep J' F' w' d v):j7 J' F' w' ai xs us :=
 ⟨h.1,h.2.1,λj x hj=>⟨(h.2.2 j x hj).1,λk c hc=>let⟨u,p1,p2,p3⟩:=(h.2.2 j x hj).2 k c hc;⟨u,p1,p2,hm _ _ p3⟩⟩⟩
theorem j7.lie{b o:Nat}(h:j7 J F w ai xs us)(hc:∀j u,us[j]? = some u->w.cell? ⟨b,o+j,none⟩=some u):eU J F w b ai xs o:=by
 refine uW _ _ λj x hj=>?_;obtain⟨q1,q2⟩:=h.2.2 j x hj;refine⟨q1,qJ _ _ λk c hk=>?_⟩;obtain⟨u,p1,p2,p3⟩:=q2 k c hk;exact⟨u,by have:=hc _ u p1;rwa [<-nT] at this,p2,p3⟩
end
section
variable{P:bt}{seq:Bool}{o:Oper}{env:Env}{H:List an}{K:oW}
variable{ai:Nat}
theorem V8{dy:D}{K':List (List D)->List Nat->Prop}(h:Hz H ai dy K'):∃ys rd,K' ys rd /\
  ∀(J:aX) (F:Nat->Prop) (w:aU) (G:Nat->Option an) (v:aH),cr J F w G->(∀id∈rd,G id=H[id]?)->rep J F w dy v ->
   ∃A c us,v=.slice A ys.length c/\j7 J F w ai ys us/\((A=none/\ys=[])\/∃a,A=some a/\∀j u,us[j]? = some u->w.cell? (a.add j)=some u):=by
 unfold Hz at h;split at h
 ·rename_i kE ys;obtain⟨e,h'⟩:=(po _ _ _).1 h;subst e;refine⟨ys,[],h',λJ F w G v aA _ hv=>?_⟩;simp only[rep] at hv;obtain⟨A,n,c,rfl,rfl,hc,k⟩:=hv;rcases k with k|⟨b,o,rfl,hF,k⟩
  ·have:ys=[]:=nh.1 k;subst this;refine⟨A,c,[],rfl,j7.nil _,?_⟩
   cases A with
   |none=>exact .inl ⟨rfl,rfl⟩
   |some a=>exact .inr ⟨a,rfl,λj u h=>by simp at h⟩
  obtain⟨us,k1,k2⟩:=Ed _ _ k;exact⟨_,c,us,rfl,k1,.inr ⟨_,rfl,λj u hu=>by rw[mZ];exact k2 j u hu⟩⟩
 ·rename_i id aw lo hi;obtain⟨ob,h1,h2⟩:=(kr _ _ _).1 h;split at h2
  ·rename_i m bY kE zs;obtain⟨rfl,h2⟩:=h2;obtain⟨e,h3⟩:=(po _ _ _).1 h2;subst e;refine⟨_,[id],h3,λJ F w G v aA cW hv=>?_⟩;simp only[rep] at hv;obtain⟨s,A,n,c,q1,rfl,q2,q3⟩:=hv;obtain⟨p1,p2,p3,p4,p5,p6⟩:=uX aA q1<|(cW id<|by simp).trans h1;obtain⟨t1,t2,t3,rfl,rfl,t6⟩:=q3 p2.symm;have hl:((zs.take hi).drop lo).length=hi-lo:=(by simp;omega);rw[hl];rcases t6 with t6|⟨b,o,t6,rfl⟩
   ·have:(zs.take hi).drop lo=[]:=nh.1 (by omega);rw[this];refine⟨A,_,[],rfl,j7.nil _,?_⟩
    cases A with
    |none=>exact .inl ⟨rfl,rfl⟩
    |some a=>exact .inr ⟨a,rfl,λj u h=>by simp at h⟩
   rcases p6 with p6|⟨b',o',vals,te,e,_,_,k,_⟩
   ·have:(zs.take hi).drop lo=[]:=nh.1 (by omega);rw[this];exact⟨_,_,[],rfl,j7.nil _,.inr ⟨_,rfl,λj u h=>by simp at h⟩⟩
   rw[t6] at e;cases e;obtain⟨us,k1,k2⟩:=Ed _ _<|zq k lo hi;exact⟨_,_,us,rfl,k1,.inr ⟨_,rfl,λj u hu=>by rw[mZ,p3];exact k2 j u hu⟩⟩
  exact h2.elim
 ·refine⟨[],[],h,λJ F w G v aA _ hv=>?_⟩;simp only[rep] at hv;exact⟨none,0,[],hv,j7.nil _,.inl ⟨rfl,rfl⟩⟩
 exact h.elim
theorem znw(v:aH):v.oneCell'=fH v:=by cases v<;>rfl
variable{u e':aY}{n:Nat}{us:List aH}
theorem Ug{c:Nat}{A:Option Addr}{ys:List<|List D}(hu:P.underlying u=some (.slice e'))(hn:n=ys.length)(hr:j7 J F w ai ys us)
  (h:(A=none/\ys=[])\/∃a,A=some a/\∀j x,us[j]? = some x->w.cell? (a.add j)=some x):Src P ai u (.slice A n c) n us w:=by
 subst hn;rcases h with⟨rfl,rfl⟩|⟨a,rfl,h⟩
 ·have:us=[]:=nh.1 (by have:=hr.1;simpa using this);subst this;exact Src.ofNil w hu c
 exact Src.ofSlice w hu a _ c us hr.1 h λx hx=>by rw[znw];exact hr.2.1 x hx
theorem grownCap_ge(w:aU)(need fD:Nat)(e:aY):need<=grownCap w need fD e:=by
 unfold grownCap Question.cut;simp
theorem cr.drew{J:aX}{F:Nat->Prop}{w:aU}{G:Nat->Option an}(h:cr J F w G):cr J F w.drew G :=
 ⟨λid s hi=>by
  obtain⟨o,h1,h2⟩:=h.obj id s hi;exact⟨o,h1,qO (w:=w) (w':=w.drew) (aX.le_refl J) (λ_ h=>h) (λ_ _=>rfl) (λ_ _=>rfl) h2⟩,h.one,h.apart,h.lt.mono (w':=w.drew) (λ_ q=>q) (λ_ _=>rfl) h.lt.lt⟩
theorem Ext.drew{J:aX}{F:Nat->Prop}{w:aU}:Ext J F w J F w.drew:=⟨rfl,rfl,rfl,aI _,λ_ _ _=>rfl,λ_ _=>rfl,aX.le_refl J,λ_ h=>h,λ_ h=>.inl h,λ_ h=>.inl h⟩
variable{d:D}
theorem SR{v:aH}(h:rep J F w d v):rep J F w.drew d v:=js (w:=w) (w':=w.drew) (aX.le_refl J) (λ_ h=>h) (λ_ _=>rfl) _ _ h
theorem U3(size:Nat)(A:Option Addr)(c:Nat)(w:aU):(Builtin.firstCells size 0 (.slice A 0 c)).run P w=.ok (List.toArray []) w:=by
 cases A with
 |none=>exact run_firstCells_none w size 0 0 c
 |some a=>exact run_firstCells_some w size 0 a 0 c [] (by simp)<|by simp
theorem Wd{cap:Nat}{xs:List<|List D}{z:Array aH}(hr:j7 J F w ai xs us)(hz:z.size=ai)(hn:n=xs.length)(EE:n<=cap) :
  cap*ai<=(us.toArray++Builtin.zeroCells z (cap-n)).size/\∀(j:Nat) (x:List D),xs[j]? = some x->x.length=ai/\∀(k:Nat) (c:D),x[k]? = some c->∃u,(us.toArray++Builtin.zeroCells z (cap-n))[j*ai+k]? = some u/\fH u/\rep J F w c u:=by
 subst hn;refine⟨?_,λj x hj=>?_⟩
 ·simp only[Array.size_append,gZ,hr.1,Builtin.zeroCells,Array.size_map,Array.size_range,hz];rw[<-iJ];exact tE _<|by omega
 obtain⟨q1,q2⟩:=hr.2.2 j x hj;refine⟨q1,λk c hc=>?_⟩;obtain⟨u,p1,p2,p3⟩:=q2 k c hc;refine⟨u,?_,p2,p3⟩;have bF:j*ai+k<us.length:=by
  rcases c7 (j*ai+k) us.length with h|h
  ·exact h
  rw[db h] at p1;cases p1
 rw[Array.getElem?_append_left<|by simpa using bF];simpa using p1
variable{t e:aY}{ei:TypeInfo}{sv:aH}
theorem Rz{ty:aY}(ht:P.underlying t=some (.slice e))(hi:P.info? e=some ei){A:Option Addr}(hs:Src P ei.size u sv 0 [] w) :
  (Builtin.append_ #[t,u] ty #[.slice A 0 0,sv]).run P w=.ok (.slice A 0 0) w:=by
 rcases hs.kind with⟨e',hk⟩|hk<;>cases A<;>simp[Builtin.append_,run_underlying ht,run_underlying hk,sizeOf,typeInfo,hi,hs.len,hs.cells,storeCells]
variable{G:Nat->Option an}
theorem zt7(h:cr J F w G)(id:Nat)(hid:J id=none)(ai aw:Nat) :
  ∃J',cr J' F w (λi=>if i=id then some (.vec true aw ai []) else G i)/\Ext J F w J' F w/\(∀i,i≠id->J' i=J i)/\rep J' F w (.own id aw 0 0) (.slice none 0 0):=by
 let J':aX:=λi=>if i=id then some ⟨false,aw,none,ai,0,0⟩ else J i
 have hle:J.le J':=λi s hs=>⟨s,by
  have:i≠id:=λe=>by subst e;rw[hid] at hs;cases hs
  simp[J',this,hs],aI _,λ_=>rfl⟩
 refine⟨J',⟨λi s hs=>?_,λi i' s s' b g1 g2 g3 g4=>?_,λi s b o g1 g2 g3 g4=>?_,h.lt⟩,⟨rfl,rfl,rfl,aI _,λ_ _ _=>rfl,λ_ _=>rfl,hle,λ_ h=>h,λb ⟨i,s,hs,hb⟩=>?_,λb hb=>.inl hb⟩,λi hi=>by simp[J',hi],?_⟩
 ·simp only[J'] at hs;split at hs
  ·rename_i e;subst e;cases hs;exact⟨.vec true aw ai [],by simp,rfl,rfl,rfl,rfl,aI _,.inl rfl⟩
  rename_i e;obtain⟨o,h1,h2⟩:=h.obj i s hs;exact⟨o,by rw[aa e];exact h1,qO hle (λ_ h=>h) (λ_ _=>rfl) (λ_ _=>rfl) h2⟩
 ·simp only[J'] at g1 g2;split at g1
  ·cases g1;simp[Site.cP] at g3
  split at g2
  ·cases g2;simp[Site.cP] at g4
  exact h.one i i' s s' b g1 g2 g3 g4
 ·simp only[J'] at g1;split at g1
  ·cases g1;simp[Site.cP] at g2
  rename_i e;rw[aa e] at g3;exact h.apart i s b o g1 g2 g3 g4
 ·simp only[J'] at hs;split at hs
  ·cases hs;simp[Site.cP] at hb
  exact .inl ⟨i,s,hs,hb⟩
 simp only[rep];exact⟨_,none,0,0,by simp[J'];rfl,rfl,aI _,λ_=>⟨rfl,aI _,b9 _,rfl,rfl,.inl rfl⟩⟩
variable{z:aH}
theorem zkM{ty:aY}{x y:aT}{ys:List<|List D}{rd:List Nat}(ht:P.underlying t=some (.slice e))(hu:P.underlying u=some (.slice e'))(hz:(P.info? e).bind (·.zero)=some z)(pc:z.cells.size=P.cellsOf e)(lj:0<P.cellsOf e)(AJ:0<P.bytesOf e)
  (IB:o.type=ty) (ho:o.op=.call { callee:=.builtin .append,args:=#[x,y],argTypes:=#[t,u] }) (hx:fh env x=.sc (.slice none 0 0))
  (hy:∀(J:aX) (F:Nat->Prop) (w:aU) (G:Nat->Option an) (v:aH),cr J F w G->(∀id∈rd,G id=H[id]?)->rep J F w (fh env y) v ->
   ∃A c us,v=.slice A ys.length c/\j7 J F w (P.cellsOf e) ys us/\((A=none/\ys=[])\/∃a,A=some a/\∀j u,us[j]? = some u->w.cell? (a.add j)=some u))
  (DO:mu 0 (P.bytesOf e) ys.length) (hK:K (.own H.length 0 0 ys.length) (H++[.vec true 0 (P.cellsOf e) ys]) rd [H.length]):Sound P o env H K:=by
 obtain⟨ei,gg,iI⟩:=w9 (e:=e) (P:=P) (by omega);have yz:ei.bytes=P.bytesOf e:=by simp[Program.bytesOf,gg]
 have sZ:ei.zero=some z:=by simpa [gg] using hz
 refine Cs hK λJ F w a G aA aR cW hn=>?_;have k1:=aR x (by simp[ho,Op.operands,Call.operands]);rw[hx] at k1;simp only[rep] at k1;obtain⟨A,c,us,k2,k3,k4⟩:=hy J F w G _ aA cW<|aR y (by simp[ho,Op.operands,Call.operands]);have xY:=Ug (P:=P) (n:=ys.length) (c:=c) hu rfl k3 k4;rw[<-iI] at xY;have Jd:(0+ys.length)*ei.bytes<=140737488355328:=by unfold mu at DO;rw[yz];exact DO
 rcases vM ys.length with Mz|h0
 ·have xi:ys=[]:=nh.1 Mz;have Eb:us=[]:=nh.1 (by rw[k3.1,xi];simp);subst xi Eb;have run:=Rz (P:=P) (w:=w) (A:=none) (ty:=ty) ht gg xY;obtain⟨J',r1,r2,r3,r4⟩:=zt7 (w:=w) aA H.length hn (P.cellsOf e) 0;refine⟨_,_,J',F,?_,r4,r1,r2,r3⟩;simp only[execOp,ho,resolve,invoke,builtin,Sem.run_bind,Sem.run,pure,Result.andThen_ok,Ej,dR,gP,k1,k2,IB];rw[run];rfl
 have zO9:ys.length<=140737488355328:=by
  have:ys.length*1<=ys.length*ei.bytes:=Nat.mul_le_mul_left _ (by rw[yz];exact AJ);rw[jP] at Jd;omega
 have run:=run_append_grow_src (P:=P) w t u ty e ei z ht gg sZ none 0 0 [] (by exact U3 ei.size none 0 w.drew) (.slice A ys.length c) ys.length us xY (by omega) (by omega)<|growslice_fits (by omega) Jd;rw[jP] at run;obtain⟨q1,q2⟩:=Wd (cap:=grownCap w ys.length 0 e) k3 pc rfl (grownCap_ge w _ _ _);obtain⟨J',r1,r2,r3,r4⟩:=Lp (w:=w.drew) (ai:=P.cellsOf e) (cap:=grownCap w ys.length 0 e) (xs:=ys) (vals:=us.toArray++Builtin.zeroCells z.cells (grownCap w ys.length 0 e-ys.length)) aA.drew H.length hn e (grownCap_ge w _ _ _) q1 λj x hj=>⟨(q2 j x hj).1,λk c hc=>let⟨u,p1,p2,p3⟩:=(q2 j x hj).2 k c hc;⟨u,p1,p2,SR p3⟩⟩;refine⟨_,_,J',F,?_,r4,r1,Ext.drew.trans r2,r3⟩;simp only[m9] at run;simp only[execOp,ho,resolve,invoke,builtin,Sem.run_bind,Sem.run,pure,Result.andThen_ok,Ej,dR,gP,k1,k2,IB];rw[run];rfl
variable{id:Nat}{s:Site}
theorem aX.JU{s':Site}(h:J id=some s)(hr:s.row=false)(hv:s.aw<s'.aw):J.le λi=>if i=id then some s' else J i:=λi t ht=>by
 by_cases e:i=id
 ·subst e;rw[h] at ht;cases ht
  exact⟨s',by simp,by omega,λq=>by rcases q with q|q;· omega
                                   rw[hr] at q;cases q⟩
 exact⟨t,by simp[e,ht],aI _,λ_=>rfl⟩
theorem zpS(h:cr J F w G)(id:Nat)(hs:J id=some s)(dV:s.row=false){aw ai cap:Nat}(AP:s.aw<aw){xs:List<|List D}{vals:Array aH}(te:aY)
  (hlen:xs.length<=cap) (gT:cap*ai<=vals.size) (hx:∀(j:Nat) (x:List D),xs[j]? = some x->x.length=ai/\∀(k:Nat) (c:D),x[k]? = some c->∃u,vals[j*ai+k]? = some u/\fH u/\rep J F w c u) :
  ∃J',cr J' F (w.alloc (.cells vals te)) (λi=>if i=id then some (.vec true aw ai xs) else G i)/\Ext J F w J' F (w.alloc (.cells vals te)) /\
   (∀i,i≠id->J' i=J i)/\rep J' F (w.alloc (.cells vals te)) (.own id aw 0 xs.length) (.slice (some ⟨w.heap.size,0,none⟩) xs.length cap):=by
 have hle:=aX.JU (s':=⟨false,aw,some ⟨w.heap.size,0,none⟩,ai,cap,xs.length⟩) hs dV AP;have hF:∀b,F b->(w.alloc (.cells vals te)).heap[b]? = w.heap[b]?:=λb hb=>vd w _<|h.lt b hb;have Fk:eU (λi=>if i=id then some ⟨false,aw,some ⟨w.heap.size,0,none⟩,ai,cap,xs.length⟩ else J i) F (w.alloc (.cells vals te)) w.heap.size ai xs 0:=by
  refine uW _ _ λj x hj=>?_;obtain⟨k1,k2⟩:=hx j x hj;refine⟨k1,qJ _ _ λk c hc=>?_⟩;obtain⟨u,q1,q0,q2⟩:=k2 k c hc;exact⟨u,by simp[q1],q0,js hle (λ_ h=>h) hF _ _ q2⟩
 have qD:∀b,Site.cP ⟨false,aw,some ⟨w.heap.size,0,none⟩,ai,cap,xs.length⟩=some b->b=w.heap.size:=λb hb=>by
  unfold Site.cP at hb;split at hb
  ·cases hb
  simpa using hb.symm
 refine⟨_,h.update id ⟨false,aw,some ⟨w.heap.size,0,none⟩,ai,cap,xs.length⟩ (.vec true aw ai xs) (λ_=>rfl) (λ_=>rfl) hle hF (by simp) (λi s b _ hi hb=>vd w _<|h.iH hi hb) (λb hb=>.inl<|by rw[qD b hb];exact aI _) (λi s b hi hb=>h.iH hi hb) (λb hb _ hFb=>?_)
  ⟨rfl,rfl,rfl,rfl,hlen,.inr ⟨w.heap.size,0,vals,te,rfl,heap_alloc_new w _,by simpa using gT,Fk,λq=>by cases q⟩⟩,?_,λi hi=>by simp[hi],?_⟩
 ·have:=h.lt b hFb;rw[qD b hb] at this;omega
 ·exact⟨rfl,rfl,rfl,by simp,λb hb _=>vd w _ hb,hF,hle,λ_ h=>h,λb ⟨i,t,hi,hb⟩=>by
   dsimp only at hi;by_cases e:i=id
   ·rw[ae e] at hi;cases hi;exact .inr<|by rw[qD b hb];exact aI _
   rw[aa e] at hi;exact .inl ⟨i,t,hi,hb⟩,λb hb=>.inl hb⟩
 simp only[rep];exact⟨_,_,_,_,by simp;rfl,rfl,aI _,λ_=>⟨rfl,b9 _,aI _,by simp,by simp,.inr ⟨w.heap.size,0,rfl,by simp⟩⟩⟩
theorem ZX{ob:an}{rd:List Nat}(hid:id<H.length)(hK:K d (H.set id ob) rd [id])
  (h:∀(J:aX) (F:Nat->Prop) (w:aU) (a:Act) (G:Nat->Option an),cr J F w G->(∀x∈o.op.operands,rep J F w (fh env x)<|a.eval x)->(∀i∈rd,G i=H[i]?)->G id=H[id]? ->
   ∃v w' J' F',(execOp a.eval o).run P w=.ok (.value v) w'/\rep J' F' w' d v/\cr J' F' w' (λi=>if i=id then some ob else G i)/\Ext J F w J' F' w'/\(∀i,i≠id->J' i=J i)):Sound P o env H K:=by
 refine⟨d,H.set id ob,rd,[id],⟨λi hi=>?_,by simp,λi hi=>by simp at hi;simp[hi,hid],λJ F w a G aA aR cW lX K Q hK=>?_⟩,hK⟩
 ·simp at hi;rw[xk λe=>hi e.symm]
 obtain⟨v,w',J',F',h1,h2,h3,h4,h5⟩:=h J F w a G aA aR (λi hi=>cW i (.inl hi))<|cW id (.inr<|by simp);have hu:upd G [id] (H.set id ob)=λi=>if i=id then some ob else G i:=Hg G _ id ob<|by simp[hid]
 unfold Oper.wp;rw[h1,Oper.upon_value];exact hK v w' J' F' h2 (by rw[hu];exact h3) h4 λi hi hn=>by rw[h5 i<|by simpa using hn];exact hi
theorem zdv{ty:aY}(ht:P.underlying t=some (.slice e))(hi:P.info? e=some ei){w':aU}{b off sLen sCap:Nat}(hs:Src P ei.size u sv n us w)(Dl:sLen+n<=sCap)
  (b8:(storeCells ⟨b,off+sLen*ei.size,none⟩ us 0).run P w=.ok () w') :
  (Builtin.append_ #[t,u] ty #[.slice (some ⟨b,off,none⟩) sLen sCap,sv]).run P w=.ok (.slice (some ⟨b,off,none⟩) (sLen+n) sCap) w':=by
 rcases hs.kind with⟨e',hk⟩|hk<;>simp[Builtin.append_,run_underlying ht,run_underlying hk,sizeOf,typeInfo,hi,hs.len,Dl,hs.cells,mZ,b8]
theorem zkK{ty:aY}{x y:aT}{ys zs:List<|List D}{rd:List Nat}{id aw lo hi:Nat}(ht:P.underlying t=some (.slice e))(hu:P.underlying u=some (.slice e'))(hz:(P.info? e).bind (·.zero)=some z)(pc:z.cells.size=P.cellsOf e)(lj:0<P.cellsOf e)(AJ:0<P.bytesOf e)
  (IB:o.type=ty) (ho:o.op=.call { callee:=.builtin .append,args:=#[x,y],argTypes:=#[t,u] }) (hx:fh env x=.own id aw lo hi) (hH:H[id]? = some (.vec true aw (P.cellsOf e) zs))
  (hy:∀(J:aX) (F:Nat->Prop) (w:aU) (G:Nat->Option an) (v:aH),cr J F w G->(∀id∈rd,G id=H[id]?)->rep J F w (fh env y) v ->
   ∃A c us,v=.slice A ys.length c/\j7 J F w (P.cellsOf e) ys us/\((A=none/\ys=[])\/∃a,A=some a/\∀j u,us[j]? = some u->w.cell? (a.add j)=some u))
  (DO:mu (hi-lo) (P.bytesOf e) ys.length) (hK:K (.own id (aw+1) 0<|hi-lo+ys.length) (H.set id (.vec true (aw+1) (P.cellsOf e)<|(zs.take hi).drop lo++ys)) rd [id]):Sound P o env H K:=by
 obtain⟨ei,gg,iI⟩:=w9 (e:=e) (P:=P) (by omega);have yz:ei.bytes=P.bytesOf e:=by simp[Program.bytesOf,gg]
 have sZ:ei.zero=some z:=by simpa [gg] using hz
 have we:id<H.length:=by
  rcases c7 id H.length with h|h
  ·exact h
  rw[db h] at hH;cases hH
 refine ZX we hK λJ F w a G aA aR cW hG=>?_;have k1:=aR x (by simp[ho,Op.operands,Call.operands]);rw[hx] at k1;simp only[rep] at k1;obtain⟨s,A0,n0,c0,q1,q2,q3,q4⟩:=k1;obtain⟨A,c,us,k2,k3,k4⟩:=hy J F w G _ aA cW<|aR y (by simp[ho,Op.operands,Call.operands]);have xY:=Ug (P:=P) (n:=ys.length) (c:=c) hu rfl k3 k4;rw[<-iI] at xY;have Jd:(hi-lo+ys.length)*ei.bytes<=140737488355328:=by unfold mu at DO;rw[yz];exact DO
 have zO9:hi-lo+ys.length<=140737488355328:=by
  have:(hi-lo+ys.length)*1<=(hi-lo+ys.length)*ei.bytes:=Nat.mul_le_mul_left _ (by rw[yz];exact AJ);omega
 obtain⟨p1,p2,p3,p4,p5,p6⟩:=uX aA q1<|hG.trans hH;obtain⟨t1,t2,t3,t4,t5,t6⟩:=q4 p2.symm;have P6:=Lib.hid p6;have T6:=Lib.hid t6;clear p6 t6 q4;have hlen:((zs.take hi).drop lo).length=hi-lo:=by simp;omega
 have exec:∀r w',(Builtin.append_ #[t,u] ty #[.slice A0 n0 c0,.slice A ys.length c]).run P w=.ok r w'->(execOp a.eval o).run P w=.ok (.value r) w':=by
  intro r w' hr;simp only[execOp,ho,resolve,invoke,builtin,Sem.run_bind,Sem.run,pure,Result.andThen_ok,Ej,dR,gP,q2,k2,IB];rw[hr];rfl
 -- the fD cells
 have hold:∃np,j7 J F w (P.cellsOf e) ((zs.take hi).drop lo) np/\(Builtin.firstCells ei.size n0 (.slice A0 n0 c0)).run P w.drew=.ok np.toArray w.drew:=by
  by_cases hc:s.cap=lo
  ·have h0:(zs.take hi).drop lo=[]:=nh.1 (by omega);refine⟨[],by rw[h0];exact j7.nil _,?_⟩;have o7:n0=0:=(by omega);subst o7;exact U3 _ _ _ _
  rcases T6.out with h|⟨b,o',e1,e2⟩
  ·exact absurd h hc
  rcases P6.out with h|⟨b',o'',vals,te,e3,e4,e5,e6,_⟩
  ·omega
  rw[e1] at e3;cases e3;obtain⟨np,r1,r2⟩:=Ed _ _<|zq e6 lo hi;refine⟨np,r1,?_⟩;subst e2;refine run_firstCells_some (P:=P) w.drew ei.size n0 _ n0 c0 np (by rw[r1.1,iI,hlen,t4]) λj v hv=>?_;rw[mZ,p3];exact r2 j v hv
 obtain⟨np,Ka,NW⟩:=hold;have dg:j7 J F w (P.cellsOf e) ((zs.take hi).drop lo++ys)<|np++us:=Ka.append k3;have Gy:((zs.take hi).drop lo++ys).length=hi-lo+ys.length:=by rw[cL,hlen]
 by_cases Dl:n0+ys.length<=c0
 ·by_cases hc:s.cap=lo
  ·have xi:ys=[]:=nh.1 (by omega);have o7:n0=0:=(by omega);have wE:c0=0:=(by omega);have h0:(zs.take hi).drop lo=[]:=nh.1 (by omega);have Eb:us=[]:=nh.1 (by rw[k3.1,xi];simp);subst xi o7 wE Eb;have run:=exec _ _<|Rz (P:=P) (ty:=ty) ht gg xY;have hle:=aX.JU (s':=⟨false,aw+1,none,P.cellsOf e,0,0⟩) q1 t1 (by show s.aw<aw+1;omega);refine⟨_,w,_,F,run,?_,aA.update id ⟨false,aw+1,none,P.cellsOf e,0,0⟩ _ (λ_=>rfl) (λ_=>rfl) hle (λ_ _=>rfl) (aI _) (λ_ _ _ _ _ _=>rfl) (λb hb=>by simp[Site.cP] at hb) (λi s b hi hb=>aA.iH hi hb) (λb hb=>by simp[Site.cP] at hb) ⟨rfl,rfl,rfl,by rw[h0];rfl,aI _,.inl rfl⟩,?_,λi hi=>by simp[hi]⟩
   ·simp only[rep];exact⟨_,_,_,_,by simp;rfl,rfl,aI _,λ_=>⟨rfl,by omega,by simp;omega,by simp;omega,by simp,.inl rfl⟩⟩
   exact⟨rfl,rfl,rfl,aI _,λ_ _ _=>rfl,λ_ _=>rfl,hle,λ_ h=>h,λb ⟨i,t,hi,hb⟩=>by
    dsimp only at hi;by_cases e:i=id
    ·rw[ae e] at hi;cases hi;simp[Site.cP] at hb
    rw[aa e] at hi;exact .inl ⟨i,t,hi,hb⟩,λb hb=>.inl hb⟩
  rcases T6.out with h|⟨b,o',e1,e2⟩
  ·exact absurd h hc
  rcases P6.out with h|⟨b',o'',vals,te,e3,e4,e5,e6,_⟩
  ·omega
  rw[e1] at e3;cases e3;subst e2;have hb1:(n0+ys.length)*P.cellsOf e<=(s.cap-lo)*P.cellsOf e:=tE _ (by omega);have M4:(s.cap-lo)*P.cellsOf e+lo*P.cellsOf e=s.cap*P.cellsOf e:=(by rw[<-iJ];congr 1;omega);have hb3:us.length=ys.length*P.cellsOf e:=k3.1;rw[iJ] at hb1;obtain⟨w',r1,r2⟩:=DS (P:=P) (b:=b) (o:=o'+lo*s.ai+n0*ei.size) us 0 w vals te e4 (by rw[p3,iI];omega) k3.2.1;rw[kN] at r2;have run:=exec _ _<|zdv (P:=P) (ty:=ty) ht gg xY Dl r1;have hle:=aX.JU (s':=⟨false,aw+1,some ⟨b,o'+lo*s.ai,none⟩,P.cellsOf e,s.cap-lo,hi-lo+ys.length⟩) q1 t1 (by show s.aw<aw+1;omega);have jo:s.cP=some b:=by
   have:¬(s.row=false/\s.cap=0):=λh=>by omega
   simp[Site.cP,this,e1]
  have lb:¬F b:=aA.apart id s b _ q1 jo (hG.trans hH) rfl;have ph:∀z,F z->w'.heap[z]? = w.heap[z]?:=λz vt=>r2.other z λe=>lb<|e▸vt;have qD:∀b1,Site.cP ⟨false,aw+1,some ⟨b,o'+lo*s.ai,none⟩,P.cellsOf e,s.cap-lo,hi-lo+ys.length⟩=some b1->b1=b:=λb1 hb=>by
   unfold Site.cP at hb;split at hb
   ·cases hb
   simpa using hb.symm
  obtain⟨px,s1,s2,s3⟩:=r2.here;have Fk:eU (λi=>if i=id then some ⟨false,aw+1,some ⟨b,o'+lo*s.ai,none⟩,P.cellsOf e,s.cap-lo,hi-lo+ys.length⟩ else J i) F w' b (P.cellsOf e) ((zs.take hi).drop lo++ys)<|o'+lo*s.ai:=by
   obtain⟨A8,m1,m2⟩:=Ed _ _<|zq e6 lo hi;have hm:=m1.append k3;refine j7.lie (us:=A8++us) (hm.mono λd v h=>js hle (λ_ h=>h) ph _ _ h) λj v hv=>?_;have qV:A8.length=n0*P.cellsOf e:=(by rw[m1.1,hlen,t4]);rw[r2.cell e4];by_cases hj:j<A8.length
   ·rw[aa<|by rw[iI];omega];rw[dJ hj] at hv;have:=m2 j v hv;rwa [p3]
   rw[fc<|by omega] at hv;have zE:j-A8.length<us.length:=by
    rcases c7 (j-A8.length) us.length with h|h
    ·exact h
    rw[db h] at hv;cases hv
   rw[ae<|by rw[iI];omega,show o'+lo*s.ai+j-(o'+lo*s.ai+n0*ei.size)=j-A8.length by rw[iI];omega];exact hv
  refine⟨_,w',_,F,run,?_,aA.update id ⟨false,aw+1,some ⟨b,o'+lo*s.ai,none⟩,P.cellsOf e,s.cap-lo,hi-lo+ys.length⟩ _ (λ_=>rfl) (λ_=>rfl) hle ph (by rw[r2.size];exact aI _) (λi s' b' b7 hi hb=>r2.other b' λe=>b7<|aA.one i id s' s b' hi q1 hb<|e▸jo) (λb1 hb=>.inr ⟨s,q1,by rw[qD b1 hb];exact jo⟩) (λi s b hi hb=>aA.iH hi hb) (λb1 hb _=>by rw[qD b1 hb];exact lb)
   ⟨rfl,rfl,rfl,Gy.symm,by show hi-lo+ys.length<=s.cap-lo;omega,.inr ⟨b,o'+lo*s.ai,px,te,rfl,s1,by rw[s2,p3];show o'+lo*P.cellsOf e+(s.cap-lo)*P.cellsOf e<=vals.size;omega,Fk,λq=>by cases q⟩⟩,?_,λi hi=>by simp[hi]⟩
  ·simp only[rep];exact⟨_,_,_,_,by simp;rfl,rfl,aI _,λ_=>⟨rfl,b9 _,aI _,by simp;omega,by simp;omega,.inr ⟨b,_,rfl,by simp⟩⟩⟩
  refine r2.ext aA hle ⟨id,s,q1,jo⟩ (λx ⟨i,t,hi,hb⟩=>?_) lb;dsimp only at hi;by_cases e:i=id
  ·rw[ae e] at hi;cases hi;rw[qD x hb];exact⟨id,s,q1,jo⟩
  rw[aa e] at hi;exact⟨i,t,hi,hb⟩
 have run:=exec _ _<|run_append_grow_src (P:=P) w t u ty e ei z ht gg sZ A0 n0 c0 np NW (.slice A ys.length c) ys.length us xY (by omega) (by omega)<|growslice_fits (by omega) (by rw[t4];exact Jd);obtain⟨g1,g2⟩:=Wd (n:=n0+ys.length) (cap:=grownCap w (n0+ys.length) c0 e) dg pc (by rw[Gy,t4])<|grownCap_ge w _ _ _;obtain⟨J',r1,r2,r3,r4⟩:=zpS (w:=w.drew) (aw:=aw+1) (ai:=P.cellsOf e) (cap:=grownCap w (n0+ys.length) c0 e) (xs:=(zs.take hi).drop lo++ys) (vals:=(np++us).toArray++Builtin.zeroCells z.cells (grownCap w (n0+ys.length) c0 e-(n0+ys.length))) aA.drew id q1 t1 (by show s.aw<aw+1;omega) e (by rw[Gy,<-t4];exact grownCap_ge w _ _ _) g1 λj x hj=>⟨(g2 j x hj).1,λk c hc=>let⟨u,p1,p2,p3⟩:=(g2 j x hj).2 k c hc;⟨u,p1,p2,SR p3⟩⟩;rw[Gy] at r4;refine⟨_,_,J',F,run,?_,r1,Ext.drew.trans r2,r3⟩;rw[t4];rw[t4] at r4;exact r4
end
end
section
mutual
def D.aO(ρ:Nat->Nat):D->D
 | .dB=>.dB
 | .sc v=>.sc v
 | .loc id off=>.loc (ρ id) off
 | .elt id aw i off=>.elt (ρ id) aw i off
 | .aN cs=>.aN<|bO ρ cs
 | .a8 e xs=>.a8 e<|jH ρ xs
 | .own id aw lo hi=>.own (ρ id) aw lo hi
 | .fn f a b=>.fn f (bO ρ a)<|bO ρ b
 | .ifc t d=>.ifc t<|D.aO ρ d
 | .agg cs=>.agg<|bO ρ cs
 | .aJ cs=>.aJ<|bO ρ cs
 | .mp id=>.mp<|ρ id
 | .gv g=>.gv g
def bO(ρ:Nat->Nat):List D->List D
 |[]=>[]
 |d::r=>D.aO ρ d::bO ρ r
def jH(ρ:Nat->Nat):List (List D)->List (List D)
 |[]=>[]
 |d::r=>bO ρ d::jH ρ r
end
def an.aO(ρ:Nat->Nat):an->an
 | .row m cs=>.row m<|bO ρ cs
 | .vec m aw ai xs=>.vec m aw ai<|jH ρ xs
 | .dI m I=>.dI m I
theorem wV(x:Nat):∀n,x∈vZ n↔x<n
 |0=>by simp[vZ]
 |n+1=>by simp only[vZ,dD,wV x n];omega
theorem AI{m:Nat}:∀{l:List an},kl m l->∀o∈l,o.under m
 |[],_,_,h=>by cases h
 |x::r,h,o,ho=>by
  simp only[kl] at h;rcases dD.1 ho with rfl|ho
  ·exact h.1
  exact AI h.2 o ho
mutual
theorem cp{m:Nat}:∀d:D,Pure d->az m d
 | .dB,_=>by simp only[az]
 | .sc _,_=>by simp only[az]
 | .gv _,_=>by simp only[az]
 | .loc ..,h=>by simp only[Pure] at h
 | .elt ..,h=>by simp only[Pure] at h
 | .own ..,h=>by simp only[Pure] at h
 | .mp ..,h=>by simp only[Pure] at h
 | .aN cs,h=>by simp only[Pure] at h;simp only[az];exact cu cs h
 | .a8 _ xs,h=>by simp only[Pure] at h;simp only[az];exact bP xs h
 | .fn _ a b,h=>by simp only[Pure] at h;simp only[az];exact⟨cu a h.1,cu b h.2⟩
 | .ifc _ d,h=>by simp only[Pure] at h;simp only[az];exact cp d h
 | .agg cs,h=>by simp only[Pure] at h;simp only[az];exact cu cs h
 | .aJ cs,h=>by simp only[Pure] at h;simp only[az];exact cu cs h
theorem cu{m:Nat}:∀d:List D,ao d->aK m d
 |[],_=>by simp only[aK]
 |d::r,h=>by simp only[ao] at h;simp only[aK];exact⟨cp d h.1,cu r h.2⟩
theorem bP{m:Nat}:∀d:List<|List D,dX d->bN m d
 |[],_=>by simp only[bN]
 |d::r,h=>by simp only[dX] at h;simp only[bN];exact⟨cu d h.1,bP r h.2⟩
end
mutual
theorem iK{ρ:Nat->Nat}:∀d:D,Pure d->D.aO ρ d=d
 | .dB,_=>by simp only[D.aO]
 | .sc _,_=>by simp only[D.aO]
 | .gv _,_=>by simp only[D.aO]
 | .loc ..,h=>by simp only[Pure] at h
 | .elt ..,h=>by simp only[Pure] at h
 | .own ..,h=>by simp only[Pure] at h
 | .mp ..,h=>by simp only[Pure] at h
 | .aN cs,h=>by simp only[Pure] at h;simp only[D.aO,l6 cs h]
 | .a8 _ xs,h=>by simp only[Pure] at h;simp only[D.aO,jb xs h]
 | .fn _ a b,h=>by simp only[Pure] at h;simp only[D.aO,l6 a h.1,l6 b h.2]
 | .ifc _ d,h=>by simp only[Pure] at h;simp only[D.aO,iK d h]
 | .agg cs,h=>by simp only[Pure] at h;simp only[D.aO,l6 cs h]
 | .aJ cs,h=>by simp only[Pure] at h;simp only[D.aO,l6 cs h]
theorem l6{ρ:Nat->Nat}:∀d:List D,ao d->bO ρ d=d
 |[],_=>by simp only[bO]
 |d::r,h=>by simp only[ao] at h;simp only[bO,iK d h.1,l6 r h.2]
theorem jb{ρ:Nat->Nat}:∀d:List<|List D,dX d->jH ρ d=d
 |[],_=>by simp only[jH]
 |d::r,h=>by simp only[dX] at h;simp only[jH,l6 d h.1,jb r h.2]
end
theorem Mk{ρ:Nat->Nat}:∀d:List D,(bO ρ d).length=d.length
 |[]=>by simp only[bO]
 |d::r=>by simp only[bO,cj,Mk r]
theorem JN{ρ:Nat->Nat}:∀d:List<|List D,(jH ρ d).length=d.length
 |[]=>by simp only[jH]
 |d::r=>by simp only[jH,cj,JN r]
section
variable{J:aX}{F:Nat->Prop}{w:aU}{ρ:Nat->Nat}
mutual
theorem xy:∀(d:D) (v:aH),rep (λi=>J<|ρ i) F w d v↔rep J F w (D.aO ρ d) v
 | .dB,v=>by simp only[D.aO,rep]
 | .sc u,v=>by simp only[D.aO,rep]
 | .gv u,v=>by simp only[D.aO,rep]
 | .loc ..,v=>by simp only[D.aO,rep]
 | .elt ..,v=>by simp only[D.aO,rep]
 | .own ..,v=>by simp only[D.aO,rep]
 | .mp ..,v=>by simp only[D.aO,rep]
 | .aN cs,v=>by
  simp only[D.aO,rep];exact⟨λ⟨b,o,h1,h2,h3⟩=>⟨b,o,h1,h2,(xl b cs o).1 h3⟩,λ⟨b,o,h1,h2,h3⟩=>⟨b,o,h1,h2,(xl b cs o).2 h3⟩⟩
 | .a8 e xs,v=>by
  simp only[D.aO,rep,JN]
  exact⟨λ⟨A,n,c,h1,h2,h3,h4⟩=>⟨A,n,c,h1,h2,h3,h4.imp_right λ⟨b,o,k1,k2,k3⟩=>⟨b,o,k1,k2,(Bg b e xs o).1 k3⟩⟩,
   λ⟨A,n,c,h1,h2,h3,h4⟩=>⟨A,n,c,h1,h2,h3,h4.imp_right λ⟨b,o,k1,k2,k3⟩=>⟨b,o,k1,k2,(Bg b e xs o).2 k3⟩⟩⟩
 | .fn f a b,v=>by
  simp only[D.aO,rep];exact⟨λ⟨vs,us,h1,h2,h3⟩=>⟨vs,us,h1,(ry a vs).1 h2,(ry b us).1 h3⟩,λ⟨vs,us,h1,h2,h3⟩=>⟨vs,us,h1,(ry a vs).2 h2,(ry b us).2 h3⟩⟩
 | .ifc t d,v=>by
  simp only[D.aO,rep];exact⟨λ⟨u,h1,h2⟩=>⟨u,h1,(xy d u).1 h2⟩,λ⟨u,h1,h2⟩=>⟨u,h1,(xy d u).2 h2⟩⟩
 | .agg cs,v=>by
  simp only[D.aO,rep];exact⟨λ⟨vs,h1,h2⟩=>⟨vs,h1,(ry cs vs).1 h2⟩,λ⟨vs,h1,h2⟩=>⟨vs,h1,(ry cs vs).2 h2⟩⟩
 | .aJ cs,v=>by
  simp only[D.aO,rep];exact⟨λ⟨vs,h1,h2⟩=>⟨vs,h1,(ry cs vs).1 h2⟩,λ⟨vs,h1,h2⟩=>⟨vs,h1,(ry cs vs).2 h2⟩⟩
theorem ry:∀(d:List D) (v:List aH),bj (λi=>J<|ρ i) F w d v↔bj J F w (bO ρ d) v
 |[],v=>by simp only[bO,bj]
 |d::r,v=>by
  simp only[bO,bj];exact⟨λ⟨u,us,h1,h2,h3⟩=>⟨u,us,h1,(xy d u).1 h2,(ry r us).1 h3⟩,λ⟨u,us,h1,h2,h3⟩=>⟨u,us,h1,(xy d u).2 h2,(ry r us).2 h3⟩⟩
theorem xl(b:Nat):∀(d:List D) (o:Nat),dM (λi=>J<|ρ i) F w b d o↔dM J F w b (bO ρ d) o
 |[],o=>by simp only[bO,dM]
 |d::r,o=>by
  simp only[bO,dM];exact⟨λ⟨⟨u,h1,h2,h3⟩,h4⟩=>⟨⟨u,h1,h2,(xy d u).1 h3⟩,(xl b r<|o+1).1 h4⟩,λ⟨⟨u,h1,h2,h3⟩,h4⟩=>⟨⟨u,h1,h2,(xy d u).2 h3⟩,(xl b r<|o+1).2 h4⟩⟩
theorem Bg(b ai:Nat):∀(d:List<|List D) (o:Nat),eU (λi=>J<|ρ i) F w b ai d o↔eU J F w b ai (jH ρ d) o
 |[],o=>by simp only[jH,eU]
 |d::r,o=>by
  simp only[jH,eU,Mk];exact⟨λ⟨h1,h2,h3⟩=>⟨h1,(xl b d o).1 h2,(Bg b ai r<|o+ai).1 h3⟩,λ⟨h1,h2,h3⟩=>⟨h1,(xl b d o).2 h2,(Bg b ai r<|o+ai).2 h3⟩⟩
end
variable{o:an}
theorem HD{s:Site}:na (λi=>J<|ρ i) F w s o↔na J F w s (o.aO ρ):=by
 cases o with
 |row m cs =>
  simp only[an.aO,na,Mk];exact⟨λ⟨h1,h2,h3,h4,h5,b,vals,te,k1,k2,k3,k4,k5⟩=>⟨h1,h2,h3,h4,h5,b,vals,te,k1,k2,k3,(xl b cs 0).1 k4,k5⟩,λ⟨h1,h2,h3,h4,h5,b,vals,te,k1,k2,k3,k4,k5⟩=>⟨h1,h2,h3,h4,h5,b,vals,te,k1,k2,k3,(xl b cs 0).2 k4,k5⟩⟩
 |vec m aw ai xs =>
  simp only[an.aO,na,JN]
  exact⟨λ⟨h1,h2,h3,h4,h5,h6⟩=>⟨h1,h2,h3,h4,h5,h6.imp_right λ⟨b,o,vals,te,k1,k2,k3,k4,k5⟩=>⟨b,o,vals,te,k1,k2,k3,(Bg b ai xs o).1 k4,k5⟩⟩,
   λ⟨h1,h2,h3,h4,h5,h6⟩=>⟨h1,h2,h3,h4,h5,h6.imp_right λ⟨b,o,vals,te,k1,k2,k3,k4,k5⟩=>⟨b,o,vals,te,k1,k2,k3,(Bg b ai xs o).2 k4,k5⟩⟩⟩
 |dI m I=>exact Iff.rfl
theorem He:(o.aO ρ).mut=o.mut:=by cases o<;>rfl
end
def dA(m:Nat)(J:aX):aX:=λi=>if i<m then J i else none
section
variable{J:aX}{F:Nat->Prop}{w:aU}{m:Nat}
mutual
theorem Cu:∀(d:D) (v:aH),az m d->rep J F w d v->rep (dA m J) F w d v
 | .dB,v,_,_=>by simp only[rep]
 | .sc u,v,_,h=>by simpa only[rep] using h
 | .gv u,v,_,h=>by simpa only[rep] using h
 | .loc id off,v,hu,h=>by
  simp only[az] at hu;simp only[rep,dA,ae hu] at h⊢;exact h
 | .elt id aw i off,v,hu,h=>by
  simp only[az] at hu;simp only[rep,dA,ae hu] at h⊢;exact h
 | .own id aw lo hi,v,hu,h=>by
  simp only[az] at hu;simp only[rep,dA,ae hu] at h⊢;exact h
 | .mp id,v,hu,h=>by
  simp only[az] at hu;simp only[rep,dA,ae hu] at h⊢;exact h
 | .aN cs,v,hu,h=>by
  simp only[az] at hu;simp only[rep] at h⊢;obtain⟨b,o,h1,h2,h3⟩:=h;exact⟨b,o,h1,h2,Eo b cs o hu h3⟩
 | .a8 e xs,v,hu,h=>by
  simp only[az] at hu;simp only[rep] at h⊢;obtain⟨A,n,c,h1,h2,h3,h4⟩:=h;exact⟨A,n,c,h1,h2,h3,h4.imp_right λ⟨b,o,k1,k2,k3⟩=>⟨b,o,k1,k2,HR b e xs o hu k3⟩⟩
 | .fn f a b,v,hu,h=>by
  simp only[az] at hu;simp only[rep] at h⊢;obtain⟨vs,us,h1,h2,h3⟩:=h;exact⟨vs,us,h1,AB a vs hu.1 h2,AB b us hu.2 h3⟩
 | .ifc t d,v,hu,h=>by
  simp only[az] at hu;simp only[rep] at h⊢;obtain⟨u,h1,h2⟩:=h;exact⟨u,h1,Cu d u hu h2⟩
 | .agg cs,v,hu,h=>by
  simp only[az] at hu;simp only[rep] at h⊢;obtain⟨vs,h1,h2⟩:=h;exact⟨vs,h1,AB cs vs hu h2⟩
 | .aJ cs,v,hu,h=>by
  simp only[az] at hu;simp only[rep] at h⊢;obtain⟨vs,h1,h2⟩:=h;exact⟨vs,h1,AB cs vs hu h2⟩
theorem AB:∀(d:List D) (v:List aH),aK m d->bj J F w d v->bj (dA m J) F w d v
 |[],v,_,h=>by simpa only[bj] using h
 |d::r,v,hu,h=>by
  simp only[aK] at hu;simp only[bj] at h⊢;obtain⟨u,us,h1,h2,h3⟩:=h;exact⟨u,us,h1,Cu d u hu.1 h2,AB r us hu.2 h3⟩
theorem Eo(b:Nat):∀(d:List D) (o:Nat),aK m d->dM J F w b d o->dM (dA m J) F w b d o
 |[],o,_,h=>by simp only[dM]
 |d::r,o,hu,h=>by
  simp only[aK] at hu;simp only[dM] at h⊢;obtain⟨⟨u,h1,h2,h3⟩,h4⟩:=h;exact⟨⟨u,h1,h2,Cu d u hu.1 h3⟩,Eo b r (o+1) hu.2 h4⟩
theorem HR(b ai:Nat):∀(d:List<|List D) (o:Nat),bN m d->eU J F w b ai d o->eU (dA m J) F w b ai d o
 |[],o,_,h=>by simp only[eU]
 |d::r,o,hu,h=>by
  simp only[bN] at hu;simp only[eU] at h⊢;exact⟨h.1,Eo b d o hu.1 h.2.1,HR b ai r (o+ai) hu.2 h.2.2⟩
end
theorem JJ{s:Site}{o:an}(hu:o.under m)(h:na J F w s o):na (dA m J) F w s o:=by
 cases o with
 |row q cs =>
  obtain⟨h1,h2,h3,h4,h5,b,vals,te,k1,k2,k3,k4,k5⟩:=h;exact⟨h1,h2,h3,h4,h5,b,vals,te,k1,k2,k3,Eo b cs 0 hu k4,k5⟩
 |vec q aw ai xs =>
  obtain⟨h1,h2,h3,h4,h5,h6⟩:=h;exact⟨h1,h2,h3,h4,h5,h6.imp_right λ⟨b,o,vals,te,k1,k2,k3,k4,k5⟩=>⟨b,o,vals,te,k1,k2,k3,HR b ai xs o hu k4,k5⟩⟩
 |dI q I=>exact h
end
mutual
theorem HH:∀d:D,D.aO (λi=>i) d=d
 | .dB|.sc _|.gv _|.loc ..|.elt ..|.own ..|.mp ..=>by simp only[D.aO]
 | .aN cs=>by simp only[D.aO,uQ cs]
 | .a8 e xs=>by simp only[D.aO,JS xs]
 | .fn f a b=>by simp only[D.aO,uQ a,uQ b]
 | .ifc t d=>by simp only[D.aO,HH d]
 | .agg cs=>by simp only[D.aO,uQ cs]
 | .aJ cs=>by simp only[D.aO,uQ cs]
theorem uQ:∀d:List D,bO (λi=>i) d=d
 |[]=>by simp only[bO]
 |d::r=>by simp only[bO,HH d,uQ r]
theorem JS:∀d:List<|List D,jH (λi=>i) d=d
 |[]=>by simp only[jH]
 |d::r=>by simp only[jH,uQ d,JS r]
end
theorem G5(o:an):o.aO (λi=>i)=o:=by cases o<;>simp only[an.aO,uQ,JS]
open Classical in
noncomputable def back(ρ:Nat->Nat)(n:Nat)(id:Nat):Option Nat:=if h:∃i,i<n/\ρ i=id then some<|Classical.choose h else none
variable{ρ:Nat->Nat}{n:Nat}
theorem nk{id i:Nat}(h:back ρ n id=some i):i<n/\ρ i=id:=by
 unfold back at h;split at h
 ·rename_i hh;cases h;exact Classical.choose_spec hh
 cases h
theorem Aw{id:Nat}(h:back ρ n id=none):∀i,i<n->ρ i≠id:=by
 unfold back at h;split at h
 ·cases h
 rename_i hh;exact λi hi e=>hh ⟨i,hi,e⟩
theorem TG{i:Nat}(inj:∀i j,i<n->j<n->ρ i=ρ j->i=j)(hi:i<n):back ρ n (ρ i)=some i:=by
 cases h:back ρ n<|ρ i with
 |none=>exact absurd rfl (Aw h i hi)
 |some j =>
  obtain⟨h1,h2⟩:=nk h;rw[inj j i h1 hi h2]
section
variable{P:bt}{f:FuncId}
theorem lO{α:Type}{l:List α}{i:Nat}{x:α}(h:l[i]? = some x):i<l.length:=by
 rcases c7 i l.length with q|q
 ·exact q
 rw[db q] at h;cases h
theorem Li{args:List D}{H0 H0':List an}{d:D}(ρ:Nat->Nat)(hA:cd P f args H0 d H0')(inj:∀i j,i<H0'.length->j<H0'.length->ρ i=ρ j->i=j){vs:List aH}{G G':Nat->Option an}(b8:cr J F w G)
  (hold:∀i o,H0[i]? = some o->G (ρ i)=some (o.aO ρ)) (lX:∀i,H0.length<=i->i<H0'.length->J (ρ i)=none) (pY:bj J F w (bO ρ args) vs)
  (h1:∀i o,H0'[i]? = some o->G' (ρ i)=some (o.aO ρ)) (h2:∀j,(∀i,i<H0'.length->ρ i≠j)->G' j=G j)
  (gM:aK H0.length args) (oM:∀o∈H0,o.under H0.length) :
  Calls P f vs.toArray w λe w'=>∃v J' F',e=.returned v/\cr J' F' w' G'/\(∀id,J' id≠none->J id≠none\/∃i,i<H0'.length/\ρ i=id)/\rep J' F' w' (D.aO ρ d) v/\Ext J F w J' F' w':=by
 obtain⟨aA,Hh,iz⟩:=hA;have OW:∀i,i<H0.length->H0[i]? = some (H0[i]!):=λi hi=>by rw[List.getElem!_eq_getElem?_getD,aG hi];rfl
 have zI:cr (dA H0.length λi=>J<|ρ i) F w λi=>H0[i]?:=by
  refine⟨λi s hs=>?_,λi i' s s' b g1 g2 g3 g4=>?_,λi s b o g1 g2 g3 g4=>?_,b8.lt⟩
  ·unfold dA at hs;split at hs
   ·rename_i hi;have ho:=OW i hi;refine⟨_,ho,JJ (oM _<|kI ho)<|HD.2 ?_⟩;obtain⟨o',q1,q2⟩:=b8.obj (ρ i) s hs;rw[hold i _ ho] at q1;cases q1;exact q2
   cases hs
  ·unfold dA at g1 g2;split at g1<;>split at g2
   ·exact inj i i' (by omega) (by omega)<|b8.one (ρ i) (ρ i') s s' b g1 g2 g3 g4
   all_goals first|cases g1|cases g2
  unfold dA at g1;split at g1
  ·exact b8.apart (ρ i) s b (o.aO ρ) g1 g2 (hold i o g3)<|by rw[He];exact g4
  cases g1
 have uG:∀id,dA H0.length (λi=>J<|ρ i) id≠none->id<H0.length:=λid hid=>by
  unfold dA at hid;split at hid
  ·assumption
  exact absurd rfl hid
 have Aq:bj (dA H0.length λi=>J<|ρ i) F w args vs:=AB _ _ gM<|(ry args vs).2 pY;have own0:∀b,iU (dA H0.length λi=>J<|ρ i) b->∃i s,i<H0.length/\J (ρ i)=some s/\s.cP=some b:=λb ⟨i,s,hs,hb⟩=>by
  unfold dA at hs;split at hs
  ·exact⟨i,s,by assumption,hs,hb⟩
  cases hs
 have main:=iz _ F w vs zI uG Aq;refine Calls.mono main λe w' ⟨v,J0',F',he,lZ,KY,L',ex⟩=>?_
 let J':aX:=λid=>match back ρ H0'.length id with|some i=>J0' i|none=>J id
 have jat:∀i,i<H0'.length->J' (ρ i)=J0' i:=λi hi=>by simp only[J',TG inj hi]
 have jno:∀id,back ρ H0'.length id=none->J' id=J id:=λid h=>by simp only[J',h]
 have hle:J.le J':=λid s hs=>by
  cases e:back ρ H0'.length id with
  |none=>exact⟨s,by rw[jno id e];exact hs,aI _,λ_=>rfl⟩
  |some i =>
   obtain⟨k1,rfl⟩:=nk e;have hi:i<H0.length:=by
    rcases c7 i H0.length with q|q
    ·exact q
    rw[lX i q k1] at hs;cases hs
   obtain⟨s',g1,g2⟩:=ex.le i s (by simp only[dA,ae hi];exact hs);exact⟨s',by rw[jat i k1];exact g1,g2⟩
 have hleρ:J0'.le λi=>J'<|ρ i:=λi s hs=>⟨s,by
  dsimp only;rw[jat i<|KY i<|by rw[hs];simp];exact hs,aI _,λ_=>rfl⟩
 have nown:∀id s b,back ρ H0'.length id=none->J id=some s->s.cP=some b->¬iU (dA H0.length λi=>J<|ρ i) b:=λid s b hb hs jr ho=>by
  obtain⟨i,s',k1,k2,k3⟩:=own0 b ho;exact Aw hb i (by omega)<|b8.one (ρ i) id s' s b k2 hs k3 jr
 refine⟨v,J',F',he,⟨λid s hs=>?_,λid ij s s' b g1 g2 g3 g4=>?_,λid s b o g1 g2 g3 g4=>?_,lZ.lt⟩,λid hid=>?_,(xy d v).1<|js hleρ (λ_ h=>h) (λ_ _=>rfl) _ _ L',?_⟩
 ·cases e:back ρ H0'.length id with
  |some i =>
   obtain⟨k1,rfl⟩:=nk e;rw[jat i k1] at hs;obtain⟨o,q1,q2⟩:=lZ.obj i s hs;exact⟨o.aO ρ,h1 i o q1,HD.1<|qO hleρ (λ_ h=>h) (λ_ _=>rfl) (λ_ _=>rfl) q2⟩
  |none =>
   rw[jno id e] at hs;obtain⟨o,q1,q2⟩:=b8.obj id s hs;refine⟨o,?_,qO hle ex.grow ex.frozen (λb hb=>ex.block b (b8.iH hs hb)<|nown id s b e hs hb) q2⟩;rw[h2 id λi hi=>Aw e i hi];exact q1
 ·cases e:back ρ H0'.length id with
  |some i =>
   obtain⟨k1,rfl⟩:=nk e;rw[jat i k1] at g1
   cases e':back ρ H0'.length ij with
   |some i' =>
    obtain⟨xu,rfl⟩:=nk e';rw[jat i' xu] at g2;rw[lZ.one i i' s s' b g1 g2 g3 g4]
   |none =>
    rw[jno ij e'] at g2;rcases ex.nj b ⟨i,s,g1,g3⟩ with q|q
    ·exact absurd q<|nown ij s' b e' g2 g4
    have:=b8.iH g2 g4;omega
  |none =>
   rw[jno id e] at g1
   cases e':back ρ H0'.length ij with
   |some i' =>
    obtain⟨xu,rfl⟩:=nk e';rw[jat i' xu] at g2;rcases ex.nj b ⟨i',s',g2,g4⟩ with q|q
    ·exact absurd q<|nown id s b e g1 g3
    have:=b8.iH g1 g3;omega
   |none =>
    rw[jno ij e'] at g2;exact b8.one id ij s s' b g1 g2 g3 g4
 ·have o9:G' id=some o:=g3
  cases e:back ρ H0'.length id with
  |some i =>
   obtain⟨k1,rfl⟩:=nk e;rw[jat i k1] at g1;obtain⟨o0,q1,_⟩:=lZ.obj i s g1;rw[h1 i o0 q1] at o9;cases o9;exact lZ.apart i s b o0 g1 g2 q1<|by rw[He] at g4;exact g4
  |none =>
   rw[jno id e] at g1;rw[h2 id λi hi=>Aw e i hi] at o9;intro hx;rcases ex.oa b hx with q|q|q
   ·exact b8.apart id s b o g1 g2 o9 g4 q
   ·exact nown id s b e g1 g2 q
   have:=b8.iH g1 g2;omega
 ·cases e:back ρ H0'.length id with
  |some i =>
   obtain⟨k1,rfl⟩:=nk e;exact .inr ⟨i,k1,rfl⟩
  |none =>
   rw[jno id e] at hid;exact .inl hid
 refine⟨ex.os,ex.tape,ex.output,ex.size,λb hb hn=>ex.block b hb λho=>?_,ex.frozen,hle,ex.grow,λb ⟨id,s,hs,hb⟩=>?_,λb hb=>?_⟩
 ·obtain⟨i,s,_,k2,k3⟩:=own0 b ho;exact hn ⟨ρ i,s,k2,k3⟩
 ·cases e:back ρ H0'.length id with
  |some i =>
   obtain⟨k1,rfl⟩:=nk e;rw[jat i k1] at hs;refine(ex.nj b ⟨i,s,hs,hb⟩).imp_left λq=>?_;obtain⟨k,s',_,k2,k3⟩:=own0 b q;exact⟨ρ k,s',k2,k3⟩
  |none =>
   rw[jno id e] at hs;exact .inl ⟨id,s,hs,hb⟩
 rcases ex.oa b hb with q|q|q
 ·exact .inl q
 ·obtain⟨k,s',_,k2,k3⟩:=own0 b q;exact .inr (.inl ⟨ρ k,s',k2,k3⟩)
 exact .inr (.inr q)
end
end
section
section
variable{P:bt}{seq:Bool}{o:Oper}{env:Env}{H:List an}{K:oW}
variable{x:aT}
theorem Yn{src dst:aY}{k0 k:IntKind}(hs:P.underlying src=some (.int k0))(hd:P.underlying dst=some (.int k))(ho:o.op=.convert src dst x)(h:step P seq (.conv k x) env H K):Sound P o env H K:=by
 simp only[step,fz] at h;split at h
 ·rename_i q n e;refine fj (Au _ _ _ h) λJ F w a G _ aR _=>⟨_,?_,rfl⟩;have k1:=aR x (by simp[ho,Op.operands]);rw[e] at k1;simp only[rep] at k1;simp[execOp,ho,k1,convert,underlying,program,Sem.run,hs,hd,Conv.intToInt,pure]
 exact h.elim
variable{e:aY}
theorem zA8{src dst:aY}(hs:P.underlying src=some (.slice e))(hd:P.underlying dst=some .string)(he:P.underlying e=some (.int .u8))(ho:o.op=.convert src dst x)(h:step P seq (.LD x) env H K):Sound P o env H K:=by
 simp only[step,fz] at h;obtain⟨ys,rd,⟨ns,rfl,hK⟩,hy⟩:=V8 h;refine fj hK λJ F w a G aA aR cW=>?_;obtain⟨A,c,us,q1,⟨r1,_,r3⟩,q3⟩:=hy J F w G _ aA cW<|aR x (by simp[ho,Op.operands]);have Eb:us=ns.map (Value.int .u8):=by
  apply qX;intro j;rw[cy];by_cases hj:j<ns.length
  ·obtain⟨u,p1,_,p3⟩:=(r3 j [.sc (.int .u8 ns[j])]<|by rw[cy,aG hj];rfl).2 0 _ rfl;simp only[rep] at p3;subst p3;rw[AE,kN] at p1;rw[p1,aG hj];rfl
  rw[db<|by rw[r1];simpa using hj,db<|by omega];rfl
 rw[aS] at q1;refine⟨_,?_,rfl⟩;have key:(convert src dst<|a.eval x).run P w=.ok (.string<|ns.foldl (λr n=>r.push<|UInt8.ofNat n.toNat) ByteArray.empty) w:=by
  rw[q1,run_convert_bytes_string w src dst e A _ c hs he hd];rcases q3 with⟨rfl,q⟩|⟨ad,rfl,q⟩
  ·have:ns=[]:=by simpa using q
   subst this;simp[Conv.bytesToString,pure,Sem.run]
  refine run_bytesToString w ad _ c ns ?_;have:=run_loadCells_list (P:=P) w ad us q;rwa [Eb,aS] at this
 simp only[execOp,ho,Sem.run_bind,key,Result.andThen_ok,pure,Sem.run]
variable{args:Array aT}{ts:Array aY}
theorem zDe{y:aT}(ha:args.toList=[x,y])(ho:o.op=.call { callee:=.builtin .max,args:=args,argTypes:=ts })(h:step P seq (.mx true x y) env H K):Sound P o env H K:=by
 obtain⟨args⟩:=args;simp only at ha;subst ha;simp only[step,fz] at h;split at h
 ·rename_i k n e1;split at h
  ·rename_i k' m e2;refine fj h λJ F w a G _ aR _=>⟨_,?_,rfl⟩;have k1:=aR x (by simp[ho,Op.operands,Call.operands]);have k2:=aR y (by simp[ho,Op.operands,Call.operands]);rw[e1] at k1;rw[e2] at k2;simp only[rep] at k1 k2;have e:(if m>n then m else n)=max n m:=(by omega);simp only[execOp,ho,resolve,invoke,builtin,Sem.run_bind,Sem.run,pure,Result.andThen_ok,Ej,dR,gP,k1,k2];have hr:=Go.run_max_int2 (P:=P) w ts o.type k k' n m;rw[e] at hr;rw[hr];rfl
  exact h.elim
 exact h.elim
theorem zC7{y:aT}(ha:args.toList=[x,y])(ho:o.op=.call { callee:=.builtin .min,args:=args,argTypes:=ts })(h:step P seq (.mx false x y) env H K):Sound P o env H K:=by
 obtain⟨args⟩:=args;simp only at ha;subst ha;simp only[step,fz] at h;split at h
 ·rename_i k n e1;split at h
  ·rename_i k' m e2;refine fj h λJ F w a G _ aR _=>⟨_,?_,rfl⟩;have k1:=aR x (by simp[ho,Op.operands,Call.operands]);have k2:=aR y (by simp[ho,Op.operands,Call.operands]);rw[e1] at k1;rw[e2] at k2;simp only[rep] at k1 k2;have e:(if m<n then m else n)=min n m:=(by omega);simp only[execOp,ho,resolve,invoke,builtin,Sem.run_bind,Sem.run,pure,Result.andThen_ok,Ej,dR,gP,k1,k2];have hr:=Go.run_min_int2 (P:=P) w ts o.type k k' n m;rw[e] at hr;rw[hr];rfl
  exact h.elim
 exact h.elim
theorem SD{J:aX}{F:Nat->Prop}{w:aU}:∀(cs:List D) (vs:List aH),Ah cs->bj J F w cs vs->vs=cs.map scV
 |[],vs,_,h=>by simp only[bj] at h;simp[h]
 |d::r,vs,h,k=>by
  simp only[bj] at k;obtain⟨v,us,rfl,h1,h2⟩:=k;simp only[Ah] at h
  cases d with
  |sc u =>
   simp only[isScalar] at h;simp only[rep] at h1;subst h1;rw[dR,<-SD r us h h2];rfl
  |_=>simp[isScalar] at h
theorem KW{d:D}{K':aH->Prop}(h:FA d K'):∃key,K' key/\∀(J:aX) (F:Nat->Prop) (w:aU) (v:aH),rep J F w d v->v=key:=by
 unfold FA at h;split at h
 ·rename_i u;exact⟨u,h,λJ F w v hv=>by simpa only[rep] using hv⟩
 ·rename_i cs;refine⟨_,h.2,λJ F w v hv=>?_⟩;simp only[rep] at hv;obtain⟨vs,rfl,k⟩:=hv;rw[SD cs vs h.1 k]
 exact h.elim
variable{t kt:aY}
theorem Zu(ho:o.op=.makeMap t none)(h:step P seq (.FY kt) env H K):Sound P o env H K:=by
 simp only[step,wx] at h;refine Cs h λJ F w a G aA aR cW hn=>?_
 obtain⟨h1,h2⟩:=aA.WS H.length hn ⟨true,0,some ⟨w.heap.size,0,none⟩,1,1,1⟩ (.dI true<|kF P kt λ_=>none) (.map #[] 0) rfl
  ⟨rfl,w.heap.size,#[],0,rfl,heap_alloc_new w _,by simp,by simp,by simp⟩
 refine⟨.map<|some w.heap.size,_,_,F,?_,?_,h1,h2,λi hi=>by simp[hi]⟩
 ·simp only[execOp,ho,Option.map_none,Sem.run_bind,run_makeMap,Result.andThen_ok];rfl
 simp only[rep];exact⟨_,w.heap.size,by simp;rfl,rfl,rfl,rfl⟩
theorem L1{G:Nat->Option an}(h:cr J F w G){id:Nat}{v:aH}{m:Bool}{I:Array MapEntry->Prop}(h1:rep J F w (.mp id) v)(h3:G id=some (.dI m I)) :
  ∃s b es clock,J id=some s/\s.row/\s.ad=some ⟨b,0,none⟩/\v=.map (some b)/\w.heap[b]? = some (.map es clock)/\I es:=by
 simp only[rep] at h1;obtain⟨s,b,q1,q2,q3,rfl⟩:=h1;obtain⟨o,k1,k2⟩:=h.obj id s q1;rw[h3] at k1;cases k1;obtain⟨_,b',es,clock,p1,p2,p3⟩:=k2;rw[q3] at p1;cases p1;exact⟨s,b,es,clock,q1,q2,q3,rfl,p2,p3⟩
variable{m:aT}
theorem Ze{z:aH}(ht:P.underlying t=some (.map kt e))(hz:(P.info? e).bind (·.zero)=some z)(zB:fH z)(ho:o.op=.lookup t m x true)(h:step P seq (.look kt z m x) env H K):Sound P o env H K:=by
 simp only[step,fz] at h;split at h
 ·rename_i id e1;obtain⟨ob,h1,h2⟩:=(kr _ _ _).1 h;split at h2
  ·rename_i mm I;obtain⟨key,⟨f,rfl,Kd,⟨l,hl⟩,hS,hN⟩,jV⟩:=KW h2
   have go:∀(ok:Bool) (v:aH),(∀(J:aX) (F:Nat->Prop) (w:aU) (a:Act) (b:Nat) (es:Array MapEntry) (clock:Nat),w.heap[b]? = some (.map es clock)->kF P kt f es->(Instr.lookup t (.map<|some b) key true).run P w=.ok (.tuple #[v,.bool ok]) w) ->
     K (.aJ [.sc v,.sc (.bool ok)]) H [id] []->Sound P o env H K:=λok v iz hK=>by
    refine fj hK λJ F w a G aA aR cW=>?_;have k1:=aR m (by simp[ho,Op.operands]);have k2:=jV J F w _<|aR x (by simp[ho,Op.operands]);rw[e1] at k1;obtain⟨s,b,es,clock,q1,q2,q3,q4,q5,q6⟩:=L1 aA k1 (by rw[cW id<|by simp];exact h1);refine⟨.tuple #[v,.bool ok],?_,?_⟩
    ·simp[execOp,ho,q4,k2,iz J F w a b es clock q5 q6,Sem.run,pure]
    simp only[rep];exact⟨[v,.bool ok],rfl,by simp only[bj];exact⟨v,[.bool ok],rfl,by simp only[rep],.bool ok,[],rfl,by simp only[rep],rfl⟩⟩
   cases hf:f key with
   |some v =>
    refine go true v (λJ F w a b es clock hb hI=>?_)<|hS v hf;obtain⟨i1,i2,i3⟩:=hI;rcases Kd.find w hl es.toList i1 with⟨g1,g2⟩|⟨j,e0,g1,g2,g3⟩
    ·obtain⟨e0,g3,g4⟩:=i3 key v hf;exact absurd g4<|g2 e0 g3
    have:=i2 e0<|kI g2;rw[g3,hf] at this;cases this;simp[Instr.lookup,run_underlying ht,MapKept.run_getObj_map hb,Kd.check w _ hl,g1,Result.andThen]
   |none =>
    refine go false z (λJ F w a b es clock hb hI=>?_)<|hN hf;obtain⟨i1,i2,i3⟩:=hI;rcases Kd.find w hl es.toList i1 with⟨g1,g2⟩|⟨j,e0,g1,g2,g3⟩
    ·simp[Instr.lookup,run_underlying ht,MapKept.run_getObj_map hb,Kd.check w _ hl,g1,Hi hz,Result.andThen]
    have:=i2 e0<|kI g2;rw[g3,hf] at this;cases this
  exact h2.elim
 exact h.elim
theorem Zy(ht:P.underlying t=some (.map kt e))(ho:o.op=.lookup t m x false)(h:step P seq (.Oh kt m x) env H K):Sound P o env H K:=by
 simp only[step,fz] at h;split at h
 ·rename_i id e1;obtain⟨ob,h1,h2⟩:=(kr _ _ _).1 h;split at h2
  ·rename_i mm I;obtain⟨key,⟨f,rfl,Kd,⟨l,hl⟩,v,hf,hK⟩,jV⟩:=KW h2;refine fj hK λJ F w a G aA aR cW=>?_;have k1:=aR m (by simp[ho,Op.operands]);have k2:=jV J F w _<|aR x (by simp[ho,Op.operands]);rw[e1] at k1;obtain⟨s,b,es,clock,q1,q2,q3,q4,hb,hI⟩:=L1 aA k1 (by rw[cW id<|by simp];exact h1);have iz:(Instr.lookup t (.map<|some b) key false).run P w=.ok v w:=by
    obtain⟨i1,i2,i3⟩:=hI;rcases Kd.find w hl es.toList i1 with⟨g1,g2⟩|⟨j,e0,g1,g2,g3⟩
    ·obtain⟨e0,g3,g4⟩:=i3 key v hf;exact absurd g4<|g2 e0 g3
    have:=i2 e0<|kI g2;rw[g3,hf] at this;cases this;simp[Instr.lookup,run_underlying ht,MapKept.run_getObj_map hb,Kd.check w _ hl,g1,Result.andThen]
   refine⟨v,?_,by simp only[rep]⟩;simp[execOp,ho,q4,k2,iz,Sem.run,pure]
  exact h2.elim
 exact h.elim
theorem zBX{v:aT}(ht:P.underlying t=some (.map kt e))(ho:o.op=.mapUpdate t m x v)(h:step P seq (.LI kt m x v) env H K):Sound P o env H K:=by
 simp only[step,fz] at h;split at h
 ·rename_i id e1;obtain⟨ob,h1,h2⟩:=(kr _ _ _).1 h;split at h2
  ·rename_i I;obtain⟨key,h3,jV⟩:=KW h2;split at h3
   ·rename_i u e2;obtain⟨f,rfl,Kd,⟨l,hl⟩,hf,h4⟩:=h3;obtain⟨h5,h6⟩:=(uP _ _ _ _).1 h4;refine MR h5 h6 λJ F w a G aA aR hG=>?_;have k1:=aR m (by simp[ho,Op.operands]);have k2:=jV J F w _<|aR x (by simp[ho,Op.operands]);have k3:=aR v (by simp[ho,Op.operands]);rw[e1] at k1;rw[e2] at k3;simp only[rep] at k3;obtain⟨s,b,es,clock,q1,q2,q3,q4,q5,i1,i2,i3⟩:=L1 aA k1<|hG.trans h1;have jo:s.cP=some b:=(by simp[Site.cP,q2,q3]);have lb:¬F b:=aA.apart id s b _ q1 jo (hG.trans h1) rfl;have Tr:∀e∈es.toList,e.key≠key:=λe he q=>by
     have:=i2 e he;rw[q,hf] at this;cases this
    have YV:(Instr.findKey kt key es.toList).run P w=.ok none w:=by
     rcases Kd.find w hl es.toList i1 with⟨g1,_⟩|⟨j,e0,_,g2,g3⟩
     ·exact g1
     exact absurd g3<|Tr e0<|kI g2
    have iz:(Instr.mapUpdate t (.map<|some b) key u).run P w=.ok () { w with heap:=w.heap.setIfInBounds b (.map (es.push { key,val:=u,born:=clock })<|clock+1) }:=by
     simp[Instr.mapUpdate,run_underlying ht,MapKept.run_getObj_map q5,Kd.check w false hl,YV,MapKept.run_setObj_map _ q5,Result.andThen]
    have KP:∀i,i≠b->(w.heap.setIfInBounds b (.map (es.push { key,val:=u,born:=clock })<|clock+1))[i]? = w.heap[i]?:=λi hi=>(MapKept.heap_set q5).2 i hi;have ph:∀z,F z->(w.heap.setIfInBounds b (.map (es.push { key,val:=u,born:=clock })<|clock+1))[z]? = w.heap[z]?:=λz vt=>KP z λe=>lb<|e▸vt;refine⟨.skip,{ w with heap:=w.heap.setIfInBounds b (.map (es.push { key,val:=u,born:=clock }) (clock+1)) },?_,.inr rfl,rfl,?_,⟨rfl,rfl,rfl,by simp,λx hx hn=>KP x λe=>hn ⟨id,s,q1,by rw[e];exact jo⟩,ph,aX.le_refl J,λ_ h=>h,λx hx=>.inl hx,λx hx=>.inl hx⟩⟩
    ·simp only[execOp,ho,q4,k2,k3,iz,Sem.run_bind,Result.andThen_ok];rfl
    refine aA.update id s _ (λi=>by split;· rename_i e;rw[e];exact q1
                                    rfl) (λ_=>rfl) (aX.le_refl J) ph (by simp) (λi s' b' b7 hi hb=>KP b' λe=>b7<|aA.one i id s' s b' hi q1 hb<|e▸jo) (λb' hb=>.inr ⟨s,q1,hb⟩) (λi s' b' hi hb=>aA.iH hi hb) (λb' hb _=>by rw[jo] at hb;cases hb;exact lb) ?_
    refine⟨q2,b,_,_,q3,(MapKept.heap_set q5).1,?_,?_,?_⟩
    ·intro e he;rw[Array.toList_push,de,cM] at he;rcases he with he|rfl
     ·exact i1 e he
     exact⟨l,hl⟩
    ·intro e he;rw[Array.toList_push,de,cM] at he;unfold ox;rcases he with he|rfl
     ·rw[aa<|Tr e he];exact i2 e he
     rw[ae rfl]
    intro k' v' au;unfold ox at au;rw[Array.toList_push];split at au
    ·rename_i e;cases au;exact⟨_,wI _<|cM.2 rfl,e.symm⟩
    obtain⟨e,g1,g2⟩:=i3 k' v' au;exact⟨e,xU _ g1,g2⟩
   exact h3.elim
  exact h2.elim
 exact h.elim
end
end
section
def Tb(P:bt)(o:Oper)(env:Env)(H:List an)(d:D)(H2:List an):Prop :=
 H.length<=H2.length/\∀(J:aX) (F:Nat->Prop) (w:aU) (a:Act),cr J F w (λi=>H[i]?)->(∀id,J id≠none->id<H.length)->(∀x∈o.op.operands,rep J F w (fh env x)<|a.eval x) ->
  ∀(K:Act->aU->Prop) (Q:Exit->Act->aU->Prop),
   (∀v w' J' F',rep J' F' w' d v->cr J' F' w' (λi=>H2[i]?)->Ext J F w J' F' w'->(∀id,J' id≠none->id<H2.length)->K (a.put o.dst v) w')->o.wp P a w K Q
theorem OpS.seq{P:bt}{o:Oper}{env:Env}{rd wr:List Nat}{H:List an}{d:D}{H2:List an}(h:OpS P o env rd wr H d H2):Tb P o env H d H2:=by
 refine⟨h.len,λJ F w a aA jm aR K Q hK=>h.run J F w a _ aA aR (λ_ _=>rfl) (λid hl _=>?_) K Q λv w' J' F' h1 h2 h3 h4=>?_⟩
 ·cases e:J id with
  |none=>rfl
  |some s=>have:=jm id (by rw[e];simp);omega
 refine hK v w' J' F' h1 ?_ h3 λid hid=>?_
 ·have:upd (λi=>H[i]?) wr H2=λi=>H2[i]?:=by
   funext i;unfold upd;split
   ·rfl
   rename_i hi;exact(h.frame i hi).symm
  rwa [this] at h2
 rcases c7 id H2.length with hl|hl
 ·exact hl
 have hw:id ∉ wr:=λhw=>by have:=h.lt id hw;omega
 have hJ:J id=none:=by
  cases e:J id with
  |none=>rfl
  |some s=>have:=jm id (by rw[e];simp);have:=h.len;omega
 exact absurd (h4 id hJ hw) hid
variable{G:Nat->Option an}
theorem cr.p'(h:cr J F w G)(hb:∀b,b<w.heap.size->w'.heap[b]? = w.heap[b]?)(gT:w.heap.size<=w'.heap.size)(hF:∀b,F b->F' b)(KT:∀b,F' b->F b\/w.heap.size<=b)(bF:∀b,F' b->b<w'.heap.size):cr J F' w' G where
 obj id s hi:=by
  obtain⟨o,h1,h2⟩:=h.obj id s hi;exact⟨o,h1,qO (aX.le_refl J) hF (λb hx=>hb b<|h.lt b hx) (λb hx=>hb b<|h.iH hi hx) h2⟩
 one:=h.one
 apart id s b o hi hs hg hm hx:=by
  rcases KT b hx with q|q
  ·exact h.apart id s b o hi hs hg hm q
  have:=h.iH hi hs;omega
 lt:=h.lt.mono hF (λb hx=>hb b<|h.lt b hx) bF
theorem pI(b:Nat):¬iU jI b:=λ⟨_,_,h,_⟩=>by cases h
theorem Ii(J:aX):jI.le J:=λ_ _ h=>by cases h
theorem Ext.PR(aA:cr J F w G)(h:Ext jI F w jI F' w'):Ext J F w J F' w' :=
 ⟨h.os,h.tape,h.output,h.size,λb hb _=>h.block b hb<|pI b,h.frozen,aX.le_refl J,h.grow,λb hb=>.inl hb,λb hb=>(h.oa b hb).imp_right λq=>.inr<|q.resolve_left<|pI b⟩
section
variable{J:aX}{F:Nat->Prop}{w:aU}{H:List an}{G:Nat->Option an}
mutual
theorem Iv(aA:cr J F w G)(hG:∀(id:Nat) (o:an),H[id]? = some o->G id=some o):∀(d e:D) (v:aH),Deep H d e->rep J F w d v->rep J (λb=>F b\/iU J b) w e v
 |d,_,v,.refl _,h=>js (aX.le_refl J) (λ_ h=>.inl h) (λ_ _=>rfl) d v h
 |_,_,v,.dB _,_=>by simp only[rep]
 |_,_,v,.none ai,h=>by
  simp only[rep] at h⊢;exact⟨none,0,0,h,rfl,aI _,.inl rfl⟩
 |_,_,v,.loc id off m cs ds h k,hv=>by
  simp only[rep] at hv⊢;obtain⟨s,b,h1,h2,h3,rfl⟩:=hv;have hc:=FM (Lf aA h1 h3 (hG _ _ h)) off;refine⟨b,off,rfl,.inr ⟨id,s,h1,by simp[Site.cP,h2,h3]⟩,?_⟩;rw[jP] at hc;exact NL aA hG _ _ b off k hc
 |_,_,v,.own id aw lo hi ai m xs ys h k,hv=>by
  simp only[rep] at hv⊢;obtain⟨s,A,n,c,h1,rfl,h2,h3⟩:=hv;obtain⟨p1,p2,p3,p4,p5,p6⟩:=uX aA h1 (hG _ _ h);obtain⟨t1,t2,t3,rfl,rfl,t6⟩:=h3 p2.symm;have hl:ys.length=hi-lo:=by
   rw[<-Ro _ _ k];simp;omega
  refine⟨A,_,_,rfl,hl.symm,by omega,?_⟩;rcases t6 with t6|⟨b,o,t6,rfl⟩
  ·exact .inl<|by omega
  rcases p6 with p6|⟨b',o',vals,te,e,q1,q2,q3,q4⟩
  ·exact .inl<|by omega
  rw[t6] at e;cases e;by_cases hz:s.cap=0
  ·exact .inl<|by omega
  refine .inr ⟨b,_,rfl,.inr ⟨id,s,h1,by simp[Site.cP,hz,t6]⟩,?_⟩;rw[p3];exact Xu aA hG _ _ b ai _ k<|zq q3 lo hi
 |_,_,v,.fn f a b c e h k,hv=>by
  simp only[rep] at hv⊢;obtain⟨vs,us,rfl,h2,h3⟩:=hv;exact⟨vs,us,rfl,wT aA hG _ _ vs h h2,wT aA hG _ _ us k h3⟩
 |_,_,v,.ifc t d e h,hv=>by
  simp only[rep] at hv⊢;obtain⟨u,rfl,h2⟩:=hv;exact⟨u,rfl,Iv aA hG _ _ u h h2⟩
 |_,_,v,.agg a b h,hv=>by
  simp only[rep] at hv⊢;obtain⟨vs,rfl,h2⟩:=hv;exact⟨vs,rfl,wT aA hG _ _ vs h h2⟩
 |_,_,v,.aJ a b h,hv=>by
  simp only[rep] at hv⊢;obtain⟨vs,rfl,h2⟩:=hv;exact⟨vs,rfl,wT aA hG _ _ vs h h2⟩
theorem wT(aA:cr J F w G)(hG:∀(id:Nat) (o:an),H[id]? = some o->G id=some o):∀(d e:List D) (v:List aH),im H d e->bj J F w d v->bj J (λb=>F b\/iU J b) w e v
 |_,_,v,.nil,h=>by simp only[bj] at h⊢;exact h
 |_,_,v,.cons d e a b h k,hv=>by
  simp only[bj] at hv⊢;obtain⟨u,us,rfl,h2,h3⟩:=hv;exact⟨u,us,rfl,Iv aA hG _ _ u h h2,wT aA hG _ _ us k h3⟩
theorem NL(aA:cr J F w G)(hG:∀(id:Nat) (o:an),H[id]? = some o->G id=some o):∀(d e:List D) (b o:Nat),im H d e->dM J F w b d o->dM J (λb=>F b\/iU J b) w b e o
 |_,_,b,o,.nil,h=>by simp only[dM]
 |_,_,b,o,.cons d e x y h k,hv=>by
  simp only[dM] at hv⊢;obtain⟨⟨u,h1,h2,h3⟩,h4⟩:=hv;exact⟨⟨u,h1,h2,Iv aA hG _ _ u h h3⟩,NL aA hG _ _ b (o+1) k h4⟩
theorem Xu(aA:cr J F w G)(hG:∀(id:Nat) (o:an),H[id]? = some o->G id=some o):∀(d e:List<|List D) (b ai o:Nat),lE H d e->eU J F w b ai d o->eU J (λb=>F b\/iU J b) w b ai e o
 |_,_,b,ai,o,.nil,h=>by simp only[eU]
 |_,_,b,ai,o,.cons d e x y h k,hv=>by
  simp only[eU] at hv⊢;obtain⟨h1,h2,h3⟩:=hv;exact⟨by rw[<-TD _ _ h];exact h1,NL aA hG _ _ b o h h2,Xu aA hG _ _ b ai (o+ai) k h3⟩
theorem TD:∀(d e:List D),im H d e->d.length=e.length
 |_,_,.nil=>rfl
 |_,_,.cons d e a b _ k=>by simp[TD a b k]
theorem Ro:∀(d e:List<|List D),lE H d e->d.length=e.length
 |_,_,.nil=>rfl
 |_,_,.cons d e a b _ k=>by simp[Ro a b k]
end
theorem Km{J':aX}{F':Nat->Prop}{w':aU}:∀(ds:List D) (vs:List aH),Ah ds->bj J F w ds vs->bj J' F' w' ds vs
 |[],vs,_,h=>by simp only[bj] at h⊢;exact h
 |d::r,vs,hs,h=>by
  simp only[Ah] at hs;simp only[bj] at h⊢;obtain⟨v,us,rfl,h2,h3⟩:=h
  cases e:isScalar d with
  |false=>rw[e] at hs;cases hs
  |true =>
   rw[e] at hs;refine⟨v,us,rfl,?_,Km r us hs h3⟩;cases d<;>simp[isScalar] at e;simpa only[rep] using h2
theorem zsU{d:D}{v:aH}(hb:FC d)(h:rep J F w d v):rep J' F' w' d v:=by
 cases d<;>simp[FC] at hb
 case sc=>simpa only[rep] using h
 case agg cs=>simp only[rep] at h⊢;obtain⟨vs,h1,h2⟩:=h;exact⟨vs,h1,Km cs vs hb h2⟩
 case aJ cs=>simp only[rep] at h⊢;obtain⟨vs,h1,h2⟩:=h;exact⟨vs,h1,Km cs vs hb h2⟩
end
section
variable{P:bt}{seq:Bool}{o:Oper}{env:Env}{H:List an}{K:oW}
variable{f:FuncId}
theorem z6{vs:Array aH}{a:Act}{K:Act->aU->Prop}{Q:Exit->Act->aU->Prop}{R:Ending->aU->Prop}(iz:(execOp a.eval o).run P w=.ok (.enter f vs) w)(hc:Calls P f vs w R)
  (hR:∀e w',R e w'->∃v,e=.returned v/\K (a.put o.dst v) w'):o.wp P a w K Q:=by
 unfold Oper.wp;rw[iz,Oper.upon_enter];exact hc.mono λe w' h=>by
  obtain⟨v,rfl,hk⟩:=hR e w' h;exact hk
def vL(P:bt)(o:Oper)(env:Env)(H:List an)(K:oW):Prop :=
 ∀(J:aX) (F:Nat->Prop) (w:aU) (a:Act),cr J F w (λi=>H[i]?)->(∀id,J id≠none->id<H.length)->(∀x∈o.op.operands,rep J F w (fh env x)<|a.eval x) ->
  ∀(K2:Act->aU->Prop) (Q:Exit->Act->aU->Prop),
   (∀d H2 rd wr v w' J' F',K d H2 rd wr->rep J' F' w' d v->cr J' F' w' (λi=>H2[i]?)->Ext J F w J' F' w'->(∀id,J' id≠none->id<H2.length)->K2 (a.put o.dst v) w')->o.wp P a w K2 Q
theorem Qg{d:D}{H2:List an}{rd wr:List Nat}(h:Tb P o env H d H2)(hK:K d H2 rd wr):vL P o env H K:=λJ F w a aA jm aR K2 Q EI =>
 h.2 J F w a aA jm aR K2 Q λv w' J' F' h1 h2 h3 h4=>EI d H2 rd wr v w' J' F' hK h1 h2 h3 h4
theorem ztG(h:Sound P o env H K):vL P o env H K:=let⟨_,_,_,_,h1,h2⟩:=h;Qg h1.seq h2
theorem vj:∀H:List an,vU H=H.map an.frozen
 |[]=>rfl
 |o::r=>by simp only[vU,dR,vj r]
theorem Tu{args:List D}{vals:Act->List aH}(iz:∀(a:Act) (w:aU),zm P f->(∀(J:aX) (F:Nat->Prop),(∀x∈o.op.operands,rep J F w (fh env x)<|a.eval x)->(execOp a.eval o).run P w=.ok (.enter f (vals a).toArray) w))
  (gM:∀(J:aX) (F:Nat->Prop) (w:aU) (a:Act),(∀x∈o.op.operands,rep J F w (fh env x)<|a.eval x)->bj J F w args (vals a)) (h:Kr P seq f args H K) :
  Sound P o env H K\/(seq=true/\vL P o env H K):=by
 rcases h with⟨d,⟨hf,hp⟩,hK⟩|⟨args',d,hd,⟨hf,hp⟩,hb,hK⟩|⟨hs,d,H2,⟨hf,hl,hp⟩,hK⟩|⟨d,H2,hu,huo,hA,hK⟩|⟨d,H2,L,hA,hK⟩|⟨hs,args',d,hd,⟨hf,hp⟩,hK⟩|⟨d,L,hA,hK⟩
 ·refine .inl ⟨d,H,[],[],⟨λ_ _=>rfl,aI _,(λ_ h=>by cases h),λJ F w a G aA aR _ _ K Q hK=>?_⟩,hK⟩;refine z6 (iz a w hf J F aR) (hp J F w _ aA.lt<|gM J F w a aR) λe w' hR=>?_;obtain⟨v,F',rfl,h1,h2,h3⟩:=hR;refine⟨v,rfl,hK v w' J F' (js (Ii J) (λ_ h=>h) (λ_ _=>rfl) _ _ h2) ?_ (Ext.PR aA h3) λ_ h _=>h⟩;rw[z8];exact aA.p' (λb hb=>h3.block b hb<|pI b) h3.size h3.grow (λb hb=>(h3.oa b hb).imp_right λq=>q.resolve_left<|pI b) h1
 ·refine .inl ⟨d,H,List.range H.length,[],⟨λ_ _=>rfl,aI _,(λ_ h=>by cases h),λJ F w a G aA aR cW _ K Q hK=>?_⟩,hK⟩;have hG:∀(id:Nat) (o:an),H[id]? = some o->G id=some o:=λid o h=>by
   rw[cW id (.inl ?_)]
   ·exact h
   rw[eW];rcases c7 id H.length with hl|hl
   ·exact hl
   rw[db hl] at h;cases h
  have bF:∀b,F b\/iU J b->b<w.heap.size:=λb hb=>hb.elim (aA.lt b) λ⟨i,s,hi,hs⟩=>aA.iH hi hs;refine z6 (iz a w hf J F aR) (hp J _ w _ (aA.lt.mono (λ_ h=>.inl h) (λ_ _=>rfl) bF)<|wT aA hG _ _ _ hd<|gM J F w a aR) λe w' hR=>?_;obtain⟨v,F',rfl,h1,h2,h3⟩:=hR;have jr:∀b,b<w.heap.size->w'.heap[b]? = w.heap[b]?:=λb hb=>h3.block b hb<|pI b;refine⟨v,rfl,hK v w' J F (zsU hb h2) ?_ ⟨h3.os,h3.tape,h3.output,h3.size,λb hb _=>jr b hb,λb hb=>jr b<|aA.lt b hb,aX.le_refl J,λ_ h=>h,λb hb=>.inl hb,λb hb=>.inl hb⟩ λ_ h _=>h⟩;rw[z8];exact aA.p' jr h3.size (λ_ h=>h) (λb hb=>.inl hb) λb hb=>vY (aA.lt b hb) h3.size
 ·refine .inr ⟨hs,Qg (d:=d) (H2:=H2) (rd:=[]) (wr:=[]) ⟨hl,λJ F w a aA jm aR K Q hK=>?_⟩ hK⟩;refine z6 (iz a w hf J F aR) (hp J F w _ aA jm<|gM J F w a aR) λe w' hR=>?_;obtain⟨v,J',F',rfl,h1,h2,h3,h4⟩:=hR;exact⟨v,rfl,hK v w' J' F' h3 h1 h4 h2⟩
 ·refine .inl ⟨d,H2,vZ H2.length,vZ H2.length,⟨λid hid=>?_,hA.len,λid hid=>(wV id _).1 hid,λJ F w a G aA aR cW Fs K Q hK=>?_⟩,hK⟩
  ·have h1:¬id<H2.length:=λh=>hid<|(wV id _).2 h;have:=hA.len;rw[db<|by omega,db<|by omega]
  have core:=Li (G:=G) (G':=upd G (vZ H2.length) H2) (λi=>i) hA (λi j _ _ h=>h) aA (λi o ho=>by
   rw[G5,cW i (.inl<|(wV i _).2<|vY (lO ho) hA.len)];exact ho) (λi h1 h2=>Fs i h1<|(wV i _).2 h2) (by rw[uQ];exact gM J F w a aR) (λi o ho=>by
   rw[G5];unfold upd;rw[ae<|(wV i _).2<|lO ho];exact ho) (λj hj=>by
   unfold upd;rw[aa λh=>hj j ((wV j _).1 h) rfl]) hu (AI huo)
  refine z6 (iz a w hA.ok J F aR) core λe w' hR=>?_;obtain⟨v,J',F',rfl,h1,h2,h3,h4⟩:=hR;rw[HH] at h3;refine⟨v,rfl,hK v w' J' F' h3 h1 h4 λid hid hw=>?_⟩
  cases e:J' id with
  |none=>rfl
  |some s =>
   rcases h2 id (by rw[e];simp) with q|⟨i,q1,q2⟩
   ·exact absurd hid q
   subst q2;exact absurd ((wV i _).2 q1) hw
 ·refine .inl ⟨d,H2,L,L,⟨λid hid=>hA.frame id hid,hA.len,λid hid=>hA.lt id hid,λJ F w a G aA aR cW Fs K Q hK=>?_⟩,hK⟩;refine z6 (iz a w hA.ok J F aR) (hA.run J F w _ G aA (λid hid=>cW id (.inl hid)) (λid hid h=>Fs id h hid)<|gM J F w a aR) λe w' hR=>?_;obtain⟨v,J',F',rfl,h1,h2,h3,h4⟩:=hR;refine⟨v,rfl,hK v w' J' F' h3 h1 h4 λid hid hw=>?_⟩
  cases e:J' id with
  |none=>rfl
  |some s =>
   rcases h2 id (by rw[e];simp) with q|q
   ·exact absurd hid q
   exact absurd q hw
 ·refine .inr ⟨hs,λJ F w a aA jm aR K2 Q EI=>?_⟩;have bF:∀b,F b\/iU J b->b<w.heap.size:=λb hb=>hb.elim (aA.lt b) λ⟨i,s,hi,hs⟩=>aA.iH hi hs;refine z6 (iz a w hf J F aR) (hp J (λb=>F b\/iU J b) w _ (aA.lt.mono (λ_ h=>.inl h) (λ_ _=>rfl) bF)<|wT aA (λ_ _ h=>h) _ _ _ hd<|gM J F w a aR) λe w' hR=>?_;obtain⟨v,F',rfl,h1,h2,h3⟩:=hR;have jr:∀b,b<w.heap.size->w'.heap[b]? = w.heap[b]?:=λb hb=>h3.block b hb<|pI b;refine⟨v,rfl,EI d _ [] [] v w' J F' hK (js (Ii J) (λ_ h=>h) (λ_ _=>rfl) _ _ h2) ⟨λi s hs=>?_,aA.one,λi s b o g1 g2 g3 g4=>?_,aA.lt.mono (λb hb=>h3.grow b (.inl hb)) (λb hb=>jr b<|aA.lt b hb) h1⟩ ?_ λid hid=>?_⟩
  ·obtain⟨o,q1,q2⟩:=aA.obj i s hs;refine⟨o.frozen,?_,?_⟩
   ·rw[vj,cy,q1];rfl
   have q3:=qO (J':=J) (F':=F') (w':=w') (aX.le_refl J) (λb hb=>h3.grow b (.inl hb)) (λb hb=>jr b<|aA.lt b hb) (λb hb=>jr b<|aA.iH hs hb) q2
   cases o with
   |row m cs =>
    obtain⟨k1,k2,k3,k4,k5,b,vals,te,t1,t2,t3,t4,t5⟩:=q3;exact⟨k1,k2,k3,k4,k5,b,vals,te,t1,t2,t3,t4,λ_=>h3.grow b (.inr ⟨i,s,hs,by simp[Site.cP,k1,t1]⟩)⟩
   |vec m v e xs =>
    obtain⟨k1,k2,k3,k4,k5,k6⟩:=q3;refine⟨k1,k2,k3,k4,k5,?_⟩;by_cases hz:s.cap=0
    ·exact .inl hz
    rcases k6 with k6|⟨b,o,vals,te,t1,t2,t3,t4,t5⟩
    ·exact .inl k6
    exact .inr ⟨b,o,vals,te,t1,t2,t3,t4,λ_=>h3.grow b (.inr ⟨i,s,hs,by simp[Site.cP,k1,hz,t1]⟩)⟩
   |dI m I=>exact q3
  ·exfalso;rw[vj,cy] at g3
   cases e:H[i]? with
   |none=>rw[e] at g3;cases g3
   |some x =>
    rw[e] at g3;cases x<;>cases g3<;>cases g4
  ·exact⟨h3.os,h3.tape,h3.output,h3.size,λb hb _=>jr b hb,λb hb=>jr b<|aA.lt b hb,aX.le_refl J,λb hb=>h3.grow b (.inl hb),λb hb=>.inl hb,λb hb=>by
    rcases h3.oa b hb with q|q|q
    ·rcases q with q|q
     ·exact .inl q
     exact .inr (.inl q)
    ·exact absurd q<|pI b
    exact .inr (.inr q)⟩
  have:=jm id hid;rw[vj,aS];exact this
 refine .inl ⟨d,H,L,[],⟨λ_ _=>rfl,aI _,(λ_ h=>by cases h),λJ F w a G aA aR cW _ K Q hK=>?_⟩,hK⟩;refine z6 (iz a w hA.ok J F aR) (hA.run J F w _ G aA (λid hid=>cW id (.inl hid))<|gM J F w a aR) λe w' hR=>?_;obtain⟨v,J',F',rfl,h1,h2,h3,h4⟩:=hR;refine⟨v,rfl,hK v w' J' F' h3 (by rw[z8];exact h1) h4 λid hid _=>?_⟩
 cases e:J' id with
 |none=>rfl
 |some s=>exact absurd hid<|h2 id<|by rw[e];simp
theorem Lr{J:aX}{F:Nat->Prop}{w:aU}{a:Act}:∀(xs:List aT),(∀x∈xs,rep J F w (fh env x)<|a.eval x)->bj J F w (xs.map<|fh env) (xs.map a.eval)
 |[],_=>by simp only[gP,bj]
 |x::r,h=>by
  simp only[dR,bj];exact⟨_,_,rfl,h x<|by simp,Lr r λy hy=>h y<|by simp[hy]⟩
theorem Rf{args:Array aH}(h:zm P f):(callFunc f args).run P w=.ok (.enter f args) w:=by
 obtain⟨fn,h1,h2,h3⟩:=h;simp only[beq_eq_false_iff_ne,ne_eq] at h2;simp[callFunc,program,Sem.run,h1,h2,pure];intro hb;simp[hb] at h3
variable{args:Array aT}{ts:Array aY}
theorem YA(ho:o.op=.call { callee:=.value (.func f),args,argTypes:=ts })(h:step P seq (.call f args.toList) env H K) :
  Sound P o env H K\/(seq=true/\vL P o env H K):=by
 simp only[step,IV] at h;refine Tu (vals:=λa=>args.toList.map a.eval) (λa w hf J F aR=>?_) (λJ F w a aR=>Lr _ λx hx=>aR x ?_) h
 ·have e1:args.map a.eval=(args.toList.map a.eval).toArray:=(by apply Array.ext';simp);simp[execOp,ho,resolve,Deferred.ofValue,Act.eval,invoke,Rf hf,Sem.run,pure,e1]
 simp[ho,Op.operands,Call.operands];exact .inr<|by simpa using hx
variable{x:aT}
theorem zzu(ho:o.op=.call { callee:=.value x,args,argTypes:=ts })(h:step P seq (.iB x args.toList) env H K) :
  Sound P o env H K\/(seq=true/\vL P o env H K):=by
 simp only[step,fz,IV] at h;split at h
 ·rename_i f first cap e
  have Av:∀(J:aX) (F:Nat->Prop) (w:aU) (a:Act),(∀x∈o.op.operands,rep J F w (fh env x)<|a.eval x)->∃vs us,a.eval x=.func (.func f) vs.toArray us.toArray/\bj J F w first vs/\bj J F w cap us:=λJ F w a aR=>by
   have:=aR x (by simp[ho,Op.operands,Call.operands]);rw[e] at this;simpa only[rep] using this
  refine Tu (vals:=λa=>match a.eval x with
   | .func _ vs us=>vs.toList++args.toList.map a.eval++us.toList
   |_=>[]) (λa w hf J F aR=>?_) (λJ F w a aR=>?_) h
  ·obtain⟨vs,us,e1,_,_⟩:=Av J F w a aR;simp only[e1];simp only[execOp,ho,resolve,e1,Deferred.ofValue,pure,Sem.run_bind,Sem.run,Result.andThen_ok,invoke,Rf hf]
   congr 2
   apply Array.ext';simp
  obtain⟨vs,us,e1,e2,e3⟩:=Av J F w a aR;simp only[e1];refine En (En (by simpa using e2)<|Lr _ λy hy=>aR y ?_) (by simpa using e3);simp[ho,Op.operands,Call.operands];exact .inr<|by simpa using hy
 exact h.elim
theorem ZN{t u e e':aY}{y:aT}{z:aH}(ha:args.toList=[x,y])(jy:ts.toList=[t,u])(ht:P.underlying t=some (.slice e))(hu:P.underlying u=some (.slice e'))(hz:(P.info? e).bind (·.zero)=some z)(pc:z.cells.size=P.cellsOf e)(lj:0<P.cellsOf e)(AJ:0<P.bytesOf e)
  (ho:o.op=.call { callee:=.builtin .append,args,argTypes:=ts }) (h:step P seq (.append (P.cellsOf e) (P.bytesOf e) x y) env H K):Sound P o env H K:=by
 have ea:args=#[x,y]:=Array.ext' (by simpa using ha);have et:ts=#[t,u]:=Array.ext' (by simpa using jy);subst ea et;simp only[step,fz] at h;obtain⟨ys,rd,h,hy⟩:=V8 h;split at h
 ·rename_i e1;obtain⟨h1,h2⟩:=h;rw[wx] at h2;exact zkM ht hu hz pc lj AJ rfl ho e1 hy h1 h2
 ·rename_i id aw lo hi e1;obtain⟨ob,h1,h2⟩:=(kr _ _ _).1 h;split at h2
  ·rename_i bY kE zs;obtain⟨hv,h2⟩:=h2;subst hv;obtain⟨he,h3,h4⟩:=(po _ _ _).1 h2;subst he;obtain⟨_,h5⟩:=(uP _ _ _ _).1 h4;exact zkK ht hu hz pc lj AJ rfl ho e1 h1 hy h3 h5
  exact h2.elim
 exact h.elim
end
end
end Go.Proofs.YtaalipopcddnjaaGreatDoor
