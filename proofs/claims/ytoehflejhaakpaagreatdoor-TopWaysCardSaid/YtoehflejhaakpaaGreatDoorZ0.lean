/-
  Parts of a proof, joined. No statement is proved here.
-/
import Derived.WalkKit
import Derived.Below
import Derived.Lib.Hide
import Derived.Laws.MakeOwn
import Derived.Laws.Append
import Derived.Deep.AppendSrc
import Derived.Maps.Keyed
import Derived.Laws.BytesString
import Derived.Carry
namespace Go.Proofs.YtoehflejhaakpaaGreatDoor
set_option linter.unusedSimpArgs false
set_option linter.unusedVariables false
set_option maxRecDepth 100000
section
section
open Go.RowKit
theorem oo:(∀{α:Type} [BEq α] [LawfulBEq α] {a b:α},(a != b)=true↔a≠b)∧(∀{α:Type} (a b:α),(a≠b)=¬a=b)∧(∀{α:Type} [BEq α] [LawfulBEq α] {a b:α},(a != b)=false↔a=b) ∧
  (∀{α:Type} [BEq α] [LawfulBEq α] {a b:α},(a==b)=true↔a=b)∧(∀{α:Type} [BEq α] [LawfulBEq α] {a b:α},(a==b)=false↔a≠b)∧(∀{p:Prop} [Decidable p],(decide p=true)=p)∧(∀{p:Prop} [Decidable p],decide p=false↔¬p) ∧
  (∀{α β:Type} {as:List α} (f:α→β),(List.map f as).length=as.length)∧(∀b:Bool,(¬b=true)=(b=false))∧(∀b:Bool,(¬b=false)=(b=true))∧(∀a b:Bool,((a&&b)=true)=(a=true∧b=true))∧(∀a b:Bool,((a||b)=true)=(a=true∨b=true)) ∧
  (∀{x y:Bool},(x&&y)=false↔x=false∨y=false)∧(∀{x y:Bool},(x||y)=false↔x=false∧y=false)∧(∀b:Bool,((!b)=true)=(b=false))∧(∀b:Bool,((!b)=false)=(b=true))∧(!true)=false∧(!false)=true ∧
  (∀{a b:Bool},(!a)=b↔a=!b)∧(¬True)=False∧(¬False)=True∧(∀b:Bool,(true||b)=true)∧(∀b:Bool,(false||b)=b)∧(∀b:Bool,(b||true)=true)∧(∀b:Bool,(b||false)=b)∧(∀b:Bool,(true&&b)=b)∧(∀b:Bool,(b&&true)=b) ∧
  (∀b:Bool,(false&&b)=false)∧(∀b:Bool,(b&&false)=false)∧(∀p:Prop,(True∧p)=p)∧(∀p:Prop,(p∧True)=p)∧(∀p:Prop,(p∨False)=p)∧(∀p:Prop,(False∨p)=p)∧(∀p:Prop,(True∨p)=True)∧(∀p:Prop,(p∨True)=True) ∧
  (∀p:Prop,(False∧p)=False)∧(∀p:Prop,(p∧False)=False)∧(true=false)=False∧(false=true)=False :=
 ⟨bne_iff_ne,ne_eq,bne_eq_false_iff_eq,beq_iff_eq,beq_eq_false_iff_ne,decide_eq_true_eq,decide_eq_false_iff_not,List.length_map,Bool.not_eq_true,Bool.not_eq_false,Bool.and_eq_true,Bool.or_eq_true,Bool.and_eq_false_iff,Bool.or_eq_false_iff,Bool.not_eq_true',Bool.not_eq_false',Bool.not_true,Bool.not_false,
  Bool.not_eq_eq_eq_not,not_true_eq_false,not_false_eq_true,Bool.true_or,Bool.false_or,Bool.or_true,Bool.or_false,Bool.true_and,Bool.and_true,Bool.false_and,Bool.and_false,true_and,and_true,or_false,false_or,true_or,or_true,false_and,and_false,Bool.true_eq_false,Bool.false_eq_true⟩
theorem ll:(∀{α β:Type} {as:List α} (f:α→β),(List.map f as).length=as.length)∧(∀{α:Type} {a:α} {as:List α},(a::as).length=as.length+1)∧(∀{α:Type},([]:List α).length=0)∧(∀{α:Type} {as bs:List α},(as++bs).length=as.length+bs.length) ∧
  (∀{α:Type} {i:Nat} {l:List α},(l.take i).length=min i l.length)∧(∀{α:Type} {i:Nat} {l:List α},(l.drop i).length=l.length-i)∧(∀{α:Type} {l:List α},l.drop 0=l)∧(∀{α:Type} {a:α} {as:List α} {i:Nat},(a::as).take (i+1)=a::as.take i)∧(∀{α:Type} {l:List α},l.take 0=[]) :=
 ⟨List.length_map,List.length_cons,List.length_nil,List.length_append,List.length_take,List.length_drop,List.drop_zero,List.take_succ_cons,List.take_zero⟩
inductive D where
 | xO
 | sc (v:Value)
 | loc (id off:Nat)
 | elt (id zY i off:Nat)
 | y7 (cs:List D)
 | xj (zH:Nat) (xs:List (List D))
 | own (id zY lo hi:Nat)
 | fn (f:Fn) (first cap:List D)
 | ifc (t:TypeId) (d:D)
 | agg (cs:List D)
 | yO (cs:List D)
 | mp (id:Nat)
 | gv (g:Nat)
 deriving Inhabited
inductive zf where
 | row (m:Bool) (cs:List D)
 | vec (m:Bool) (zY zH:Nat) (xs:List (List D))
 | wc (m:Bool) (I:Array MapEntry→Prop)
 deriving Inhabited
structure Site where
 row:Bool
 zY:Nat
 ad:Option Addr
 zH:Nat
 cap:Nat
 len:Nat
def Site.u6 (s:Site):Option Nat:=if s.row=false∧s.cap=0 then none else s.ad.map (·.block)
abbrev yX:=Nat→Option Site
def yx:Value→Bool
 | .agg _|.tuple _=>false
 | _=>true
section
variable (J:yX) (F:Nat→Prop) (w:World)
mutual
def rep:D→Value→Prop
 | .xO,_=>True
 | .sc u,v=>v=u
 | .loc id off,v=>∃s b,J id=some s∧s.row=true∧s.ad=some ⟨b,0,none⟩∧v=.pointer (some ⟨b,off,none⟩)
 | .elt id zY i off,v=>∃s a,J id=some s∧v=.pointer (some a)∧zY≤s.zY∧(zY=s.zY→∃b o,s.row=false∧s.ad=some ⟨b,o,none⟩∧i<s.len∧a=⟨b,o+i*s.zH+off,none⟩)
 | .y7 cs,v=>∃b o,v=.pointer (some ⟨b,o,none⟩)∧F b∧zS b cs o
 | .xj zH xs,v=>∃A n c,v=.slice A n c∧n=xs.length∧n≤c∧(n=0∨∃b o,A=some ⟨b,o,none⟩∧F b∧yk b zH xs o)
 | .own id zY lo hi,v=>∃s A n c,J id=some s∧v=.slice A n c∧zY≤s.zY∧(zY=s.zY→s.row=false∧lo≤hi∧hi≤s.len∧n=hi-lo∧c=s.cap-lo∧(s.cap=lo∨∃b o,s.ad=some ⟨b,o,none⟩∧A=some ⟨b,o+lo*s.zH,none⟩))
 | .fn f first cap,v=>∃vs us,v=.func f vs.toArray us.toArray∧yf first vs∧yf cap us
 | .ifc t d,v=>∃u,v=.iface t u∧rep d u
 | .agg cs,v=>∃vs,v=.agg vs.toArray∧yf cs vs
 | .yO cs,v=>∃vs,v=.tuple vs.toArray∧yf cs vs
 | .mp id,v=>∃s b,J id=some s∧s.row=true∧s.ad=some ⟨b,0,none⟩∧v=.map (some b)
 | .gv g,v=>F g∧w.cell? ⟨g,0,none⟩=some v∧yx v=true
def yf:List D→List Value→Prop
 | [],vs=>vs=[]
 | d::ds,vs=>∃v us,vs=v::us∧rep d v∧yf ds us
def zS (b:Nat):List D→Nat→Prop
 | [],_=>True
 | c::r,o=>(∃u,w.cell? ⟨b,o,none⟩=some u∧yx u=true∧rep c u)∧zS b r (o+1)
def yk (b zH:Nat):List (List D)→Nat→Prop
 | [],_=>True
 | x::r,o=>x.length=zH∧zS b x o∧yk b zH r (o+zH)
end
end
def yX.le (J J':yX):Prop:=∀id s,J id=some s→∃s',J' id=some s'∧s.zY≤s'.zY∧(s.zY=s'.zY∨s.row=true→s'=s)
theorem yX.le_refl (J:yX):J.le J:=λ_ s h=>⟨s,h,Nat.le_refl _,λ_=>rfl⟩
theorem yX.le_trans {J J' J'':yX} (h:J.le J') (k:J'.le J''):J.le J'':=λid s e=>by
 obtain⟨s1,e1,l1,q1⟩:=h id s e
 obtain⟨s2,e2,l2,q2⟩:=k id s1 e1
 refine⟨s2,e2,Nat.le_trans l1 l2,λq=>?_⟩
 rcases q with q|q
 ·rw[q2 (.inl (by omega)),q1 (.inl (by omega))]
 ·have h1:=q1 (.inr q)
  subst h1
  exact q2 (.inr q)
theorem v8 {w w':World} {b:Nat} (h:w'.heap[b]? = w.heap[b]?) (o:Nat):w'.cell? ⟨b,o,none⟩=w.cell? ⟨b,o,none⟩:=by
 simp only[World.cell?,h]
section
variable {J J':yX} {F F':Nat→Prop} {w w':World}
mutual
theorem yT (hJ:J.le J') (hF:∀b,F b→F' b) (hw:∀b,F b→w'.heap[b]? = w.heap[b]?):∀(d:D) (v:Value),rep J F w d v→rep J' F' w' d v
 | .xO,v,_=>by simp only[rep]
 | .sc u,v,h=>by simpa only[rep] using h
 | .loc id off,v,h=>by
  simp only[rep] at h ⊢
  obtain⟨s,b,h1,h2,h3,h4⟩:=h
  obtain⟨s',e,_,q⟩:=hJ id s h1
  rw[q (.inr h2)] at e
  exact⟨s,b,e,h2,h3,h4⟩
 | .elt id zY i off,v,h=>by
  simp only[rep] at h ⊢
  obtain⟨s,a,h1,h4,h2,h3⟩:=h
  obtain⟨s',e,l,q⟩:=hJ id s h1
  refine⟨s',a,e,h4,by omega,λq'=>?_⟩
  rw[q (.inl (by omega))]
  exact h3 (by omega)
 | .y7 cs,v,h=>by
  simp only[rep] at h ⊢
  obtain⟨b,o,h1,h2,h3⟩:=h
  exact⟨b,o,h1,hF b h2,qE hJ hF hw b (v8 (hw b h2)) cs o h3⟩
 | .xj zH xs,v,h=>by
  simp only[rep] at h ⊢
  obtain⟨A,n,c,h1,h2,hc,h3⟩:=h
  refine⟨A,n,c,h1,h2,hc,h3.imp id λ⟨b,o,h4,h5,h6⟩=>⟨b,o,h4,hF b h5,Y9 hJ hF hw b zH (v8 (hw b h5)) xs o h6⟩⟩
 | .own id zY lo hi,v,h=>by
  simp only[rep] at h ⊢
  obtain⟨s,A,n,c,h1,h4,h2,h3⟩:=h
  obtain⟨s',e,l,q⟩:=hJ id s h1
  refine⟨s',A,n,c,e,h4,by omega,λq'=>?_⟩
  rw[q (.inl (by omega))]
  exact h3 (by omega)
 | .fn f first cap,v,h=>by
  simp only[rep] at h ⊢
  obtain⟨vs,us,h1,h2,h3⟩:=h
  exact⟨vs,us,h1,Ya hJ hF hw first vs h2,Ya hJ hF hw cap us h3⟩
 | .ifc t d,v,h=>by
  simp only[rep] at h ⊢
  obtain⟨u,h1,h2⟩:=h
  exact⟨u,h1,yT hJ hF hw d u h2⟩
 | .agg cs,v,h=>by
  simp only[rep] at h ⊢
  obtain⟨vs,h1,h2⟩:=h
  exact⟨vs,h1,Ya hJ hF hw cs vs h2⟩
 | .yO cs,v,h=>by
  simp only[rep] at h ⊢
  obtain⟨vs,h1,h2⟩:=h
  exact⟨vs,h1,Ya hJ hF hw cs vs h2⟩
 | .gv g,v,h=>by
  simp only[rep] at h ⊢
  exact⟨hF g h.1,(v8 (hw g h.1) 0).trans h.2.1,h.2.2⟩
 | .mp id,v,h=>by
  simp only[rep] at h ⊢
  obtain⟨s,b,h1,h2,h3,h4⟩:=h
  obtain⟨s',e,_,q⟩:=hJ id s h1
  rw[q (.inr h2)] at e
  exact⟨s,b,e,h2,h3,h4⟩
theorem Ya (hJ:J.le J') (hF:∀b,F b→F' b) (hw:∀b,F b→w'.heap[b]? = w.heap[b]?):∀(ds:List D) (vs:List Value),yf J F w ds vs→yf J' F' w' ds vs
 | [],vs,h=>by simpa only[yf] using h
 | d::ds,vs,h=>by
  simp only[yf] at h ⊢
  obtain⟨v,us,h1,h2,h3⟩:=h
  exact⟨v,us,h1,yT hJ hF hw d v h2,Ya hJ hF hw ds us h3⟩
theorem qE (hJ:J.le J') (hF:∀b,F b→F' b) (hw:∀b,F b→w'.heap[b]? = w.heap[b]?) (b:Nat) (hb:∀o,w'.cell? ⟨b,o,none⟩=w.cell? ⟨b,o,none⟩):∀(ds:List D) (o:Nat),zS J F w b ds o→zS J' F' w' b ds o
 | [],o,h=>by simp only[zS]
 | c::r,o,h=>by
  simp only[zS] at h ⊢
  obtain⟨⟨u,h1,h0,h2⟩,h3⟩:=h
  exact⟨⟨u,by rw[hb];exact h1,h0,yT hJ hF hw c u h2⟩,qE hJ hF hw b hb r (o+1) h3⟩
theorem Y9 (hJ:J.le J') (hF:∀b,F b→F' b) (hw:∀b,F b→w'.heap[b]? = w.heap[b]?) (b zH:Nat) (hb:∀o,w'.cell? ⟨b,o,none⟩=w.cell? ⟨b,o,none⟩):∀(xs:List (List D)) (o:Nat),yk J F w b zH xs o→yk J' F' w' b zH xs o
 | [],o,h=>by simp only[yk]
 | x::r,o,h=>by
  simp only[yk] at h ⊢
  obtain⟨h1,h2,h3⟩:=h
  exact⟨h1,qE hJ hF hw b hb x o h2,Y9 hJ hF hw b zH hb r (o+zH) h3⟩
end
theorem xC {b:Nat}:∀(cs:List D) (o j:Nat) (c:D),cs[j]? = some c→zS J F w b cs o→∃u,w.cell? ⟨b,o+j,none⟩=some u∧yx u=true∧rep J F w c u
 | [],_,_,_,h,_=>by simp at h
 | c::r,o,0,_,h,k=>by
  simp only[zS] at k
  simp at h;subst h
  exact k.1
 | c::r,o,j+1,d,h,k=>by
  simp only[zS] at k
  have:=xC r (o+1) j d (by simpa using h) k.2
  rwa [show o+1+j=o+(j+1) by omega] at this
theorem wM {b zH:Nat}:∀(xs:List (List D)) (o j:Nat) (x:List D),xs[j]? = some x→yk J F w b zH xs o→x.length=zH∧zS J F w b x (o+j*zH)
 | [],_,_,_,h,_=>by simp at h
 | x::r,o,0,_,h,k=>by
  simp only[yk] at k
  simp at h;subst h
  exact⟨k.1,by simpa using k.2.1⟩
 | x::r,o,j+1,d,h,k=>by
  simp only[yk] at k
  have:=wM r (o+zH) j d (by simpa using h) k.2.2
  rwa [show o+zH+j*zH=o+(j+1)*zH by rw[Nat.add_mul];omega] at this
theorem xw {b:Nat}:∀(cs:List D) (o:Nat),(∀(j:Nat) (c:D),cs[j]? = some c→∃u,w.cell? ⟨b,o+j,none⟩=some u∧yx u=true∧rep J F w c u)→zS J F w b cs o
 | [],_,_=>by simp only[zS]
 | c::r,o,h=>by
  simp only[zS]
  refine⟨by simpa using h 0 c rfl,xw r (o+1) λj d hd=>?_⟩
  have:=h (j+1) d (by simpa using hd)
  rwa [show o+(j+1)=o+1+j by omega] at this
theorem vr {b zH:Nat}:∀(xs:List (List D)) (o:Nat),(∀(j:Nat) (x:List D),xs[j]? = some x→x.length=zH∧zS J F w b x (o+j*zH))→yk J F w b zH xs o
 | [],_,_=>by simp only[yk]
 | x::r,o,h=>by
  simp only[yk]
  refine⟨(h 0 x rfl).1,by simpa using (h 0 x rfl).2,vr r (o+zH) λj d hd=>?_⟩
  have:=h (j+1) d (by simpa using hd)
  rwa [show o+(j+1)*zH=o+zH+j*zH by rw[Nat.add_mul];omega] at this
theorem xx:∀(ds:List D) (vs:List Value),yf J F w ds vs→vs.length=ds.length
 | [],vs,h=>by simp only[yf] at h;simp[h]
 | d::ds,vs,h=>by
  simp only[yf] at h
  obtain⟨v,us,rfl,_,h3⟩:=h
  simp[xx ds us h3]
theorem vI:∀(ds:List D) (vs:List Value) (j:Nat) (d:D),ds[j]? = some d→yf J F w ds vs→∃v,vs[j]? = some v∧rep J F w d v
 | [],_,_,_,h,_=>by simp at h
 | d::ds,vs,0,_,h,k=>by
  simp only[yf] at k
  obtain⟨v,us,rfl,h2,_⟩:=k
  simp at h;subst h
  exact⟨v,rfl,h2⟩
 | d::ds,vs,j+1,e,h,k=>by
  simp only[yf] at k
  obtain⟨v,us,rfl,_,h3⟩:=k
  simpa using vI ds us j e (by simpa using h) h3
theorem zaF:∀(ds:List D) (vs:List Value),vs.length=ds.length→(∀(j:Nat) (d:D) (v:Value),ds[j]? = some d→vs[j]? = some v→rep J F w d v)→yf J F w ds vs
 | [],vs,h,_=>by simp only[yf];exact List.length_eq_zero_iff.1 h
 | d::ds,[],h,_=>by simp at h
 | d::ds,v::vs,h,k=>by
  simp only[yf]
  exact⟨v,vs,rfl,k 0 d v rfl rfl,zaF ds vs (by simpa using h) λj e u he hu=>k (j+1) e u (by simpa using he) (by simpa using hu)⟩
theorem Yo {a b:List D}:∀{va vb:List Value},yf J F w a va→yf J F w b vb→yf J F w (a++b) (va++vb):=by
 induction a with
 | nil=>intro va vb h k;simp only[yf] at h;subst h;simpa using k
 | cons d ds ih =>
  intro va vb h k
  simp only[yf] at h
  obtain⟨v,us,rfl,h2,h3⟩:=h
  simp only[List.cons_append,yf]
  exact⟨v,us++vb,rfl,h2,ih h3 k⟩
end
def zf.mut:zf→Bool|.row m _=>m|.vec m _ _ _=>m|.wc m _=>m
def XW:List (Nat × List D):=[]
def ziO:List (Nat × Nat × ByteArray):=[]
structure FOK (F:Nat→Prop) (w:World):Prop where
 lt:∀b,F b→b<w.heap.size
 gl:∀g cs,(g,cs)∈XW→F g∧zS (λ_=>none) F w g cs 0
 se:∀g t s,(g,t,s)∈ziO→F g∧∃b o vals te,w.cell? ⟨g,0,none⟩=some (.iface t (.pointer (some ⟨b,o,none⟩)))∧F b∧w.heap[b]? = some (.cells vals te (0,0))∧w.cell? ⟨b,o,none⟩=some (.string s)
instance {F:Nat→Prop} {w:World}:CoeFun (FOK F w) λ_=>∀b,F b→b<w.heap.size:=⟨FOK.lt⟩
theorem FOK.mono {F F':Nat→Prop} {w w':World} (h:FOK F w) (hF:∀b,F b→F' b) (hw:∀b,F b→w'.heap[b]? = w.heap[b]?) (hlt:∀b,F' b→b<w'.heap.size):FOK F' w' where
 lt:=hlt
 se g t s hg:=by
  obtain⟨h1,b,o,vals,te,h2,h3,h4,h5⟩:=h.se g t s hg
  exact⟨hF g h1,b,o,vals,te,(v8 (hw g h1) 0).trans h2,hF b h3,(hw b h3).trans h4,(v8 (hw b h3) o).trans h5⟩
 gl g cs hg:=by
  obtain⟨h1,h2⟩:=h.gl g cs hg
  have k:=yT (J:=λ_=>none) (J':=λ_=>none) (yX.le_refl _) hF hw (.y7 cs) (.pointer (some ⟨g,0,none⟩)) (by simp only[rep];exact⟨g,0,rfl,h1,h2⟩)
  simp only[rep] at k
  obtain⟨b,o,e,k1,k2⟩:=k
  cases e
  exact⟨k1,k2⟩
theorem FOK.rep {F:Nat→Prop} {w:World} (h:FOK F w) (J:yX) {g:Nat} {cs:List D} (hg:(g,cs)∈XW):rep J F w (.y7 cs) (.pointer (some ⟨g,0,none⟩)):=by
 obtain⟨h1,h2⟩:=h.gl g cs hg
 exact yT (J:=λ_=>none) (J':=J) (λ_ _ q=>by cases q) (λ_ q=>q) (λ_ _=>rfl) (.y7 cs) (.pointer (some ⟨g,0,none⟩)) (by simp only[_root_.Go.Proofs.YtoehflejhaakpaaGreatDoor.rep];exact⟨g,0,rfl,h1,h2⟩)
section
variable (J:yX) (F:Nat→Prop) (w:World)
def YD (s:Site):zf→Prop
 | .row m cs=>s.row=true∧s.zY=0∧s.zH=1∧s.len=cs.length∧s.cap=cs.length∧∃b vals te,s.ad=some ⟨b,0,none⟩∧w.heap[b]? = some (.cells vals te (0,0))∧vals.size=cs.length∧zS J F w b cs 0∧(m=false→F b)
 | .vec m zY zH xs=>s.row=false∧s.zY=zY∧s.zH=zH∧s.len=xs.length∧s.len≤s.cap∧(s.cap=0∨∃b o vals te,s.ad=some ⟨b,o,none⟩∧w.heap[b]? = some (.cells vals te (0,0))∧o+s.cap*zH≤vals.size∧yk J F w b zH xs o∧(m=false→F b))
 | .wc _ I=>s.row=true∧∃b es clock,s.ad=some ⟨b,0,none⟩∧w.heap[b]? = some (.map es clock)∧I es
structure yZ (H:Nat→Option zf):Prop where
 obj:∀id s,J id=some s→∃o,H id=some o∧YD J F w s o
 one:∀id id' s s' b,J id=some s→J id'=some s'→s.u6=some b→s'.u6=some b→id=id'
 apart:∀id s b o,J id=some s→s.u6=some b→H id=some o→o.mut=true→¬F b
 lt:FOK F w
def Zs (b:Nat):Prop:=∃id s,J id=some s∧s.u6=some b
end
structure Ext (J:yX) (F:Nat→Prop) (w:World) (J':yX) (F':Nat→Prop) (w':World):Prop where
 os:w'.os=w.os
 tape:w'.tape=w.tape
 output:w'.output=w.output
 size:w.heap.size≤w'.heap.size
 block:∀b,b<w.heap.size→¬Zs J b→w'.heap[b]? = w.heap[b]?
 frozen:∀b,F b→w'.heap[b]? = w.heap[b]?
 le:J.le J'
 grow:∀b,F b→F' b
 x7:∀b,Zs J' b→Zs J b∨w.heap.size≤b
 wu:∀b,F' b→F b∨Zs J b∨w.heap.size≤b
theorem Ext.refl (J:yX) (F:Nat→Prop) (w:World):Ext J F w J F w:=⟨rfl,rfl,rfl,Nat.le_refl _,λ_ _ _=>rfl,λ_ _=>rfl,yX.le_refl J,λ_ h=>h,λ_ h=>.inl h,λ_ h=>.inl h⟩
theorem Ext.trans {J J' J'':yX} {F F' F'':Nat→Prop} {w w' w'':World} (h:Ext J F w J' F' w') (k:Ext J' F' w' J'' F'' w''):Ext J F w J'' F'' w'' where
 os:=k.os.trans h.os
 tape:=k.tape.trans h.tape
 output:=k.output.trans h.output
 size:=Nat.le_trans h.size k.size
 block b hb ho:=by
  have h1:¬Zs J' b:=λh'=>(h.x7 b h').elim ho (λh''=>by omega)
  rw[k.block b (by have:=h.size;omega) h1,h.block b hb ho]
 frozen b hb:=(k.frozen b (h.grow b hb)).trans (h.frozen b hb)
 le:=yX.le_trans h.le k.le
 grow b hb:=k.grow b (h.grow b hb)
 x7 b hb:=(k.x7 b hb).elim (h.x7 b) λh'=>.inr (Nat.le_trans h.size h')
 wu b hb:=by
  rcases k.wu b hb with h1|h1|h1
  ·exact h.wu b h1
  ·exact(h.x7 b h1).elim (λh2=>.inr (.inl h2)) (λh2=>.inr (.inr h2))
  ·exact .inr (.inr (Nat.le_trans h.size h1))
theorem zcQ {J J':yX} {F F':Nat→Prop} {w w':World} (h:Ext J F w J' F' w') {d:D} {v:Value} (k:rep J F w d v):rep J' F' w' d v:=yT h.le h.grow h.frozen d v k
end
section
open Go.RowKit
inductive POp where
 | move (x:Operand)
 | pick (c a b:Operand)
 | alloc (z:List Value)
 | box (x:Operand)
 | build (z:List Value) (parts:List (Nat × Nat × Operand))
 | xe (zH n:Nat) (parts:List Operand)
 | zg (a:Operand)
 | vw (n:Nat) (a:Operand)
 | store (n:Nat) (a v:Operand)
 | zn (x:Operand)
 | bin (op:BinOp) (x y:Operand)
 | eqb (neq:Bool) (x y:Operand)
 | eqa (neq:Bool) (ks:List Nat) (x y:Operand)
 | ziJ (kind:Nat) (neq:Bool) (x:Operand)
 | un (op:UnOp) (x:Operand)
 | ext (i:Nat) (x:Operand)
 | zz (off:Nat) (x:Operand)
 | field (off n:Nat) (agg:Bool) (x:Operand)
 | zM (zH:Nat) (x i:Operand)
 | zmo (len zH:Nat) (x i:Operand)
 | zqr (x i:Operand)
 | zoy (len zH:Nat) (agg:Bool) (x i:Operand)
 | qj (f:Fn) (first cap:List Operand)
 | wE (zH bytes:Nat) (z:List Value) (l c:Operand)
 | slc (zH:Nat) (x:Operand) (lo hi mx:Option Operand)
 | zlH (x:Operand) (lo hi:Option Operand)
 | len (x:Operand)
 | zhM (x:Operand)
 | append (zH bytes:Nat) (x y:Operand)
 | clr (u:Value) (x:Operand)
 | mx (big:Bool) (x y:Operand)
 | call (f:FuncId) (args:List Operand)
 | vu (x:Operand) (args:List Operand)
 | zy9 (t:TypeId) (x:Operand)
 | conv (k:IntKind) (x:Operand)
 | zyE (x:Operand)
 | zf2 (kt:TypeId)
 | look (kt:TypeId) (z:Value) (m x:Operand)
 | znd (kt:TypeId) (m x:Operand)
 | zlJ (kt:TypeId) (m x v:Operand)
structure yy where
 dst:Option Tmp
 op:POp
 guard:Option (Tmp × Bool)
 mask:Nat
def qm (d s:Nat):yy:=⟨some d,.move (.tmp s),none,0⟩
def qw (d s m:Nat):yy:=⟨some d,.move (.tmp s),none,m⟩
def q (d:Nat) (o:POp):yy:=⟨some d,o,none,0⟩
def qd (d:Nat) (o:POp) (m:Nat):yy:=⟨some d,o,none,m⟩
def qn (o:POp):yy:=⟨none,o,none,0⟩
def qk (o:POp) (m:Nat):yy:=⟨none,o,none,m⟩
inductive PC where
 | skip
 | ops (l:List yy) (draw:Bool)
 | seq (a b:PC)
 | cond (c:Operand) (a b:PC)
 | block (id:Nat) (c:PC)
 | loop (c:PC)
 | exit (id:Nat)
 | ret
 | stop (c:PC)
def PC.bare:PC→PC
 | .seq a b=>.seq a.bare b.bare
 | .cond c a b=>.cond c a.bare b.bare
 | .block id c=>.block id c.bare
 | .loop c=>.loop c.bare
 | .stop c=>c.bare
 | c=>c
abbrev Env:=List (Nat × D)
def lift:Value→D
 | .agg cs=>.agg (cs.toList.map .sc)
 | v=>.sc v
def xU (t:Nat):Env→D
 | []=>.xO
 | (k,d)::r=>match Nat.beq t k with|true=>d|false=>xU t r
def zeX (g:Nat):List (Nat × List D)→D
 | []=>.sc (.pointer (some ⟨g,0,none⟩))
 | (k,cs)::r=>match Nat.beq g k with|true=>.y7 cs|false=>zeX g r
theorem zjN {J:yX} {F:Nat→Prop} {w:World} (h:FOK F w) (g:Nat):rep J F w (zeX g XW) (.pointer (some ⟨g,0,none⟩)):=by
 have key:∀l:List (Nat × List D),(∀x∈l,x∈XW)→rep J F w (zeX g l) (.pointer (some ⟨g,0,none⟩)):=λl=>by
  induction l with
  | nil=>intro _;simp only[zeX,rep]
  | cons x r ih =>
   intro hl
   obtain⟨k,cs⟩:=x
   simp only[zeX]
   cases e:Nat.beq g k with
   | true =>
    have:=Nat.eq_of_beq_eq_true e
    subst this
    exact h.rep J (hl _ (by simp))
   | false=>exact ih λy hy=>hl y (by simp[hy])
 exact key _ λ_ h=>h
def xi (env:Env):Operand→D
 | .tmp t=>xU t env
 | .const v=>lift v
 | .global g=>zeX g XW
 | .func f=>.fn (.func f) [] []
def V7 (t:Nat) (K:D→Prop):Env→Prop
 | []=>K .xO
 | (k,d)::r=>match Nat.beq t k with|true=>K d|false=>V7 t K r
def scK:List Value→(List D→Prop)→Prop
 | [],K=>K []
 | v::r,K=>scK r λcs=>K (.sc v::cs)
def Zw (env:Env) (x:Operand) (K:D→Prop):Prop :=
 match x with
 | .tmp t=>V7 t K env
 | .const v=>match v with
  | .agg cs=>scK cs.toList λl=>K (.agg l)
  | v=>K (.sc v)
 | .global g=>K (zeX g XW)
 | .func f=>K (.fn (.func f) [] [])
def zk2 (env:Env):List Operand→(List D→Prop)→Prop
 | [],K=>K []
 | x::r,K=>Zw env x λd=>zk2 env r λds=>K (d::ds)
def atK:List D→Nat→(D→Prop)→Prop
 | [],_,_=>False
 | c::_,0,K=>K c
 | _::r,n+1,K=>atK r n K
def Uy:List D→Nat→(List D→Prop)→Prop
 | _,0,K=>K []
 | [],_+1,_=>False
 | c::r,n+1,K=>Uy r n λcs=>K (c::cs)
def W8:List D→Nat→(List D→Prop)→Prop
 | cs,0,K=>K cs
 | [],_+1,_=>False
 | _::r,n+1,K=>W8 r n K
def QG:D→Bool
 | .agg _|.yO _|.xO=>false
 | .sc (.agg _)|.sc (.tuple _)=>false
 | _=>true
def zbm:List D→Bool
 | []=>true
 | c::r=>match QG c with|true=>zbm r|false=>false
def zbh (d:D) (K:List D→Prop):Prop :=
 match d with
 | .agg cs=>match zbm cs with|true=>K cs|false=>False
 | d=>match QG d with|true=>K [d]|false=>False
def zbb:List D→Nat→List D→(List D→Prop)→Prop
 | r,0,[],K=>K r
 | _::r,0,c::cs,K=>zbb r 0 cs λr'=>K (c::r')
 | [],0,_::_,_=>False
 | [],_+1,_,_=>False
 | x::r,n+1,cs,K=>zbb r n cs λr'=>K (x::r')
def XN:List zf→Nat→zf→(List zf→Prop)→Prop
 | [],_,_,_=>False
 | _::r,0,o,K=>K (o::r)
 | x::r,n+1,o,K=>XN r n o λr'=>K (x::r')
def YQ:List zf→zf→(List zf→Nat→Prop)→Prop
 | [],o,K=>K [o] 0
 | x::r,o,K=>YQ r o λr' n=>K (x::r') (n+1)
def vE:List zf→Nat→(zf→Prop)→Prop
 | [],_,_=>False
 | o::_,0,K=>K o
 | _::r,n+1,K=>vE r n K
def ifK (c:Bool) (A B:Prop):Prop:=match c with
 | true=>A
 | false=>B
theorem zaQ {c:Bool} {A B:Prop} (h:c=true→A) (k:c=false→B):ifK c A B:=by
 cases c
 ·exact k rfl
 ·exact h rfl
def YY (a b:Nat) (A:Prop):Prop:=match Nat.beq a b with
 | true=>A
 | false=>False
abbrev Jk:=D→List zf→List Nat→List Nat→Prop
def InR (k:IntKind) (z:Int):Prop:=k.wrap z=z
def Us (k:IntKind) (z:Int) (K:D→Prop):Prop:=(InR k z∧K (.sc (.int k z)))∨∀u,u=k.wrap z→K (.sc (.int k u))
def vd (op:BinOp) (k:IntKind) (x y:Int):Int :=
 let a:=BitVec.ofInt k.bits x
 let b:=BitVec.ofInt k.bits y
 match op with
 | .and=>k.wrap (a &&& b).toNat
 | .or=>k.wrap (a ||| b).toNat
 | .xor=>k.wrap (a ^^^ b).toNat
 | _=>k.wrap (a &&& ~~~b).toNat
def zbv:IntKind→Nat
 | .i8=>0|.i16=>1|.i32=>2|.i64=>3|.u8=>4|.u16=>5|.u32=>6|.u64=>7
def zyR (op:BinOp) (x y:D) (K:D→Prop):Prop :=
 match x,y with
 | .sc (.int k a),.sc (.int k' b) =>
  match op with
  | .shl=>0≤b∧Us k (a*2^min b.toNat k.bits) K
  | .shr=>0≤b∧K (.sc (.int k (a.fdiv (2^min b.toNat k.bits))))
  | op=>match Nat.beq (zbv k) (zbv k') with
   | false=>False
   | true =>
    match op with
    | .add=>Us k (a+b) K
    | .sub=>Us k (a-b) K
    | .mul=>Us k (a*b) K
    | .quo=>b≠0∧Us k (a.tdiv b) K
    | .rem=>b≠0∧K (.sc (.int k (a.tmod b)))
    | .eql=>K (.sc (.bool (a==b)))
    | .neq=>K (.sc (.bool (a != b)))
    | .lss=>K (.sc (.bool (decide (a<b))))
    | .leq=>K (.sc (.bool (decide (a≤b))))
    | .gtr=>K (.sc (.bool (decide (a>b))))
    | .geq=>K (.sc (.bool (decide (a≥b))))
    | .and=>K (.sc (.int k (vd .and k a b)))
    | .or=>K (.sc (.int k (vd .or k a b)))
    | .xor=>K (.sc (.int k (vd .xor k a b)))
    | .andNot=>K (.sc (.int k (vd .andNot k a b)))
    | _=>False
 | .sc (.string a),.sc (.string b) =>
  match op with
  | .add=>(((a.size+b.size:Nat):Int)≤9223372036854775807)∧K (.sc (.string (a++b)))
  | .eql=>K (.sc (.bool (a.toList==b.toList)))
  | .neq=>K (.sc (.bool (!(a.toList==b.toList))))
  | .lss=>K (.sc (.bool (Op.bytesLess a.toList b.toList)))
  | .leq=>K (.sc (.bool (Op.bytesLess a.toList b.toList||a.toList==b.toList)))
  | .gtr=>K (.sc (.bool (!(Op.bytesLess a.toList b.toList||a.toList==b.toList))))
  | .geq=>K (.sc (.bool (!Op.bytesLess a.toList b.toList)))
  | _=>False
 | _,_=>False
def eqbK (neq:Bool) (x y:D) (K:D→Prop):Prop :=
 match x,y with
 | .sc (.bool a),.sc (.bool b)=>match neq with
  | false=>K (.sc (.bool (a==b)))
  | true=>K (.sc (.bool (!(a==b))))
 | _,_=>False
def J5 (neq b:Bool):Bool:=match neq with
 | true=>!b
 | false=>b
def zlr (c:Nat) (x y:D) (K:Bool→Prop):Prop :=
 match c,x,y with
 | 0,.sc (.int k a),.sc (.int k' b)=>YY (zbv k) (zbv k') (K (a==b))
 | 1,.sc (.bool a),.sc (.bool b)=>K (a==b)
 | 2,.sc (.string a),.sc (.string b)=>K (a.toList==b.toList)
 | _,_,_=>False
def zjt:List Nat→List D→List D→(Bool→Prop)→Prop
 | [],[],[],K=>K true
 | c::cs,x::xs,y::ys,K=>zlr c x y λr=>zjt cs xs ys λq=>K (r&&q)
 | _,_,_,_=>False
def zw2 (neq:Bool) (ks:List Nat) (x y:D) (K:D→Prop):Prop :=
 match x,y with
 | .agg xs,.agg ys=>zjt ks xs ys λb=>K (.sc (.bool (J5 neq b)))
 | _,_=>False
def zdc (seq:Bool) (kind:Nat) (neq:Bool) (x:D) (K:D→Prop):Prop :=
 match kind with
 | 0=>match x with
  | .sc (.pointer none)=>K (.sc (.bool (!neq)))
  | .loc ..|.y7 ..|.elt ..=>K (.sc (.bool neq))
  | _=>False
 | 1=>match x with
  | .sc .nilIface=>K (.sc (.bool (!neq)))
  | .ifc ..=>K (.sc (.bool neq))
  | _=>False
 | 2=>match x with
  | .sc .nilFunc=>K (.sc (.bool (!neq)))
  | .fn ..=>K (.sc (.bool neq))
  | _=>False
 | 3=>match x with
  | .sc (.slice none 0 0)=>K (.sc (.bool (!neq)))
  | .xj _ xs=>seq=true∧∀b:Bool,(b=true→xs=[])→K (.sc (.bool (J5 neq b)))
  | _=>False
 | _=>False
def unK (op:UnOp) (x:D) (K:D→Prop):Prop :=
 match op,x with
 | .not,.sc (.bool b)=>K (.sc (.bool (!b)))
 | .neg,.sc (.int k n)=>Us k (0-n) K
 | _,_=>False
def zdd (env:Env) (x:Option Operand) (dflt:Nat) (K:Nat→Prop):Prop :=
 match x with
 | none=>K dflt
 | some x=>Zw env x λd=>match d with
  | .sc (.int _ i)=>0≤i∧K i.toNat
  | _=>False
def zij (env:Env):List (Nat × Nat × Operand)→List D→(List D→Prop)→Prop
 | [],cs,K=>K cs
 | (off,n,x)::r,cs,K=>Zw env x λd=>zbh d λxs=>YY n xs.length (zbb cs off xs λcs'=>zij env r cs' K)
def zmp (env:Env) (zH:Nat):List Operand→(List (List D)→Prop)→Prop
 | [],K=>K []
 | x::r,K=>Zw env x λd=>zbh d λxs=>YY zH xs.length (zmp env zH r λrows=>K (xs::rows))
def zd9 (P : Program) (f : FuncId) : Prop := ∃ fn, P.funcs[f]? = some fn ∧ (fn.name == "runtime.NumGoroutine") = false ∧ fn.body.isNone = false
structure yu (P:Program) (f:FuncId) (args:List D) (H:List zf) (d:D) (H2:List zf):Prop where
 ok:zd9 P f
 len:H.length≤H2.length
 run:∀(J:yX) (F:Nat→Prop) (w:World) (vs:List Value),yZ J F w (λi=>H[i]?)→(∀id,J id≠none→id<H.length)→yf J F w args vs →
  Calls P f vs.toArray w λe w'=>∃v J' F',e=.returned v∧yZ J' F' w' (λi=>H2[i]?)∧(∀id,J' id≠none→id<H2.length)∧rep J' F' w' d v∧Ext J F w J' F' w'
structure u7 (P:Program) (f:FuncId) (args:List D) (H:List zf) (d:D) (H2:List zf) (L:List Nat):Prop where
 ok:zd9 P f
 len:H.length≤H2.length
 frame:∀id,id ∉ L→H2[id]? = H[id]?
 lt:∀id∈L,id<H2.length
 run:∀(J:yX) (F:Nat→Prop) (w:World) (vs:List Value) (G:Nat→Option zf),yZ J F w G→(∀id∈L,G id=H[id]?)→(∀id∈L,H.length≤id→J id=none)→yf J F w args vs →
  Calls P f vs.toArray w λe w'=>∃v J' F',e=.returned v∧yZ J' F' w' (λid=>if id∈L then H2[id]? else G id)∧(∀id,J' id≠none→J id≠none∨id∈L)∧rep J' F' w' d v∧Ext J F w J' F' w'
structure zgC (P:Program) (f:FuncId) (args:List D) (H:List zf) (d:D) (L:List Nat):Prop where
 ok:zd9 P f
 run:∀(J:yX) (F:Nat→Prop) (w:World) (vs:List Value) (G:Nat→Option zf),yZ J F w G→(∀id∈L,G id=H[id]?)→yf J F w args vs →
  Calls P f vs.toArray w λe w'=>∃v J' F',e=.returned v∧yZ J' F' w' G∧(∀id,J' id≠none→J id≠none)∧rep J' F' w' d v∧Ext J F w J' F' w'
def vV:yX:=λ_=>none
structure zq (P:Program) (f:FuncId) (args:List D) (d:D):Prop where
 ok:zd9 P f
 run:∀(J:yX) (F:Nat→Prop) (w:World) (vs:List Value),FOK F w→yf J F w args vs →
  Calls P f vs.toArray w λe w'=>∃v F',e=.returned v∧(∀b,F' b→b<w'.heap.size)∧rep vV F' w' d v∧Ext vV F w vV F' w'
mutual
inductive Deep (H:List zf):D→D→Prop
 | refl (d:D):Deep H d d
 | xO (d:D):Deep H d .xO
 | none (zH:Nat):Deep H (.sc (.slice none 0 0)) (.xj zH [])
 | loc (id off:Nat) (m:Bool) (cs ds:List D) (h:H[id]? = some (.row m cs)) (k:wP H (cs.drop off) ds):Deep H (.loc id off) (.y7 ds)
 | own (id zY lo hi zH:Nat) (m:Bool) (xs ys:List (List D)) (h:H[id]? = some (.vec m zY zH xs)) (k:vA H ((xs.take hi).drop lo) ys):Deep H (.own id zY lo hi) (.xj zH ys)
 | fn (f:Fn) (a b c e:List D) (h:wP H a b) (k:wP H c e):Deep H (.fn f a c) (.fn f b e)
 | ifc (t:TypeId) (d e:D) (h:Deep H d e):Deep H (.ifc t d) (.ifc t e)
 | agg (a b:List D) (h:wP H a b):Deep H (.agg a) (.agg b)
 | yO (a b:List D) (h:wP H a b):Deep H (.yO a) (.yO b)
inductive wP (H:List zf):List D→List D→Prop
 | nil:wP H [] []
 | cons (d e:D) (a b:List D) (h:Deep H d e) (k:wP H a b):wP H (d::a) (e::b)
inductive vA (H:List zf):List (List D)→List (List D)→Prop
 | nil:vA H [] []
 | cons (x y:List D) (a b:List (List D)) (h:wP H x y) (k:vA H a b):vA H (x::a) (y::b)
end
def isScalar:D→Bool
 | .sc _=>true
 | _=>false
def ZZ:List D→Bool
 | []=>true
 | d::r=>match isScalar d with|true=>ZZ r|false=>false
def zjf:D→Bool
 | .sc _=>true
 | .yO ds|.agg ds=>ZZ ds
 | _=>false
mutual
def zt (m:Nat):D→Prop
 | .xO|.sc _|.gv _=>True
 | .loc id _|.elt id _ _ _|.own id _ _ _|.mp id=>id<m
 | .y7 cs|.agg cs|.yO cs=>zl m cs
 | .xj _ xs=>zF m xs
 | .fn _ a b=>zl m a∧zl m b
 | .ifc _ d=>zt m d
def zl (m:Nat):List D→Prop
 | []=>True
 | d::r=>zt m d∧zl m r
def zF (m:Nat):List (List D)→Prop
 | []=>True
 | d::r=>zl m d∧zF m r
end
def zf.under (m:Nat):zf→Prop
 | .row _ cs=>zl m cs
 | .vec _ _ _ xs=>zF m xs
 | .wc _ _=>True
def wD (m:Nat):List zf→Prop
 | []=>True
 | o::r=>o.under m∧wD m r
def zhp:Nat→List Nat
 | 0=>[]
 | n+1=>n::zhp n
def zf.frozen:zf→zf
 | .row _ cs=>.row false cs
 | .vec _ v e xs=>.vec false v e xs
 | .wc _ I=>.wc false I
def Wg:List zf→List zf
 | []=>[]
 | o::r=>o.frozen::Wg r
def zrc (P:Program) (seq:Bool) (f:FuncId) (args:List D) (H:List zf) (K:Jk):Prop :=
 (∃d,zq P f args d∧K d H [] [])∨(∃args' d,wP H args args'∧zq P f args' d∧zjf d=true∧K d H (List.range H.length) []) ∨
  (seq=true∧∃d H2,yu P f args H d H2∧K d H2 [] []) ∨
  (∃d H2,zl H.length args∧wD H.length H∧yu P f args H d H2∧K d H2 (zhp H2.length) (zhp H2.length)) ∨
  (∃d H2 L,u7 P f args H d H2 L∧K d H2 L L) ∨
  (seq=true∧∃args' d,wP H args args'∧zq P f args' d∧K d (Wg H) [] []) ∨
  (∃d L,zgC P f args H d L∧K d H L [])
def xd (k:Nat) (bytes:Nat) (m:Nat):Prop:=(k+m)*bytes≤140737488355328
def zvj (H:List zf) (zH:Nat) (dy:D) (K:List (List D)→List Nat→Prop):Prop :=
 match dy with
 | .xj esz' ys=>YY zH esz' (K ys [])
 | .own id zY lo hi=>vE H id λo=>match o with
  | .vec _ ver' esz' zs=>zY=ver'∧YY zH esz' (K ((zs.take hi).drop lo) [id])
  | _=>False
 | .sc (.slice none 0 0)=>K [] []
 | _=>False
def uQ (P:Program) (kt:TypeId) (f:Value→Option Value):Array MapEntry→Prop:=λes =>
 (∀e∈es.toList,∃l,keyOf P kt e.key=some l)∧(∀e∈es.toList,f e.key=some e.val)∧∀key v,f key=some v→∃e∈es.toList,e.key=key
noncomputable def Q9 (f:Value→Option Value) (key v:Value):Value→Option Value:=λk=>open Classical in if k=key then some v else f k
def scV:D→Value
 | .sc v=>v
 | _=>undef
def zsI (d:D) (K:Value→Prop):Prop:=match d with
 | .sc v=>K v
 | .agg cs=>ZZ cs=true∧K (.agg (cs.map scV).toArray)
 | _=>False
def step (P:Program) (seq:Bool) (p:POp) (env:Env) (H:List zf) (K:Jk):Prop :=
 match p with
 | .move x=>Zw env x λd=>K d H [] []
 | .pick c a b=>Zw env c λdc=>match dc with
  | .sc (.bool t)=>ifK t (Zw env a λd=>K d H [] []) (Zw env b λd=>K d H [] [])
  | _=>False
 | .alloc z=>scK z λcs=>YQ H (.row true cs) λH' id=>K (.loc id 0) H' [] [id]
 | .box x=>Zw env x λd=>zbh d λcs=>YQ H (.row true cs) λH' id=>K (.loc id 0) H' [] [id]
 | .build z parts=>scK z λzs=>zij env parts zs λcs=>K (.agg cs) H [] []
 | .xe zH n parts=>zmp env zH parts λrows=>YY n rows.length (YQ H (.vec true 0 zH rows) λH' id=>K (.own id 0 0 n) H' [] [id])
 | .zg a=>Zw env a λd=>match d with
  | .loc id off=>vE H id λo=>match o with
   | .row _ cs=>atK cs off λc=>K c H [id] []
   | _=>False
  | .y7 cs=>atK cs 0 λc=>K c H [] []
  | .elt id zY i off=>vE H id λo=>match o with
   | .vec _ ver' _ xs=>zY=ver'∧∃row,xs[i]? = some row∧atK row off λc=>K c H [id] []
   | _=>False
  | _=>False
 | .vw n a=>Zw env a λd=>match d with
  | .loc id off=>vE H id λo=>match o with
   | .row _ cs=>W8 cs off λr=>Uy r n λc=>K (.agg c) H [id] []
   | _=>False
  | .y7 cs=>Uy cs n λc=>K (.agg c) H [] []
  | .elt id zY i off=>vE H id λo=>match o with
   | .vec _ ver' _ xs=>zY=ver'∧∃row,xs[i]? = some row∧W8 row off λr=>Uy r n λc=>K (.agg c) H [id] []
   | _=>False
  | _=>False
 | .store n a x=>Zw env a λd=>Zw env x λdx=>zbh dx λxs=>YY n xs.length (match d with
  | .loc id off=>vE H id λo=>match o with
   | .row true cs=>zbb cs off xs λcs'=>XN H id (.row true cs') λH'=>K (.sc undef) H' [] [id]
   | _=>False
  | .elt id zY i off=>vE H id λo=>match o with
   | .vec true ver' zH ys=>zY=ver'∧∃row,ys[i]? = some row∧zbb row off xs λrow'=>XN H id (.vec true ver' zH (ys.set i row')) λH'=>K (.sc undef) H' [] [id]
   | _=>False
  | _=>False)
 | .zn x=>Zw env x λd=>match d with
  | .loc ..|.y7 ..|.elt ..|.fn (.func _) ..=>K d H [] []
  | _=>False
 | .bin op x y=>Zw env x λdx=>Zw env y λdy=>zyR op dx dy λd=>K d H [] []
 | .eqb neq x y=>Zw env x λdx=>Zw env y λdy=>eqbK neq dx dy λd=>K d H [] []
 | .eqa neq ks x y=>Zw env x λdx=>Zw env y λdy=>zw2 neq ks dx dy λd=>K d H [] []
 | .ziJ kind neq x=>Zw env x λdx=>zdc seq kind neq dx λd=>K d H [] []
 | .un op x=>Zw env x λdx=>unK op dx λd=>K d H [] []
 | .ext i x=>Zw env x λd=>match d with
  | .yO cs=>atK cs i λc=>K c H [] []
  | _=>False
 | .zz off x=>Zw env x λd=>match d with
  | .loc id o=>K (.loc id (o+off)) H [] []
  | .elt id zY i o=>K (.elt id zY i (o+off)) H [] []
  | .y7 cs=>W8 cs off λr=>K (.y7 r) H [] []
  | _=>False
 | .field off n agg x=>Zw env x λd=>match d with
  | .agg cs=>match agg with
   | true=>W8 cs off λr=>Uy r n λc=>K (.agg c) H [] []
   | false=>atK cs off λc=>K c H [] []
  | _=>False
 | .zM zH x i=>Zw env x λdx=>Zw env i λdi=>match di with
  | .sc (.int _ z)=>match dx with
   | .xj esz' xs=>YY zH esz' (0≤z∧∃row,xs[z.toNat]? = some row∧K (.y7 row) H [] [])
   | .own id zY lo hi=>vE H id λo=>match o with
    | .vec _ ver' esz' _=>zY=ver'∧YY zH esz' (0≤z∧z<(hi-lo:Nat)∧K (.elt id zY (lo+z.toNat) 0) H [id] [])
    | _=>False
   | _=>False
  | _=>False
 | .zmo len zH x i=>Zw env x λdx=>Zw env i λdi=>match di with
  | .sc (.int _ z)=>0≤z∧z<(len:Nat)∧match dx with
   | .loc id o=>K (.loc id (o+z.toNat * zH)) H [] []
   | .elt id zY i o=>K (.elt id zY i (o+z.toNat * zH)) H [] []
   | .y7 cs=>W8 cs (z.toNat * zH) λr=>K (.y7 r) H [] []
   | _=>False
  | _=>False
 | .zoy len zH agg x i=>Zw env x λdx=>Zw env i λdi=>match di with
  | .sc (.int _ z)=>match dx with
   | .agg cs=>0≤z∧z<(len:Nat)∧match agg with
    | true=>W8 cs (z.toNat * zH) λr=>Uy r zH λc=>K (.agg c) H [] []
    | false=>∃c,cs[z.toNat * zH]? = some c∧K c H [] []
   | _=>False
  | _=>False
 | .zqr x i=>Zw env x λdx=>Zw env i λdi=>match dx,di with
  | .sc (.string s),.sc (.int _ z)=>0≤z∧∃b,s[z.toNat]? = some b∧K (.sc (.int .u8 b.toNat)) H [] []
  | _,_=>False
 | .qj f first cap=>zk2 env first λds=>zk2 env cap λcs=>K (.fn f ds cs) H [] []
 | .wE zH bytes z l c=>Zw env l λdl=>Zw env c λdc=>match dl,dc with
  | .sc (.int .i64 nl),.sc (.int .i64 nc)=>0≤nl∧nl≤nc∧nc*bytes≤140737488355328 ∧
   YQ H (.vec true 0 zH (List.replicate nl.toNat (z.map .sc))) λH' id=>K (.own id 0 0 nl.toNat) H' [] [id]
  | _,_=>False
 | .slc zH x lo hi mx=>Zw env x λdx=>match dx,mx with
  | .xj esz' xs,none=>YY zH esz' (zdd env hi xs.length λh=>zdd env lo 0 λl=>l≤h∧h≤xs.length∧K (.xj esz' ((xs.take h).drop l)) H [] [])
  | .xj esz' xs,some m=>match hi with
   | none=>False
   | some hi'=>YY zH esz' (zdd env (some hi') 0 λh=>zdd env lo 0 λl=>zdd env (some m) 0 λmm=>l≤h∧h≤mm∧mm≤xs.length∧K (.xj esz' ((xs.take h).drop l)) H [] [])
  | .own id zY a b,none=>vE H id λo=>match o with
   | .vec _ ver' esz' _=>zY=ver'∧YY zH esz' (zdd env hi (b-a) λh=>zdd env lo 0 λl=>l≤h∧h≤b-a∧K (.own id zY (a+l) (a+h)) H [id] [])
   | _=>False
  | _,_=>False
 | .zlH x lo hi=>Zw env x λdx=>match dx with
  | .sc (.string s)=>zdd env hi s.size λh=>zdd env lo 0 λl=>l≤h∧h≤s.size∧K (.sc (.string (s.extract l h))) H [] []
  | _=>False
 | .len x=>Zw env x λdx=>match dx with
  | .xj _ xs=>K (.sc (.int .i64 xs.length)) H [] []
  | .own id zY lo hi=>vE H id λo=>match o with
   | .vec _ ver' _ _=>zY=ver'∧K (.sc (.int .i64 (hi-lo:Nat))) H [id] []
   | _=>False
  | .sc (.slice none 0 0)=>K (.sc (.int .i64 0)) H [] []
  | _=>False
 | .zhM x=>Zw env x λdx=>match dx with
  | .sc (.string s)=>K (.sc (.int .i64 s.size)) H [] []
  | _=>False
 | .append zH bytes x y=>Zw env x λdx=>Zw env y λdy=>zvj H zH dy λys rd =>
  match dx with
   | .sc (.slice none 0 0)=>xd 0 bytes ys.length∧YQ H (.vec true 0 zH ys) λH' id=>K (.own id 0 0 ys.length) H' rd [id]
   | .own id zY lo hi=>vE H id λo=>match o with
    | .vec true ver' esz' zs=>zY=ver'∧YY zH esz' (xd (hi-lo) bytes ys.length ∧
     XN H id (.vec true (zY+1) zH ((zs.take hi).drop lo++ys)) λH'=>K (.own id (zY+1) 0 (hi-lo+ys.length)) H' rd [id])
    | _=>False
   | _=>False
 | .clr u x=>Zw env x λdx=>match dx with
  | .own id zY lo hi=>vE H id λo=>match o with
   | .vec true ver' zH zs=>zY=ver'∧YY zH 1 (XN H id (.vec true zY 1 (zs.take lo++List.replicate (hi-lo) [.sc u]++zs.drop hi)) λH'=>K (.yO []) H' [] [id])
   | _=>False
  | _=>False
 | .mx big x y=>Zw env x λdx=>Zw env y λdy=>match dx with
  | .sc (.int k n)=>match dy with
   | .sc (.int _ m)=>match big with
    | true=>K (.sc (.int k (max n m))) H [] []
    | false=>K (.sc (.int k (min n m))) H [] []
   | _=>False
  | _=>False
 | .call f args=>zk2 env args λds=>zrc P seq f ds H K
 | .vu x args=>Zw env x λdx=>match dx with
  | .fn (.func f) first cap=>zk2 env args λds=>zrc P seq f (first++ds++cap) H K
  | _=>False
 | .zy9 t x=>Zw env x λd=>K (.ifc t d) H [] []
 | .conv k x=>Zw env x λd=>match d with
  | .sc (.int _ n)=>Us k n λd=>K d H [] []
  | _=>False
 | .zyE x=>Zw env x λdx=>zvj H 1 dx λys rd=>∃ns:List Int,ys=(ns.map λn=>[.sc (.int .u8 n)])∧K (.sc (.string (ns.foldl (λr n=>r.push (UInt8.ofNat n.toNat)) ByteArray.empty))) H rd []
 | .zf2 kt=>YQ H (.wc true (uQ P kt λ_=>none)) λH' id=>K (.mp id) H' [] [id]
 | .look kt z m x=>Zw env m λdm=>Zw env x λdx=>match dm with
  | .mp id=>vE H id λo=>match o with
   | .wc _ I=>zsI dx λkey=>∃f,I=uQ P kt f∧Maps.Keyed P kt∧(∃l,keyOf P kt key=some l)∧(∀v,f key=some v→K (.yO [.sc v,.sc (.bool true)]) H [id] [])∧(f key=none→K (.yO [.sc z,.sc (.bool false)]) H [id] [])
   | _=>False
  | _=>False
 | .znd kt m x=>Zw env m λdm=>Zw env x λdx=>match dm with
  | .mp id=>vE H id λo=>match o with
   | .wc _ I=>zsI dx λkey=>∃f,I=uQ P kt f∧Maps.Keyed P kt∧(∃l,keyOf P kt key=some l)∧∃v,f key=some v∧K (.sc v) H [id] []
   | _=>False
  | _=>False
 | .zlJ kt m x v=>Zw env m λdm=>Zw env x λdx=>Zw env v λdv=>match dm with
  | .mp id=>vE H id λo=>match o with
   | .wc true I=>zsI dx λkey=>match dv with
    | .sc u=>∃f,I=uQ P kt f∧Maps.Keyed P kt∧(∃l,keyOf P kt key=some l)∧f key=none∧XN H id (.wc true (uQ P kt (Q9 f key u))) λH'=>K (.sc undef) H' [] [id]
    | _=>False
   | _=>False
  | _=>False
def vt (P:Program):List yy→Env→List zf→(Env→List zf→Prop)→Prop
 | [],env,H,K=>K env H
 | o::r,env,H,K =>
  match o.guard with
  | none=>step P true o.op env H λd H' _ _=>match o.dst with
   | some t=>vt P r ((t,d)::env) H' K
   | none=>vt P r env H' K
  | some (t,b)=>V7 t (λg=>match g with
   | .sc (.bool c)=>match b with
    | true=>ifK c
     (step P true o.op env H λd H' _ _=>match o.dst with
      | some u=>vt P r ((u,d)::env) H' K
      | none=>vt P r env H' K)
     (match o.dst with
      | some u=>vt P r ((u,.sc undef)::env) H K
      | none=>vt P r env H K)
    | false=>ifK c
     (match o.dst with
      | some u=>vt P r ((u,.sc undef)::env) H K
      | none=>vt P r env H K)
     (step P true o.op env H λd H' _ _=>match o.dst with
      | some u=>vt P r ((u,d)::env) H' K
      | none=>vt P r env H' K)
   | .sc (.tuple _)=>match o.dst with
    | some u=>vt P r ((u,.sc undef)::env) H K
    | none=>vt P r env H K
   | _=>False) env
def Vr (p:POp) (env:Env):Option (Nat × Nat):=match p with
 | .zg a=>match xi env a with
  | .loc id k=>some (id,k)
  | _=>none
 | _=>none
abbrev Trace:=List ((List Nat × List Nat) × (Option (Nat × Nat) × D × List zf))
def Vy (P:Program):List yy→Env→List zf→(Env→List zf→Trace→Prop)→Prop
 | [],env,H,K=>K env H []
 | o::r,env,H,K =>
  match o.guard with
  | none=>step P false o.op env H λd H' rd wr=>match o.dst with
   | some t=>Vy P r ((t,d)::env) H' λe h tr=>K e h (((rd,wr),(Vr o.op env,d,H'))::tr)
   | none=>Vy P r env H' λe h tr=>K e h (((rd,wr),(Vr o.op env,d,H'))::tr)
  | some (t,b)=>V7 t (λg=>match g with
   | .sc (.bool c)=>match b with
    | true=>ifK c
     (step P false o.op env H λd H' rd wr=>match o.dst with
      | some u=>Vy P r ((u,d)::env) H' λe h tr=>K e h (((rd,wr),(none,d,H'))::tr)
      | none=>Vy P r env H' λe h tr=>K e h (((rd,wr),(none,d,H'))::tr))
     (match o.dst with
      | some u=>Vy P r ((u,.sc undef)::env) H λe h tr=>K e h ((([],[]),(none,.sc undef,H))::tr)
      | none=>Vy P r env H λe h tr=>K e h ((([],[]),(none,.sc undef,H))::tr))
    | false=>ifK c
     (match o.dst with
      | some u=>Vy P r ((u,.sc undef)::env) H λe h tr=>K e h ((([],[]),(none,.sc undef,H))::tr)
      | none=>Vy P r env H λe h tr=>K e h ((([],[]),(none,.sc undef,H))::tr))
     (step P false o.op env H λd H' rd wr=>match o.dst with
      | some u=>Vy P r ((u,d)::env) H' λe h tr=>K e h (((rd,wr),(none,d,H'))::tr)
      | none=>Vy P r env H' λe h tr=>K e h (((rd,wr),(none,d,H'))::tr))
   | .sc (.tuple _)=>match o.dst with
    | some u=>Vy P r ((u,.sc undef)::env) H λe h tr=>K e h ((([],[]),(none,.sc undef,H))::tr)
    | none=>Vy P r env H λe h tr=>K e h ((([],[]),(none,.sc undef,H))::tr)
   | _=>False) env
def zaY (x:Nat):List Nat→Bool
 | []=>false
 | y::r=>match Nat.beq x y with|true=>true|false=>zaY x r
def meets:List Nat→List Nat→Bool
 | [],_=>false
 | x::r,l=>match zaY x l with|true=>true|false=>meets r l
def UE (a b:List Nat × List Nat):Bool:=meets a.2 b.1||meets a.2 b.2||meets b.2 a.1
def QI (m i:Nat):Bool:=match Nat.beq ((m/2^i)%2) 1 with|true=>true|false=>false
def Ql (m:Nat) (b:List Nat × List Nat):Nat→List (List Nat × List Nat)→Bool
 | _,[]=>true
 | i,a::r=>match (QI m i||!UE a b) with|true=>Ql m b (i+1) r|false=>false
def zgW (pre:List (List Nat × List Nat)):List yy→Trace→Bool
 | o::r,(b,_)::tr=>match Ql o.mask b 0 pre with|true=>zgW (pre++[b]) r tr|false=>false
 | _,_=>true
def za0 (pre:List (List Nat × List Nat)):List yy→Trace→Bool
 | o::r,(b,(q,_))::tr=>match Ql o.mask b 0 pre with
  | true=>match q with
   | some _=>za0 (pre++[([],b.2)]) r tr
   | none=>za0 (pre++[b]) r tr
  | false=>false
 | _,_=>true
def zwD (H:List zf) (id k:Nat) (d:D) (K:Prop):Prop:=vE H id λo=>match o with
 | .row _ cs=>atK cs k λc=>c=d∧K
 | _=>False
def zeO (m:Nat) (wr:List Nat) (H:List zf) (K:Prop):List (Nat × (Nat × Nat) × D)→Prop
 | []=>K
 | (i,(id,k),d)::r=>match (QI m i||!zaY id wr) with
  | true=>zeO m wr H K r
  | false=>zwD H id k d (zeO m wr H K r)
def zbf (K:Prop):Nat→List (Nat × (Nat × Nat) × D)→List yy→Trace→Prop
 | i,ws,o::r,(b,(q,d,H))::tr=>zeO o.mask b.2 H (match q with
  | some l=>zbf K (i+1) (ws++[(i,l,d)]) r tr
  | none=>zbf K (i+1) ws r tr) ws
 | _,_,_,_=>K
def zcS (P:Program) (l:List yy) (env:Env) (H:List zf) (K:Env→List zf→Prop):Prop:=Vy P l env H λe h tr=>match zgW [] l tr with
 | true=>K e h
 | false=>match za0 [] l tr with
  | true=>zbf (K e h) 0 [] l tr
  | false=>False
end
section
open Go.RowKit
def zyh (P:Program) (t:TypeId):Bool:=match P.underlying t with|some (.int _)=>true|_=>false
def zw8 (P:Program) (t:TypeId):Bool:=match P.underlying t with|some .string=>true|_=>false
def zcY (P:Program) (t:TypeId):Bool:=match P.underlying t with|some .bool=>true|_=>false
def Vt (P:Program) (t:TypeId) (y:Operand):Option Nat :=
 match P.underlying t,y with
 | some (.pointer _),.const (.pointer none)=>some 0
 | some (.interface _),.const .nilIface=>some 1
 | some (.func _ _ _),.const .nilFunc=>some 2
 | some (.slice _),.const (.slice none 0 0)=>some 3
 | _,_=>none
def zbL (P:Program) (t:TypeId):Option Nat:=match P.underlying t with
 | some (.int _)=>some 0
 | some .bool=>some 1
 | some .string=>some 2
 | _=>none
def zdp (P:Program):Nat→List Field→Option (List Nat)
 | _,[]=>some []
 | i, f :: r => if f.name ≠ "_" ∧ f.offset = i then match zbL P f.type, zdp P (i + 1) r with
  | some c,some cs=>some (c::cs)
  | _,_=>none
  else none
def zhK (P:Program) (t:TypeId):Option (List Nat):=match P.underlying t with
 | some (.struct fs)=>if P.stoodInHeld t=false∧P.eqGuardType P.depth t=false then zdp P 0 fs.toList else none
 | some (.array n e)=>if P.eqGuardType P.depth t=false∧P.cellsOf e=1∧(P.info? e).isSome=true then (zbL P e).map (List.replicate n ·) else none
 | _=>none
def v7 (place:Nat→Option (Nat × Nat)):List (Nat × Operand)→Option (List (Nat × Nat × Operand))
 | []=>some []
 | (i,x)::r=>match place i,v7 place r with
  | some (off,n),some l=>some ((off,n,x)::l)
  | _,_=>none
def Y6:Nat→List (Nat × Operand)→Option (List Operand)
 | _,[]=>some []
 | k,(i,x)::r=>if i=k then (Y6 (k+1) r).map (x::·) else none
def wk (z:Value):Nat→Nat→List (Nat × Operand)→Option (List Operand)
 | _,0,[]=>some []
 | _,0,_::_=>none
 | k,m+1,[]=>(wk z (k+1) m []).map (.const z::·)
 | k,m+1,(i,x)::r=>if i=k then (wk z (k+1) m r).map (x::·) else (wk z (k+1) m ((i,x)::r)).map (.const z::·)
def QB (P:Program) (t:TypeId):Option Bool:=match P.underlying t with
 | some (.struct _)|some (.array _ _)=>some true
 | some _=>some false
 | none=>none
def cop (P:Program) (o:Oper):Option POp :=
 match o.op with
 | .move x|.assign x=>some (.move x)
 | .pick c a b=>some (.pick c a b)
 | .alloc t=>match (P.info? t).bind (·.zero) with
  | some z=>if z.cells.toList.all yx then some (.alloc z.cells.toList) else none
  | none=>none
 | .box _ x=>some (.box x)
 | .build t parts=>match (P.info? t).bind (·.zero),P.underlying t with
  | some z,some (.struct fs)=>match fs.toList.mapM (λf=>(P.info? f.type).map λi=>(f.offset,i.size)) with
   | some places=>(v7 (places.toArray[·]?) parts.toList).map (.build z.cells.toList)
   | none=>none
  | some z,some (.array _ e)=>match P.info? e with
   | some ie=>(v7 (λi=>some (i*ie.size,ie.size)) parts.toList).map (.build z.cells.toList)
   | none=>none
  | _,_=>none
 | .buildSlice t n parts=>match P.underlying t with
  | some (.slice e)=>match (P.info? e).bind (·.zero) with
   | some z=>if n*P.cellsOf e≤16777216∧0<P.cellsOf e then match Y6 0 parts.toList with
    | some xs=>some (.xe (P.cellsOf e) n xs)
    | none=>(wk z 0 n parts.toList).map (.xe (P.cellsOf e) n)
    else none
   | none=>none
  | _=>none
 | .load t a=>match QB P t with
  | some true=>some (.vw (P.cellsOf t) a)
  | some false=>some (.zg a)
  | none=>none
 | .store t a v=>if P.cellsOf t=0 then none else some (.store (P.cellsOf t) a v)
 | .nilCheck x=>some (.zn x)
 | .binOp op t x y _ =>
  if zyh P t||zw8 P t then some (.bin op x y)
  else match op with
   | .eql=>if zcY P t then some (.eqb false x y) else match zhK P t with
    | some ks=>some (.eqa false ks x y)
    | none=>(Vt P t y).map (.ziJ · false x)
   | .neq=>if zcY P t then some (.eqb true x y) else match zhK P t with
    | some ks=>some (.eqa true ks x y)
    | none=>(Vt P t y).map (.ziJ · true x)
   | _=>none
 | .unOp op _ x=>some (.un op x)
 | .extract x i=>some (.ext i x)
 | .fieldAddr s x f=>match P.underlying s with
  | some (.struct fs)=>match fs[f]? with
   | some fd=>if P.cellsOf fd.type=0 then none else some (.zz fd.offset x)
   | none=>none
  | _=>none
 | .field s x f=>match P.underlying s with
  | some (.struct fs)=>match fs[f]? with
   | some fd=>match QB P fd.type with
    | some ag=>some (.field fd.offset (P.cellsOf fd.type) ag x)
    | none=>none
   | none=>none
  | _=>none
 | .indexAddr t x i=>match P.underlying t with
  | some (.slice e)=>if P.cellsOf e=0 then none else some (.zM (P.cellsOf e) x i)
  | some (.array n e)=>if P.cellsOf e=0 then none else some (.zmo n (P.cellsOf e) x i)
  | _=>none
 | .index t x i=>match P.underlying t with
  | some .string=>some (.zqr x i)
  | some (.array n e)=>match QB P e with
   | some ag=>some (.zoy n (P.cellsOf e) ag x i)
   | none=>none
  | _=>none
 | .makeFunc f first cap=>some (.qj f first.toList cap.toList)
 | .makeSlice t l c=>match P.underlying t with
  | some (.slice e)=>match (P.info? e).bind (·.zero) with
   | some z=>if z.cells.size=P.cellsOf e∧0<P.cellsOf e∧0<P.bytesOf e∧z.cells.toList.all yx=true then some (.wE (P.cellsOf e) (P.bytesOf e) z.cells.toList l c) else none
   | none=>none
  | _=>none
 | .slice t x lo hi mx=>match P.underlying t with
  | some (.slice e)=>if 0<P.cellsOf e then some (.slc (P.cellsOf e) x lo hi mx) else none
  | some .string=>match mx with
   | none=>some (.zlH x lo hi)
   | some _=>none
  | _=>none
 | .call { callee:=.builtin .len,args,argTypes }=>match args.toList,argTypes.toList with
  | [x],[t]=>match P.underlying t with
   | some (.slice _)=>some (.len x)
   | some .string=>some (.zhM x)
   | _=>none
  | _,_=>none
 | .call { callee:=.builtin .append,args,argTypes }=>match args.toList,argTypes.toList with
  | [x,y],[t,u]=>match P.underlying t,P.underlying u with
   | some (.slice e),some (.slice _)=>match (P.info? e).bind (·.zero) with
    | some z=>if z.cells.size=P.cellsOf e∧0<P.cellsOf e∧0<P.bytesOf e then some (.append (P.cellsOf e) (P.bytesOf e) x y) else none
    | none=>none
   | _,_=>none
  | _,_=>none
 | .call { callee:=.builtin .clear,args,argTypes }=>match args.toList,argTypes.toList with
  | [x],[t]=>match P.underlying t with
   | some (.slice e)=>match (P.info? e).bind (·.zero) with
    | some z=>match z.cells.toList with
     | [u]=>if P.cellsOf e=1∧yx u=true then some (.clr u x) else none
     | _=>none
    | none=>none
   | _=>none
  | _,_=>none
 | .call { callee:=.builtin .max,args,.. }=>match args.toList with
  | [x,y]=>some (.mx true x y)
  | _=>none
 | .call { callee:=.builtin .min,args,.. }=>match args.toList with
  | [x,y]=>some (.mx false x y)
  | _=>none
 | .call { callee:=.value (.func f),args,.. }=>match P.funcs[f]? with
  | some fn => if fn.name == "runtime.NumGoroutine" || fn.body.isNone then none else some (.call f args.toList)
  | none=>none
 | .call { callee:=.value x,args,.. }=>some (.vu x args.toList)
 | .convert src dst x=>match P.underlying src,P.underlying dst with
  | some (.int _),some (.int k)=>some (.conv k x)
  | some (.slice e),some .string=>match P.underlying e with
   | some (.int .u8)=>some (.zyE x)
   | _=>none
  | _,_=>none
 | .makeMap t none=>match P.underlying t with
  | some (.map k _)=>some (.zf2 k)
  | _=>none
 | .lookup t m x true=>match P.underlying t with
  | some (.map k e)=>match (P.info? e).bind (·.zero) with
   | some z=>if yx z=true then some (.look k z m x) else none
   | none=>none
  | _=>none
 | .lookup t m x false=>match P.underlying t with
  | some (.map k _)=>some (.znd k m x)
  | _=>none
 | .mapUpdate t m x v=>match P.underlying t with
  | some (.map k _)=>some (.zlJ k m x v)
  | _=>none
 | .makeInterface t x=>match P.underlying t with
  | some (.interface _)=>none
  | some _=>some (.zy9 t x)
  | none=>none
 | _=>none
def zsf (n:Nat) (o:Oper):Bool:=match o.dst with
 | some d=>decide (d<n)
 | none=>true
def uw (o:Oper):List Nat:=(o.after.toList.filter (Region.binds .any)).map (·.on)
def UP (ms:List Nat):List Nat→Nat
 | []=>0
 | i::r=>2^i ||| ms.getD i 0 ||| UP ms r
def qg:List Nat→List Oper→List Nat
 | acc,[]=>acc
 | acc,o::r=>qg (acc++[UP acc (uw o)]) r
def UZ (ops:Array Oper) (m:Nat) (o:Oper):Nat→List Oper→Bool
 | _,[]=>true
 | i,x::r=>(m.testBit i||x.apart ops o)&&UZ ops m o (i+1) r
def zde (ops:Array Oper) (ms:List Nat):List Oper→List Oper→Bool
 | _,[]=>true
 | pre,o::r=>(uw o).all (·<pre.length)&&UZ ops (ms.getD pre.length 0) o 0 pre&&zde ops ms (pre++[o]) r
def zsJ (P:Program) (n:Nat) (ops:Array Oper) (mask:Nat) (o:Oper):Option yy :=
 match zsf n o,cop P o,o.guard with
 | true,some p,none=>some ⟨o.dst,p,none,mask⟩
 | true,some p,some (j,b)=>match (ops[j]?).bind (·.dst) with
  | some t=>some ⟨o.dst,p,some (t,b),mask⟩
  | none=>none
 | _,_,_=>none
def qS (P:Program) (n:Nat) (ops:Array Oper):List Nat→List Oper→Option (List yy)
 | _,[]=>some []
 | ms,o::r=>match zsJ P n ops (ms.headD 0) o,qS P n ops ms.tail r with
  | some p,some l=>some (p::l)
  | _,_=>none
def JE (P:Program) (n:Nat) (ops:Array Oper) (draw:Bool):Option (List yy) :=
 match draw with
 | false=>qS P n ops [] ops.toList
 | true=>match P.follows .mixedOrders&&zde ops (qg [] ops.toList) [] ops.toList with
  | true=>qS P n ops (qg [] ops.toList) ops.toList
  | false=>none
def comp (P:Program) (n:Nat):Code→Option PC
 | .skip=>some .skip
 | .region _ ops draw=>(JE P n ops draw).map (.ops · draw)
 | .seq a b=>match comp P n a,comp P n b with
  | some x,some y=>some (.seq x y)
  | _,_=>none
 | .cond c a b=>match comp P n a,comp P n b with
  | some x,some y=>some (.cond c x y)
  | _,_=>none
 | .block id c=>(comp P n c).map (.block id)
 | .loop c=>(comp P n c).map .loop
 | .exit id=>some (.exit id)
 | .ret=>some .ret
 | _=>none
structure wZ (n:Nat) (J:yX) (F:Nat→Prop) (env:Env) (H:List zf) (a:Act) (w:World):Prop where
 defers:a.defers=[]
 size:a.tmps.size=n
 tmps:∀t,rep J F w (xU t env) (a.tmps.getD t undef)
 ok:yZ J F w (λi=>H[i]?)
 dom:∀id,J id≠none→id<H.length
abbrev qO:=Exit→Env→List zf→Prop
@[irreducible] def PWp (P:Program) (n:Nat) (p:PC) (Q:qO) (env:Env) (H:List zf):Prop :=
 ∀c,comp P n c=some p.bare→∀(J:yX) (F:Nat→Prop) (a:Act) (w:World),wZ n J F env H a w →
  c.wp P (λe a' w'=>∃env' H' J' F',Q e env' H'∧wZ n J' F' env' H' a' w'∧Ext J F w J' F' w') a w
def pw (P:Program) (n:Nat):PC→qO→Env→List zf→Prop
 | .skip,Q,env,H=>Q .normal env H
 | .ops l d,Q,env,H=>match d with
  | false=>vt P l env H λenv H=>Q .normal env H
  | true=>zcS P l env H λenv H=>Q .normal env H
 | .seq a b,Q,env,H=>pw P n a (λe env H=>match e with
  | .normal=>pw P n b Q env H
  | e=>Q e env H) env H
 | .cond c a b,Q,env,H=>Zw env c λd=>match d with
  | .sc (.bool t)=>ifK t (pw P n a Q env H) (pw P n b Q env H)
  | _=>False
 | .block id c,Q,env,H=>pw P n c (λe env H=>match e with
  | .exit id'=>match Nat.beq id' id with
   | true=>Q .normal env H
   | false=>Q (.exit id') env H
  | e=>Q e env H) env H
 | .loop c,Q,env,H=>PWp P n (.loop c) Q env H
 | .exit id,Q,env,H=>Q (.exit id) env H
 | .ret,Q,env,H=>Q .ret env H
 | .stop c,Q,env,H=>PWp P n c Q env H
def St.le (n:Nat) (env:Env) (H:List zf) (env':Env) (H':List zf):Prop:=∀J F a w,wZ n J F env H a w→∃J' F',wZ n J' F' env' H' a w∧Ext J F w J' F' w
def V3 (env:Env):Env→Prop
 | []=>True
 | (t,d)::r=>xU t env=d∧V3 env r
def zBI {ι:Type} (n:Nat) (Q:qO) (E:ι→Env) (O:ι→List zf) (G:ι→Prop) (m:ι→Nat) (k:Nat):qO
 | .normal,env,H=>∃j,G j∧m j<k∧St.le n env H (E j) (O j)
 | e,env,H=>Q e env H
inductive RV where
 | tmp (t:Nat)
 | agg (t n:Nat)
 | one (t:Nat)
def crv (P:Program):ResultVar→Option RV
 | .tmp t=>some (.tmp t)
 | .cell t ty=>match QB P ty with
  | some true=>some (.agg t (P.cellsOf ty))
  | some false=>some (.one t)
  | none=>none
def zkS (P:Program):List ResultVar→Option (List RV)
 | []=>some []
 | r::l=>match crv P r,zkS P l with
  | some x,some y=>some (x::y)
  | _,_=>none
structure zy (P:Program) (f:FuncId) (n:Nat) (rs:List RV) (p:PC):Prop where
 out : ∃ fn, P.funcs[f]? = some fn ∧ fn.ntmps = n ∧ (fn.name == "runtime.NumGoroutine") = false ∧ zkS P fn.results.toList = some rs ∧ fn.body.bind (comp P n) = some p.bare
def qt (env:Env) (H:List zf):List RV→(List D→Prop)→Prop
 | [],K=>K []
 | .tmp t::r,K=>V7 t (λd=>qt env H r λds=>K (d::ds)) env
 | .agg t n::r,K=>V7 t (λd=>match d with
  | .loc id off=>vE H id λo=>match o with
   | .row _ cs=>W8 cs off λcs'=>Uy cs' n λc=>qt env H r λds=>K (.agg c::ds)
   | _=>False
  | _=>False) env
 | .one t::r,K=>V7 t (λd=>match d with
  | .loc id off=>vE H id λo=>match o with
   | .row _ cs=>atK cs off λc=>qt env H r λds=>K (c::ds)
   | _=>False
  | _=>False) env
def ztk (rs:List RV) (R:D→List zf→Prop):qO
 | .normal,env,H|.ret,env,H=>qt env H rs λds=>match ds with
  | [d]=>R d H
  | ds=>R (.yO ds) H
 | _,_,_=>False
def params:Nat→List D→Env
 | _,[]=>[]
 | k,d::r=>(k,d)::params (k+1) r
mutual
def Pure:D→Prop
 | .xO|.sc _|.gv _=>True
 | .loc ..|.elt ..|.own ..|.mp ..=>False
 | .y7 cs|.agg cs|.yO cs=>ze cs
 | .xj _ xs=>yE xs
 | .fn _ a b=>ze a∧ze b
 | .ifc _ d=>Pure d
def ze:List D→Prop
 | []=>True
 | d::r=>Pure d∧ze r
def yE:List (List D)→Prop
 | []=>True
 | d::r=>ze d∧yE r
end
end
section
open Go.RowKit
def Jy (G:Nat→Option zf) (wr:List Nat) (H2:List zf):Nat→Option zf:=λid=>if id∈wr then H2[id]? else G id
theorem VJ (G:Nat→Option zf) (H2:List zf):Jy G [] H2=G:=by funext id;simp[Jy]
structure OpS (P:Program) (o:Oper) (env:Env) (rd wr:List Nat) (H:List zf) (d:D) (H2:List zf):Prop where
 frame:∀id,id ∉ wr→H2[id]? = H[id]?
 len:H.length≤H2.length
 lt:∀id∈wr,id<H2.length
 run:∀(J:yX) (F:Nat→Prop) (w:World) (a:Act) (G:Nat→Option zf),yZ J F w G→(∀x∈o.op.operands,rep J F w (xi env x) (a.eval x)) →
  (∀id,id∈rd∨id∈wr→G id=H[id]?)→(∀id,H.length≤id→id∈wr→J id=none) →
  ∀(K:Act→World→Prop) (Q:Exit→Act→World→Prop),
   (∀v w' J' F',rep J' F' w' d v→yZ J' F' w' (Jy G wr H2)→Ext J F w J' F' w'→(∀id,J id=none→id ∉ wr→J' id=none)→K (a.put o.dst v) w')→o.wp P a w K Q
theorem OpS.value {P:Program} {o:Oper} {env:Env} {rd:List Nat} {H:List zf} {d:D}
  (h:∀(J:yX) (F:Nat→Prop) (w:World) (a:Act) (G:Nat→Option zf),yZ J F w G→(∀x∈o.op.operands,rep J F w (xi env x) (a.eval x)) →
   (∀id∈rd,G id=H[id]?)→∃v,(execOp a.eval o).run P w=.ok (.value v) w∧rep J F w d v):OpS P o env rd [] H d H where
 frame _ _:=rfl
 len:=Nat.le_refl _
 lt _ h:=by cases h
 run J F w a G hok hops hrd _ K Q hK:=by
  obtain⟨v,h1,h2⟩:=h J F w a G hok hops λid hid=>hrd id (.inl hid)
  unfold Oper.wp
  rw[h1,Oper.upon_value]
  exact hK v w J F h2 (by rw[VJ];exact hok) (Ext.refl _ _ _) λ_ h _=>h
theorem Yu (t:Nat) (K:D→Prop):∀env,V7 t K env=K (xU t env)
 | []=>rfl
 | (k,d)::r=>by
  simp only[V7,xU]
  cases Nat.beq t k
  ·exact Yu t K r
  ·rfl
theorem zh3:∀(l:List Value) (K:List D→Prop),scK l K=K (l.map .sc)
 | [],K=>rfl
 | v::r,K=>by simp only[scK,zh3 r,List.map_cons]
theorem yN (env:Env) (x:Operand) (K:D→Prop):Zw env x K=K (xi env x):=by
 cases x with
 | tmp t=>exact Yu t K env
 | const v=>cases v<;>first|rfl|simp only[Zw,xi,lift,zh3]
 | global g=>rfl
 | func f=>rfl
theorem zcU (env:Env):∀(xs:List Operand) (K:List D→Prop),zk2 env xs K=K (xs.map (xi env))
 | [],K=>rfl
 | x::r,K=>by simp only[zk2,yN,zcU env r,List.map_cons]
theorem Yl:∀(cs:List D) (n:Nat) (K:D→Prop),atK cs n K↔∃c,cs[n]? = some c∧K c
 | [],n,K=>by simp[atK]
 | c::r,0,K=>by simp[atK]
 | c::r,n+1,K=>by simp only[atK,List.getElem?_cons_succ];exact Yl r n K
theorem Z2:∀(cs:List D) (n:Nat) (K:List D→Prop),Uy cs n K↔n≤cs.length∧K (cs.take n)
 | cs,0,K=>by simp[Uy]
 | [],n+1,K=>by simp[Uy]
 | c::r,n+1,K=>by simp only[Uy,Z2 r n,List.length_cons,List.take_succ_cons,Nat.add_le_add_iff_right]
theorem Z3:∀(cs:List D) (n:Nat) (K:List D→Prop),W8 cs n K↔n≤cs.length∧K (cs.drop n)
 | cs,0,K=>by cases cs<;>simp[W8]
 | [],n+1,K=>by simp[W8]
 | c::r,n+1,K=>by simp only[W8,Z3 r n,List.length_cons,List.drop_succ_cons,Nat.add_le_add_iff_right]
theorem yM:∀(H:List zf) (n:Nat) (K:zf→Prop),vE H n K↔∃c,H[n]? = some c∧K c
 | [],n,K=>by simp[vE]
 | c::r,0,K=>by simp[vE]
 | c::r,n+1,K=>by simp only[vE,List.getElem?_cons_succ];exact yM r n K
theorem uk:∀(H:List zf) (n:Nat) (o:zf) (K:List zf→Prop),XN H n o K↔n<H.length∧K (H.set n o)
 | [],n,o,K=>by simp[XN]
 | c::r,0,o,K=>by simp[XN]
 | c::r,n+1,o,K=>by simp only[XN,uk r n,List.length_cons,List.set_cons_succ,Nat.add_lt_add_iff_right]
theorem vY:∀(H:List zf) (o:zf) (K:List zf→Nat→Prop),YQ H o K↔K (H++[o]) H.length
 | [],o,K=>by simp[YQ]
 | c::r,o,K=>by simp only[YQ,vY r,List.length_cons,List.cons_append]
theorem Vf:∀(r:List D) (n:Nat) (cs:List D) (K:List D→Prop),zbb r n cs K↔n+cs.length≤r.length∧K (r.take n++cs++r.drop (n+cs.length))
 | [],0,[],K=>by simp[zbb]
 | [],0,c::cs,K=>by simp[zbb]
 | [],n+1,cs,K=>by simp[zbb]
 | x::r,0,[],K=>by simp[zbb]
 | x::r,0,c::cs,K=>by
  simp only[zbb,Vf r 0 cs,List.length_cons,List.take_zero,List.nil_append,Nat.zero_add,List.cons_append,List.drop_succ_cons,Nat.add_le_add_iff_right]
 | x::r,n+1,cs,K=>by
  simp only[zbb,Vf r n cs,List.length_cons,List.take_succ_cons,List.cons_append]
  rw[show n+1+cs.length=n+cs.length+1 by omega,List.drop_succ_cons,Nat.add_le_add_iff_right]
theorem wg (a b:Nat) (A:Prop):YY a b A↔a=b∧A:=by
 unfold YY
 cases e:Nat.beq a b
 ·simp only[false_iff,not_and];intro h;subst h;simp at e
 ·simp[Nat.eq_of_beq_eq_true e]
def D.cells:D→List D
 | .agg cs=>cs
 | d=>[d]
def storable (d:D):Bool:=match d with
 | .agg cs=>zbm cs
 | d=>QG d
theorem Vp (d:D) (K:List D→Prop):zbh d K↔storable d=true∧K d.cells:=by
 cases d<;>simp only[zbh,storable,D.cells]
 all_goals
  first
  | (generalize e:zbm _=b;cases b<;>simp)
  | (generalize e:QG _=b;cases b<;>simp)
section
variable {J:yX} {F:Nat→Prop} {w:World}
theorem zc1:∀(cs:List D),zbm cs=true→∀c∈cs,QG c=true
 | [],_,c,h=>by cases h
 | c::r,h,d,hd=>by
  simp only[zbm] at h
  cases e:QG c with
  | false=>rw[e] at h;cases h
  | true =>
   rw[e] at h
   rcases List.mem_cons.1 hd with rfl|hd
   ·exact e
   ·exact zc1 r h d hd
theorem zeJ {c:D} {v:Value} (h:QG c=true) (k:rep J F w c v):yx v=true:=by
 cases c<;>simp only[rep] at k
 case sc u=>subst k;cases v<;>first|rfl|simp[QG] at h
 case loc=>obtain⟨_,_,_,_,_,rfl⟩:=k;rfl
 case y7=>obtain⟨_,_,rfl,_⟩:=k;rfl
 case xj=>obtain⟨_,_,_,rfl,_⟩:=k;rfl
 case fn=>obtain⟨_,_,rfl,_⟩:=k;rfl
 case ifc=>obtain⟨_,rfl,_⟩:=k;rfl
 case elt=>obtain⟨_,_,_,rfl,_⟩:=k;rfl
 case own=>obtain⟨_,_,_,_,_,rfl,_⟩:=k;rfl
 case mp=>obtain⟨_,_,_,_,_,rfl⟩:=k;rfl
 case gv=>exact k.2.2
 all_goals simp[QG] at h
end
theorem qR (k:IntKind) (z:Int) (K:D→Prop) (h:Us k z K):K (.sc (.int k (k.wrap z))):=by
 rcases h with⟨h1,h2⟩|h
 ·unfold InR at h1;rw[h1];exact h2
 ·exact h _ rfl
theorem yn (P:Program) (w:World) (op:BinOp) (t:TypeId) (x y:Operand) (k k':IntKind) (a b:Int):(eqGuard op t x y (.int k a) (.int k' b)).run P w=.ok () w:=by
 cases op<;>simp[eqGuard,pure,Sem.run]
theorem Xw (P:Program) (w:World) (op:BinOp) (t:TypeId) (x y:Operand) (a b:ByteArray):(eqGuard op t x y (.string a) (.string b)).run P w=.ok () w:=by
 cases op<;>simp[eqGuard,pure,Sem.run]
theorem Vn (P:Program) (w:World) (op:BinOp) (t:TypeId) (x y:Operand) (a b:Bool):(eqGuard op t x y (.bool a) (.bool b)).run P w=.ok () w:=by
 cases op<;>simp[eqGuard,pure,Sem.run]
theorem zeC {k k':IntKind} (h:Nat.beq (zbv k) (zbv k')=true):k=k':=by
 cases k<;>cases k'<;>first|rfl|cases h
theorem zkX (op:BinOp) (dx dy:D) (K:D→Prop) (h:zyR op dx dy K) :
  ∃u v r,dx=.sc u∧dy=.sc v∧K (.sc r)∧∀(P:Program) (w:World) (t:TypeId) (x y:Operand),((do eqGuard op t x y u v;binOp op t u v:Sem Value)).run P w=.ok r w:=by
 unfold zyR at h
 split at h
 ·rename_i k a k' b
  split at h
  ·obtain⟨h0,h⟩:=h
   refine⟨_,_,_,rfl,rfl,qR _ _ _ h,λP w t x y=>?_⟩
   simp[yn,binOp,Op.shift,show ¬b<0 by omega,pure,Sem.run]
  ·obtain⟨h0,h⟩:=h
   refine⟨_,_,_,rfl,rfl,h,λP w t x y=>?_⟩
   simp[yn,binOp,Op.shift,show ¬b<0 by omega,pure,Sem.run]
  ·rename_i hn1 hn2
   split at h
   ·exact h.elim
   ·rename_i hk
    have hk:=zeC hk
    subst hk
    cases op<;>simp only at h
    all_goals try exact h.elim
    case add=>exact⟨_,_,_,rfl,rfl,qR _ _ _ h,λP w t x y=>by simp[yn,binOp,Op.intArith,pure,Sem.run]⟩
    case sub=>exact⟨_,_,_,rfl,rfl,qR _ _ _ h,λP w t x y=>by simp[yn,binOp,Op.intArith,pure,Sem.run]⟩
    case mul=>exact⟨_,_,_,rfl,rfl,qR _ _ _ h,λP w t x y=>by simp[yn,binOp,Op.intArith,pure,Sem.run]⟩
    case quo=>exact⟨_,_,_,rfl,rfl,qR _ _ _ h.2,λP w t x y=>by simp[yn,binOp,Op.intDiv,pure,Sem.run,h.1]⟩
    case rem=>exact⟨_,_,_,rfl,rfl,h.2,λP w t x y=>by simp[yn,binOp,Op.intDiv,pure,Sem.run,h.1]⟩
    case eql=>exact⟨_,_,_,rfl,rfl,h,λP w t x y=>by simp[yn,binOp,Op.intCmp,pure,Sem.run]⟩
    case neq=>exact⟨_,_,_,rfl,rfl,h,λP w t x y=>by simp[yn,binOp,Op.intCmp,pure,Sem.run]⟩
    case lss=>exact⟨_,_,_,rfl,rfl,h,λP w t x y=>by simp[yn,binOp,Op.intCmp,pure,Sem.run]⟩
    case leq=>exact⟨_,_,_,rfl,rfl,h,λP w t x y=>by simp[yn,binOp,Op.intCmp,pure,Sem.run]⟩
    case gtr=>exact⟨_,_,_,rfl,rfl,h,λP w t x y=>by simp[yn,binOp,Op.intCmp,pure,Sem.run]⟩
    case geq=>exact⟨_,_,_,rfl,rfl,h,λP w t x y=>by simp[yn,binOp,Op.intCmp,pure,Sem.run]⟩
    case and=>exact⟨_,_,_,rfl,rfl,h,λP w t x y=>by simp[yn,binOp,Op.intBits,pure,Sem.run,vd]⟩
    case or=>exact⟨_,_,_,rfl,rfl,h,λP w t x y=>by simp[yn,binOp,Op.intBits,pure,Sem.run,vd]⟩
    case xor=>exact⟨_,_,_,rfl,rfl,h,λP w t x y=>by simp[yn,binOp,Op.intBits,pure,Sem.run,vd]⟩
    case andNot=>exact⟨_,_,_,rfl,rfl,h,λP w t x y=>by simp[yn,binOp,Op.intBits,pure,Sem.run,vd]⟩
 ·rename_i a b
  cases op<;>simp only at h
  all_goals try exact h.elim
  case add=>exact⟨_,_,_,rfl,rfl,h.2,λP w t x y=>by
   have h1:=h.1
   have h2:(a.size:Int)+(b.size:Int)≤9223372036854775807:=by omega
   simp[Xw,binOp,Op.stringOp,pure,Sem.run,h2]⟩
  all_goals exact⟨_,_,_,rfl,rfl,h,λP w t x y=>by simp[Xw,binOp,Op.stringOp,pure,Sem.run]⟩
 ·exact h.elim
section
variable {P:Program} {seq:Bool} {o:Oper} {env:Env} {H:List zf} {K:Jk}
def Sound (P:Program) (o:Oper) (env:Env) (H:List zf) (K:Jk):Prop:=∃d H2 rd wr,OpS P o env rd wr H d H2∧K d H2 rd wr
theorem zJ {d:D} {rd:List Nat} (hK:K d H rd [])
  (h:∀(J:yX) (F:Nat→Prop) (w:World) (a:Act) (G:Nat→Option zf),yZ J F w G→(∀x∈o.op.operands,rep J F w (xi env x) (a.eval x)) →
   (∀id∈rd,G id=H[id]?)→∃v,(execOp a.eval o).run P w=.ok (.value v) w∧rep J F w d v):Sound P o env H K:=⟨d,H,rd,[],OpS.value h,hK⟩
theorem zrD {x:Operand} (ho:o.op=.move x∨o.op=.assign x) (h:step P seq (.move x) env H K):Sound P o env H K:=by
 simp only[step,yN] at h
 refine zJ h λJ F w a G _ hops _=>⟨a.eval x,?_,?_⟩
 ·rcases ho with e|e<;>simp[execOp,e,pure,Sem.run]
 ·rcases ho with e|e<;>exact hops x (by simp[e,Op.operands])
theorem zsn {A B:Prop}:ifK true A B=A:=rfl
theorem znT {A B:Prop}:ifK false A B=B:=rfl
theorem zxk {c x y:Operand} (ho:o.op=.pick c x y) (h:step P seq (.pick c x y) env H K):Sound P o env H K:=by
 simp only[step,yN] at h
 cases hc:xi env c with
 | sc u =>
  cases u with
  | bool t =>
   rw[hc] at h
   cases t with
   | true =>
    simp only[zsn] at h
    refine zJ h λJ F w a G _ hops _=>⟨a.eval x,?_,hops x (by simp[ho,Op.operands])⟩
    have h1:=hops c (by simp[ho,Op.operands])
    rw[hc] at h1
    simp only[rep] at h1
    simp[execOp,ho,pure,Sem.run,h1,asBool]
   | false =>
    simp only[znT] at h
    refine zJ h λJ F w a G _ hops _=>⟨a.eval y,?_,hops y (by simp[ho,Op.operands])⟩
    have h1:=hops c (by simp[ho,Op.operands])
    rw[hc] at h1
    simp only[rep] at h1
    simp[execOp,ho,pure,Sem.run,h1,asBool]
  | _=>rw[hc] at h;exact h.elim
 | _=>rw[hc] at h;exact h.elim
theorem zq5 {x:Operand} (ho:o.op=.nilCheck x) (h:step P seq (.zn x) env H K):Sound P o env H K:=by
 simp only[step,yN] at h
 have key:∀v,(∃a,v=Value.pointer (some a))∨(∃f us vs,v=.func (.func f) us vs)→∀(w:World) (ρ:Operand→Value),ρ x=v→(execOp ρ o).run P w=.ok (.value v) w:=by
  rintro v (⟨a,rfl⟩|⟨f,us,vs,rfl⟩) w ρ e<;>simp[execOp,ho,e,pure,Sem.run]
 cases hx:xi env x with
 | loc id off =>
  rw[hx] at h
  refine zJ h λJ F w a G _ hops _=>?_
  have h1:=hops x (by simp[ho,Op.operands])
  rw[hx] at h1
  refine⟨_,key _ (.inl ?_) w _ rfl,h1⟩
  simp only[rep] at h1
  obtain⟨_,_,_,_,_,e⟩:=h1
  exact⟨_,e⟩
 | elt id zY i off =>
  rw[hx] at h
  refine zJ h λJ F w a G _ hops _=>?_
  have h1:=hops x (by simp[ho,Op.operands])
  rw[hx] at h1
  refine⟨_,key _ (.inl ?_) w _ rfl,h1⟩
  simp only[rep] at h1
  obtain⟨_,_,_,e,_⟩:=h1
  exact⟨_,e⟩
 | y7 cs =>
  rw[hx] at h
  refine zJ h λJ F w a G _ hops _=>?_
  have h1:=hops x (by simp[ho,Op.operands])
  rw[hx] at h1
  refine⟨_,key _ (.inl ?_) w _ rfl,h1⟩
  simp only[rep] at h1
  obtain⟨_,_,e,_⟩:=h1
  exact⟨_,e⟩
 | fn f first cap =>
  rw[hx] at h
  cases f with
  | func f =>
   refine zJ h λJ F w a G _ hops _=>?_
   have h1:=hops x (by simp[ho,Op.operands])
   rw[hx] at h1
   refine⟨_,key _ (.inr ?_) w _ rfl,h1⟩
   simp only[rep] at h1
   obtain⟨_,_,e,_⟩:=h1
   exact⟨_,_,_,e⟩
  | _=>exact h.elim
 | _=>rw[hx] at h;exact h.elim
theorem zBf {op:BinOp} {t yt:TypeId} {x y:Operand} (ho:o.op=.binOp op t x y yt) (h:step P seq (.bin op x y) env H K):Sound P o env H K:=by
 simp only[step,yN] at h
 obtain⟨u,v,r,h1,h2,h3,h4⟩:=zkX _ _ _ _ h
 refine zJ h3 λJ F w a G _ hops _=>⟨r,?_,by simp only[rep]⟩
 have k1:=hops x (by simp[ho,Op.operands])
 have k2:=hops y (by simp[ho,Op.operands])
 rw[h1] at k1;rw[h2] at k2
 simp only[rep] at k1 k2
 simp only[execOp,ho,k1,k2]
 have:=h4 P w t x y
 simp only[Sem.run_bind] at this ⊢
 rw[this]
 rfl
theorem run_equal_bool {t:TypeId} (ht:P.underlying t=some .bool) (a b:Bool) (w:World):(Op.equal t (.bool a) (.bool b)).run P w=.ok (a==b) w:=by
 unfold Op.equal
 rw[show Op.maxDepth=9999+1 from rfl]
 unfold Op.equalIn
 simp[underlying,program,Sem.run,ht,pure]
theorem zwy {neq:Bool} {op:BinOp} {t yt:TypeId} {x y:Operand} (hop:op=if neq then .neq else .eql) (ht:P.underlying t=some .bool) (ho:o.op=.binOp op t x y yt) (h:step P seq (.eqb neq x y) env H K):Sound P o env H K:=by
 simp only[step,yN] at h
 unfold eqbK at h
 split at h
 ·rename_i u v e1 e2
  cases neq with
  | false =>
   simp only[Bool.false_eq_true,if_false] at hop
   refine zJ h λJ F w a G _ hops _=>⟨_,?_,rfl⟩
   have k1:=hops x (by simp[ho,Op.operands])
   have k2:=hops y (by simp[ho,Op.operands])
   rw[e1] at k1;rw[e2] at k2
   simp only[rep] at k1 k2
   simp[execOp,ho,k1,k2,hop,Vn,binOp,run_equal_bool ht,Sem.run,pure]
  | true =>
   simp only[if_true] at hop
   refine zJ h λJ F w a G _ hops _=>⟨_,?_,rfl⟩
   have k1:=hops x (by simp[ho,Op.operands])
   have k2:=hops y (by simp[ho,Op.operands])
   rw[e1] at k1;rw[e2] at k2
   simp only[rep] at k1 k2
   simp[execOp,ho,k1,k2,hop,Vn,binOp,run_equal_bool ht,Sem.run,pure]
 ·exact h.elim
theorem zaH {c:Nat} {x y:D} {K:Bool→Prop} (h:zlr c x y K) :
  ∃u v b,x=.sc u∧y=.sc v∧K b∧∀(P:Program) (t:TypeId),zbL P t=some c→(∀(us:Array Value) (i:Nat) (w:World) (z:Value),us[i]? = some z→(part t us i).run P w=.ok z w)∧∀d w,(Op.equalIn (d+1) t u v).run P w=.ok b w:=by
 unfold zlr at h
 split at h
 ·rename_i k a k' b
  obtain⟨e1,h2⟩:=(wg _ _ _).1 h
  have e1:k=k':=zeC (by rw[e1];exact Nat.beq_refl _)
  subst e1
  refine⟨_,_,_,rfl,rfl,h2,λP t ht=>?_⟩
  unfold zbL at ht
  split at ht<;>try (cases ht;done)
  rename_i k0 e
  exact⟨λus i w z hz=>by simp[part,isAgg,run_underlying e,hz],λd w=>run_equalIn_int w d t k k0 a b e⟩
 ·refine⟨_,_,_,rfl,rfl,h,λP t ht=>?_⟩
  unfold zbL at ht
  split at ht<;>try (cases ht;done)
  rename_i e
  exact⟨λus i w z hz=>by simp[part,isAgg,run_underlying e,hz],λd w=>run_equalIn_bool' w d t _ _ e⟩
 ·refine⟨_,_,_,rfl,rfl,h,λP t ht=>?_⟩
  unfold zbL at ht
  split at ht<;>try (cases ht;done)
  rename_i e
  exact⟨λus i w z hz=>by simp[part,isAgg,run_underlying e,hz],λd w=>run_equalIn_string w d t _ _ e⟩
 ·exact h.elim
theorem zes:∀{ks:List Nat} {xs ys:List D} {K:Bool→Prop},zjt ks xs ys K→∃b,K b ∧
  ∀(P:Program) (us vs:Array Value) (J:yX) (F:Nat→Prop) (w0:World) (fs:List Field) (i:Nat),zdp P i fs=some ks →
   yf J F w0 xs (us.toList.drop i)→yf J F w0 ys (vs.toList.drop i)→∀d w,(Op.eqFields (d+1) us vs fs).run P w=.ok b w
 | [],xs,ys,K,h=>by
  cases xs<;>cases ys<;>simp only[zjt] at h
  refine⟨_,h,λP us vs J F w0 fs i hf _ _ d w=>?_⟩
  cases fs with
  | nil=>simp[Op.eqFields,Sem.run,pure]
  | cons f r =>
   simp only[zdp] at hf
   repeat' (split at hf)
   all_goals cases hf
 | c::cs,xs,ys,K,h=>by
  cases xs<;>cases ys<;>simp only[zjt] at h
  rename_i x xs y ys
  obtain⟨u,v,b,rfl,rfl,h,hP⟩:=zaH h
  obtain⟨q,hq,hR⟩:=zes h
  refine⟨_,hq,λP us vs J F w0 fs i hf h1 h2 d w=>?_⟩
  cases fs with
  | nil=>cases hf
  | cons f r =>
   simp only[zdp] at hf
   split at hf
   ·rename_i hc
    split at hf
    ·rename_i c' cs' e1 e2
     cases hf
     obtain⟨hp,he⟩:=hP P f.type e1
     simp only[yf,rep] at h1 h2
     obtain⟨u',us',g1,rfl,g2⟩:=h1
     obtain⟨v',vs',g3,rfl,g4⟩:=h2
     have k1:us[i]? = some u':=by
      have:=congrArg (λl=>l[0]?) g1
      simpa using this
     have k2:vs[i]? = some v':=by
      have:=congrArg (λl=>l[0]?) g3
      simpa using this
     have k3:us.toList.drop (i+1)=us':=by
      have:=congrArg List.tail g1
      simpa [List.tail_drop] using this
     have k4:vs.toList.drop (i+1)=vs':=by
      have:=congrArg List.tail g3
      simpa [List.tail_drop] using this
     have hr:=hR P us vs J F w0 r (i+1) e2 (k3▸g2) (k4▸g4) d
     have p1:=hp us i w u' k1
     have p2:=hp vs i w v' k2
     simp only[Op.eqFields,if_pos hc.1,hc.2,Sem.run_bind,p1,p2,Result.andThen_ok,he d w,Sem.run_ite]
     cases b
     ·simp[Sem.run,pure]
     ·simp[hr w]
    ·cases hf
   ·cases hf
theorem zeS {c:Nat}:∀{n:Nat} {xs ys:List D} {K:Bool→Prop},zjt (List.replicate n c) xs ys K→∃b,K b ∧
  ∀(P:Program) (us vs:Array Value) (J:yX) (F:Nat→Prop) (w0:World) (e:TypeId) (i:Nat),zbL P e=some c →
   yf J F w0 xs (us.toList.drop i)→yf J F w0 ys (vs.toList.drop i)→∀d w,(Op.eqItems (d+1) e 1 us vs (List.range' i n)).run P w=.ok b w
 | 0,xs,ys,K,h=>by
  cases xs<;>cases ys<;>simp only[List.replicate,zjt] at h
  exact⟨_,h,λP us vs J F w0 e i hf _ _ d w=>by simp[Op.eqItems,Sem.run,pure]⟩
 | n+1,xs,ys,K,h=>by
  cases xs<;>cases ys<;>simp only[List.replicate,zjt] at h
  rename_i x xs y ys
  obtain⟨u,v,b,rfl,rfl,h,hP⟩:=zaH h
  obtain⟨q,hq,hR⟩:=zeS h
  refine⟨_,hq,λP us vs J F w0 e i hf h1 h2 d w=>?_⟩
  obtain⟨hp,he⟩:=hP P e hf
  simp only[yf,rep] at h1 h2
  obtain⟨u',us',g1,rfl,g2⟩:=h1
  obtain⟨v',vs',g3,rfl,g4⟩:=h2
  have k1:us[i]? = some u':=by
   have:=congrArg (λl=>l[0]?) g1
   simpa using this
  have k2:vs[i]? = some v':=by
   have:=congrArg (λl=>l[0]?) g3
   simpa using this
  have k3:us.toList.drop (i+1)=us':=by
   have:=congrArg List.tail g1
   simpa [List.tail_drop] using this
  have k4:vs.toList.drop (i+1)=vs':=by
   have:=congrArg List.tail g3
   simpa [List.tail_drop] using this
  have hr:=hR P us vs J F w0 e (i+1) hf (k3▸g2) (k4▸g4) d
  have p1:=hp us i w u' k1
  have p2:=hp vs i w v' k2
  simp only[List.range'_succ,Op.eqItems,Nat.mul_one,Sem.run_bind,p1,p2,Result.andThen_ok,he d w,Sem.run_ite]
  cases b
  ·simp[Sem.run,pure]
  ·simp[hr w]
theorem zwj {neq:Bool} {op:BinOp} {t yt:TypeId} {x y:Operand} {ks:List Nat} (hop:op=if neq then .neq else .eql) (ht:zhK P t=some ks) (ho:o.op=.binOp op t x y yt) (h:step P seq (.eqa neq ks x y) env H K):Sound P o env H K:=by
 simp only[step,yN] at h
 unfold zhK at ht
 split at ht
 ·rename_i fs hu
  split at ht
  ·rename_i hg
   unfold zw2 at h
   split at h
   ·rename_i xs ys e1 e2
    have hfs:P.fieldsOf t=fs:=by simp[Program.fieldsOf,hu]
    obtain⟨b,hK,hr⟩:=zes h
    refine zJ hK λJ F w a G _ hops _=>?_
    have k1:=hops x (by simp[ho,Op.operands])
    have k2:=hops y (by simp[ho,Op.operands])
    rw[e1] at k1;rw[e2] at k2
    simp only[rep] at k1 k2
    obtain⟨us,k1,r1⟩:=k1
    obtain⟨vs,k2,r2⟩:=k2
    have hrun:=hr P us.toArray vs.toArray J F w fs.toList 0 ht (by simpa using r1) (by simpa using r2) 9998 w
    have heq:(Op.equalIn 10000 t (.agg us.toArray) (.agg vs.toArray)).run P w=.ok b w:=by
     rw[show(10000:Nat)=9999+1 from rfl,run_equalIn_struct w 9999 t _ _ (by rw[hfs];exact hu) hg.1,hfs]
     exact hrun
    cases neq with
    | false =>
     simp only[Bool.false_eq_true,if_false] at hop
     exact⟨_,by simp[execOp,ho,k1,k2,hop,run_eqGuard_agg w _ t x y _ _ hg.2,run_eql_struct,heq,Sem.run,pure,J5],rfl⟩
    | true =>
     simp only[if_true] at hop
     exact⟨_,by simp[execOp,ho,k1,k2,hop,run_eqGuard_agg w _ t x y _ _ hg.2,run_neq_struct,heq,Sem.run,pure,J5],rfl⟩
   ·exact h.elim
  ·cases ht
 ·rename_i n e hu
  split at ht
  ·rename_i hg
   cases hfc:zbL P e with
   | none=>rw[hfc] at ht;cases ht
   | some c =>
    rw[hfc] at ht
    cases ht
    obtain⟨inf,hi⟩:=Option.isSome_iff_exists.1 hg.2.2
    unfold zw2 at h
    split at h
    ·rename_i xs ys e1 e2
     obtain⟨b,hK,hr⟩:=zeS h
     refine zJ hK λJ F w a G _ hops _=>?_
     have k1:=hops x (by simp[ho,Op.operands])
     have k2:=hops y (by simp[ho,Op.operands])
     rw[e1] at k1;rw[e2] at k2
     simp only[rep] at k1 k2
     obtain⟨us,k1,r1⟩:=k1
     obtain⟨vs,k2,r2⟩:=k2
     have hrun:=hr P us.toArray vs.toArray J F w e 0 hfc (by simpa using r1) (by simpa using r2) 9998 w
     have heq:(Op.equalIn 10000 t (.agg us.toArray) (.agg vs.toArray)).run P w=.ok b w:=by
      rw[show(10000:Nat)=9999+1 from rfl,run_equalIn_array w 9999 _ _ hu hi,hg.2.1,List.range_eq_range']
      exact hrun
     cases neq with
     | false =>
      simp only[Bool.false_eq_true,if_false] at hop
      exact⟨_,by simp[execOp,ho,k1,k2,hop,run_eqGuard_agg w _ t x y _ _ hg.1,run_eql_struct,heq,Sem.run,pure,J5],rfl⟩
     | true =>
      simp only[if_true] at hop
      exact⟨_,by simp[execOp,ho,k1,k2,hop,run_eqGuard_agg w _ t x y _ _ hg.1,run_neq_struct,heq,Sem.run,pure,J5],rfl⟩
    ·exact h.elim
  ·cases ht
 ·cases ht
theorem s_un {op:UnOp} {t:TypeId} {x:Operand} (ho:o.op=.unOp op t x) (h:step P seq (.un op x) env H K):Sound P o env H K:=by
 simp only[step,yN] at h
 unfold unK at h
 split at h
 ·rename_i b e
  refine zJ h λJ F w a G _ hops _=>⟨_,?_,rfl⟩
  have k1:=hops x (by simp[ho,Op.operands])
  rw[e] at k1
  simp only[rep] at k1
  simp[execOp,ho,k1,Op.unary,Sem.run,pure]
 ·rename_i k n e
  refine zJ (qR _ _ _ h) λJ F w a G _ hops _=>⟨_,?_,rfl⟩
  have k1:=hops x (by simp[ho,Op.operands])
  rw[e] at k1
  simp only[rep] at k1
  simp[execOp,ho,k1,Op.unary,Op.intArith,Sem.run,pure]
 ·exact h.elim
theorem zBH {i:Nat} {x:Operand} (ho:o.op=.extract x i) (h:step P seq (.ext i x) env H K):Sound P o env H K:=by
 simp only[step,yN] at h
 split at h
 ·rename_i cs e
  obtain⟨c,h1,h2⟩:=(Yl _ _ _).1 h
  refine zJ h2 λJ F w a G _ hops _=>?_
  have k1:=hops x (by simp[ho,Op.operands])
  rw[e] at k1
  simp only[rep] at k1
  obtain⟨vs,k2,k3⟩:=k1
  obtain⟨v,k4,k5⟩:=vI _ _ _ _ h1 k3
  refine⟨v,?_,k5⟩
  simp[execOp,ho,k2,Instr.extract,k4,Sem.run,pure]
 ·exact h.elim
theorem zz4 {f:Fn} {first cap:Array Operand} (ho:o.op=.makeFunc f first cap) (h:step P seq (.qj f first.toList cap.toList) env H K):Sound P o env H K:=by
 simp only[step,zcU] at h
 refine zJ h λJ F w a G _ hops _=>⟨.func f (first.map a.eval) (cap.map a.eval),?_,?_⟩
 ·simp[execOp,ho,Instr.makeFunc,Sem.run,pure]
 ·simp only[rep]
  refine⟨first.toList.map a.eval,cap.toList.map a.eval,?_,?_,?_⟩
  ·congr 1<;>(apply Array.ext' ;simp)
  ·refine zaF _ _ (by simp) λj d v hd hv=>?_
   rw[List.getElem?_map] at hd hv
   cases e:first.toList[j]? with
   | none=>rw[e] at hd;cases hd
   | some x =>
    rw[e] at hd hv
    simp only[Option.map_some,Option.some.injEq] at hd hv
    subst hd;subst hv
    exact hops x (by simp[ho,Op.operands];exact .inl (by simpa using List.mem_of_getElem? e))
  ·refine zaF _ _ (by simp) λj d v hd hv=>?_
   rw[List.getElem?_map] at hd hv
   cases e:cap.toList[j]? with
   | none=>rw[e] at hd;cases hd
   | some x =>
    rw[e] at hd hv
    simp only[Option.map_some,Option.some.injEq] at hd hv
    subst hd;subst hv
    exact hops x (by simp[ho,Op.operands];exact .inr (by simpa using List.mem_of_getElem? e))
theorem zxR {t:TypeId} {x:Operand} (hc:∀ms,P.underlying t≠some (.interface ms)) (hu:P.underlying t≠none) (ho:o.op=.makeInterface t x) (h:step P seq (.zy9 t x) env H K):Sound P o env H K:=by
 simp only[step,yN] at h
 refine zJ h λJ F w a G _ hops _=>⟨.iface t (a.eval x),?_,?_⟩
 ·cases e:P.underlying t with
  | none=>exact absurd e hu
  | some d =>
   cases d<;>first|exact absurd e (hc _)|simp[execOp,ho,Instr.makeInterface,Sem.run,pure,underlying,program,e]
 ·simp only[rep]
  exact⟨_,rfl,hops x (by simp[ho,Op.operands])⟩
theorem zzR {args:Array Operand} {ts:Array TypeId} {x:Operand} {t:TypeId} (ha:args.toList=[x]) (hts:ts.toList=[t]) (ht:P.underlying t=some .string) (ho:o.op=.call { callee:=.builtin .len,args,argTypes:=ts }) (h:step P seq (.zhM x) env H K):Sound P o env H K:=by
 have ea:args=#[x]:=Array.ext' (by simpa using ha)
 have et:ts=#[t]:=Array.ext' (by simpa using hts)
 subst ea et
 simp only[step,yN] at h
 split at h
 ·rename_i s e
  refine zJ h λJ F w a G _ hops _=>⟨_,?_,rfl⟩
  have k1:=hops x (by simp[ho,Op.operands,Call.operands])
  rw[e] at k1
  simp only[rep] at k1
  simp[execOp,ho,resolve,invoke,builtin,Builtin.len_,k1,Sem.run,pure,underlying,program,ht,goInt]
 ·exact h.elim
theorem zzP {t:TypeId} {x i:Operand} (ht:P.underlying t=some .string) (ho:o.op=.index t x i) (h:step P seq (.zqr x i) env H K):Sound P o env H K:=by
 simp only[step,yN] at h
 split at h
 ·rename_i s k z e1 e2
  obtain⟨h0,b,hb,h⟩:=h
  refine zJ h λJ F w a G _ hops _=>⟨_,?_,rfl⟩
  have k1:=hops x (by simp[ho,Op.operands])
  have k2:=hops i (by simp[ho,Op.operands])
  rw[e1] at k1;rw[e2] at k2
  simp only[rep] at k1 k2
  simp[execOp,ho,Instr.index,asIntOf,k1,k2,Sem.run,pure,underlying,program,ht,h0,hb]
 ·exact h.elim
end
end
section
open Go.RowKit
theorem uy (b o n:Nat):(⟨b,o,none⟩:Addr).add n=⟨b,o+n,none⟩:=by
 unfold Addr.add
 split
 ·rename_i h;subst h;rfl
 ·rfl
section
variable {J:yX} {F:Nat→Prop} {w:World}
theorem WB {b:Nat} {cs:List D} {o:Nat} (h:zS J F w b cs o) (off n:Nat):zS J F w b ((cs.drop off).take n) (o+off):=by
 refine xw _ _ λj c hc=>?_
 have h1:cs[off+j]? = some c:=by
  rw[List.getElem?_take] at hc
  split at hc
  ·rwa [List.getElem?_drop] at hc
  ·cases hc
 have:=xC cs o (off+j) c h1 h
 rwa [show o+(off+j)=o+off+j by omega] at this
theorem qF {b:Nat} {cs:List D} {o:Nat} (h:zS J F w b cs o) (off:Nat):zS J F w b (cs.drop off) (o+off):=by
 have:=WB h off (cs.drop off).length
 rwa [List.take_length] at this
theorem Yh {b:Nat}:∀(cs:List D) (o:Nat),zS J F w b cs o→∃vs:List Value,yf J F w cs vs∧(∀j v,vs[j]? = some v→w.cell? ⟨b,o+j,none⟩=some v)∧∀v∈vs,yx v=true
 | [],o,_=>⟨[],by simp only[yf],(λj v h=>by simp at h),(λv h=>by cases h)⟩
 | c::r,o,h=>by
  simp only[zS] at h
  obtain⟨⟨u,h1,h0,h2⟩,h3⟩:=h
  obtain⟨vs,k1,k2,k3⟩:=Yh r (o+1) h3
  refine⟨u::vs,by simp only[yf];exact⟨u,vs,rfl,h2,k1⟩,λj v hv=>?_,λv hv=>(List.mem_cons.1 hv).elim (λe=>e▸h0) (k3 v)⟩
  cases j with
  | zero=>simp at hv;subst hv;exact h1
  | succ j =>
   have:=k2 j v (by simpa using hv)
   rwa [show o+1+j=o+(j+1) by omega] at this
variable {P:Program}
theorem Xf {t:TypeId} {b:Bool} (h:QB P t=some b):(isAgg t).run P w=.ok b w:=by
 unfold QB at h
 cases e:P.underlying t with
 | none=>rw[e] at h;cases h
 | some d =>
  rw[e] at h
  cases d<;>simp at h<;>subst h<;>simp[isAgg,underlying,program,Sem.run,e,pure]
theorem Ud {t:TypeId} {b:Bool} (h:QB P t=some b):∃i,P.info? t=some i∧i.size=P.cellsOf t:=by
 unfold QB Program.underlying at h
 cases e:P.info? t with
 | none=>rw[e] at h;cases h
 | some i=>exact⟨i,rfl,by simp[Program.cellsOf,e]⟩
theorem xI {t:TypeId} {i:TypeInfo} (h:P.info? t=some i):(sizeOf t).run P w=.ok i.size w:=by
 simp[sizeOf,typeInfo,program,Sem.run,h,pure]
theorem JP {t:TypeId} (h:QB P t=some false) {a:Addr} {u:Value} (hc:w.cell? a=some u):(Instr.loadAt t (.pointer (some a))).run P w=.ok u w:=by
 simp[Instr.loadAt,Instr.sureAddr,loadVar,Xf h,load,Sem.run,hc,pure]
theorem zay {t:TypeId} (h:QB P t=some true) {b o:Nat} {vs:List Value} (hn:vs.length=P.cellsOf t) (hc:∀(j:Nat) (v:Value),vs[j]? = some v→w.cell? ⟨b,o+j,none⟩=some v) :
  (Instr.loadAt t (.pointer (some ⟨b,o,none⟩))).run P w=.ok (.agg vs.toArray) w:=by
 obtain⟨i,h1,h2⟩:=Ud h
 have h3:=run_loadCells_list (P:=P) (w:=w) ⟨b,o,none⟩ vs λj v hv=>by rw[uy];exact hc j v hv
 simp[Instr.loadAt,Instr.sureAddr,loadVar,Xf h,xI h1,h2,←hn,Sem.run,pure,h3]
theorem zr7 {G:Nat→Option zf} (h:yZ J F w G) {id:Nat} {s:Site} {b:Nat} {m:Bool} {cs:List D} (h1:J id=some s) (h2:s.ad=some ⟨b,0,none⟩) (h3:G id=some (.row m cs)):zS J F w b cs 0:=by
 obtain⟨o,k1,k2⟩:=h.obj id s h1
 rw[h3] at k1
 cases k1
 obtain⟨_,_,_,_,_,b',_,_,e,_,_,k,_⟩:=k2
 rw[h2] at e
 cases e
 exact k
theorem QJ {G:Nat→Option zf} (h:yZ J F w G) {id:Nat} {s:Site} {m:Bool} {zY zH:Nat} {xs:List (List D)} (h1:J id=some s) (h3:G id=some (.vec m zY zH xs)) :
  s.row=false∧s.zY=zY∧s.zH=zH∧s.len=xs.length∧s.len≤s.cap∧(s.cap=0∨∃b o vals te,s.ad=some ⟨b,o,none⟩∧w.heap[b]? = some (.cells vals te (0,0))∧o+s.cap*zH≤vals.size∧yk J F w b zH xs o∧(m=false→F b)):=by
 obtain⟨o,k1,k2⟩:=h.obj id s h1
 rw[h3] at k1
 cases k1
 exact k2
end
section
variable {P:Program} {seq:Bool} {o:Oper} {env:Env} {H:List zf} {K:Jk}
def Ux (P:Program) (env:Env) (H:List zf) (d:D) (rd:List Nat) (cs:List D):Prop :=
 ∀(J:yX) (F:Nat→Prop) (w:World) (G:Nat→Option zf) (v:Value),yZ J F w G→(∀id∈rd,G id=H[id]?)→rep J F w d v→∃b o,v=.pointer (some ⟨b,o,none⟩)∧zS J F w b cs o
theorem Jg {id off:Nat} {m:Bool} {cs:List D} (h:H[id]? = some (.row m cs)):Ux P env H (.loc id off) [id] (cs.drop off):=λJ F w G v hok hrd hv=>by
 simp only[rep] at hv
 obtain⟨s,b,h1,h2,h3,rfl⟩:=hv
 have:=qF (zr7 hok h1 h3 (by rw[hrd id (by simp)];exact h)) off
 exact⟨b,off,rfl,by simpa using this⟩
theorem zeE {cs:List D}:Ux P env H (.y7 cs) [] cs:=λJ F w G v hok hrd hv=>by
 simp only[rep] at hv
 obtain⟨b,o,rfl,_,h⟩:=hv
 exact⟨b,o,rfl,h⟩
theorem zdv {id zY i off:Nat} {m:Bool} {zH:Nat} {xs:List (List D)} {row:List D} (h:H[id]? = some (.vec m zY zH xs)) (hr:xs[i]? = some row):Ux P env H (.elt id zY i off) [id] (row.drop off):=λJ F w G v hok hrd hv=>by
 simp only[rep] at hv
 obtain⟨s,a,h1,rfl,h2,h3⟩:=hv
 have hG:G id=some (.vec m zY zH xs):=by rw[hrd id (by simp)];exact h
 obtain⟨k1,k2,k3,k4,k5,k6⟩:=QJ hok h1 hG
 obtain⟨b,o,q1,q2,q3,rfl⟩:=h3 k2.symm
 rcases k6 with k6|⟨b',o',vals,te,e,_,_,k,_⟩
 ·omega
 ·rw[q2] at e
  cases e
  obtain⟨r1,r2⟩:=wM xs o i row hr k
  have:=qF r2 off
  rw[k3]
  exact⟨b,_,rfl,this⟩
theorem zaJ {t:TypeId} {x:Operand} {rd:List Nat} {cs:List D} {c:D} (ht:QB P t=some false) (ho:o.op=.load t x) (hp:Ux P env H (xi env x) rd cs) (hc:cs[0]? = some c) (hK:K c H rd []):Sound P o env H K:=by
 refine zJ hK λJ F w a G hok hops hrd=>?_
 obtain⟨b,o',e,k⟩:=hp J F w G _ hok hrd (hops x (by simp[ho,Op.operands]))
 obtain⟨u,k1,k2⟩:=xC cs o' 0 c hc k
 rw[Nat.add_zero] at k1
 refine⟨u,?_,k2.2⟩
 simp[execOp,ho,e,JP ht k1,Sem.run,pure]
theorem Q1 {t:TypeId} {x:Operand} {rd:List Nat} {cs:List D} (ht:QB P t=some true) (ho:o.op=.load t x) (hp:Ux P env H (xi env x) rd cs) (hn:P.cellsOf t≤cs.length) (hK:K (.agg (cs.take (P.cellsOf t))) H rd []):Sound P o env H K:=by
 refine zJ hK λJ F w a G hok hops hrd=>?_
 obtain⟨b,o',e,k⟩:=hp J F w G _ hok hrd (hops x (by simp[ho,Op.operands]))
 have k1:=WB k 0 (P.cellsOf t)
 simp only[List.drop_zero,Nat.add_zero] at k1
 obtain⟨vs,k2,k3,_⟩:=Yh _ _ k1
 have hl:vs.length=P.cellsOf t:=by rw[xx _ _ k2,List.length_take];omega
 refine⟨.agg vs.toArray,?_,by simp only[rep];exact⟨vs,rfl,k2⟩⟩
 simp[execOp,ho,e,zay ht hl k3,Sem.run,pure]
theorem zvv {t:TypeId} {x:Operand} (ht:QB P t=some false) (ho:o.op=.load t x) (h:step P seq (.zg x) env H K):Sound P o env H K:=by
 simp only[step,yN] at h
 split at h
 ·rename_i id off e
  obtain⟨ob,h1,h2⟩:=(yM _ _ _).1 h
  split at h2
  ·rename_i m cs
   obtain⟨c,h3,h4⟩:=(Yl _ _ _).1 h2
   exact zaJ ht ho (e▸Jg h1) (by rw[List.getElem?_drop];exact h3) h4
  ·exact h2.elim
 ·rename_i cs e
  obtain⟨c,h3,h4⟩:=(Yl _ _ _).1 h
  exact zaJ ht ho (e▸zeE) h3 h4
 ·rename_i id zY i off e
  obtain⟨ob,h1,h2⟩:=(yM _ _ _).1 h
  split at h2
  ·rename_i m ver' zH xs
   obtain⟨rfl,row,h3,h4⟩:=h2
   obtain⟨c,h5,h6⟩:=(Yl _ _ _).1 h4
   exact zaJ ht ho (e▸zdv h1 h3) (by rw[List.getElem?_drop];exact h5) h6
  ·exact h2.elim
 ·exact h.elim
theorem zuT {t:TypeId} {x:Operand} (ht:QB P t=some true) (ho:o.op=.load t x) (h:step P seq (.vw (P.cellsOf t) x) env H K):Sound P o env H K:=by
 simp only[step,yN] at h
 split at h
 ·rename_i id off e
  obtain⟨ob,h1,h2⟩:=(yM _ _ _).1 h
  split at h2
  ·rename_i m cs
   obtain⟨_,h3⟩:=(Z3 _ _ _).1 h2
   obtain⟨h4,h5⟩:=(Z2 _ _ _).1 h3
   exact Q1 ht ho (e▸Jg h1) h4 h5
  ·exact h2.elim
 ·rename_i cs e
  obtain⟨h4,h5⟩:=(Z2 _ _ _).1 h
  exact Q1 ht ho (e▸zeE) h4 h5
 ·rename_i id zY i off e
  obtain⟨ob,h1,h2⟩:=(yM _ _ _).1 h
  split at h2
  ·rename_i m ver' zH xs
   obtain⟨rfl,row,h3,h4⟩:=h2
   obtain⟨_,h5⟩:=(Z3 _ _ _).1 h4
   obtain⟨h6,h7⟩:=(Z2 _ _ _).1 h5
   exact Q1 ht ho (e▸zdv h1 h3) h6 h7
  ·exact h2.elim
 ·exact h.elim
def zbB (d:D) (off:Nat) (K':D→Prop):Prop:=match d with
 | .loc id o=>K' (.loc id (o+off))
 | .elt id zY i o=>K' (.elt id zY i (o+off))
 | .y7 cs=>W8 cs off λr=>K' (.y7 r)
 | _=>False
theorem zmM {d:D} {off:Nat} {K':D→Prop} (h:zbB d off K'):∃d',K' d'∧∀(J:yX) (F:Nat→Prop) (w:World) (v:Value),rep J F w d v→∃a,v=.pointer (some a)∧rep J F w d' (.pointer (some (a.add off))):=by
 unfold zbB at h
 split at h
 ·refine⟨_,h,λJ F w v hv=>?_⟩
  simp only[rep] at hv ⊢
  obtain⟨s,b,h1,h2,h3,rfl⟩:=hv
  exact⟨_,rfl,s,b,h1,h2,h3,by rw[uy]⟩
 ·refine⟨_,h,λJ F w v hv=>?_⟩
  simp only[rep] at hv ⊢
  obtain⟨s,a,h1,rfl,h2,h3⟩:=hv
  refine⟨_,rfl,s,_,h1,rfl,h2,λq=>?_⟩
  obtain⟨b,o,q1,q2,q3,rfl⟩:=h3 q
  exact⟨b,o,q1,q2,q3,by rw[uy,Nat.add_assoc]⟩
 ·rename_i cs
  obtain⟨_,h2⟩:=(Z3 _ _ _).1 h
  refine⟨_,h2,λJ F w v hv=>?_⟩
  simp only[rep] at hv ⊢
  obtain⟨b,o,rfl,hF,k⟩:=hv
  exact⟨_,rfl,b,_,by rw[uy],hF,qF k off⟩
 ·exact h.elim
theorem zuK {s:TypeId} {x:Operand} {f:Nat} {fs:Array Field} {fd:Field} (hs:P.underlying s=some (.struct fs)) (hf:fs[f]? = some fd) (hz:P.cellsOf fd.type≠0) (ho:o.op=.fieldAddr s x f) (h:step P seq (.zz fd.offset x) env H K):Sound P o env H K:=by
 simp only[step,yN] at h
 have h':zbB (xi env x) fd.offset (λd=>K d H [] []):=by
  unfold zbB;split at h<;>simp_all
 obtain⟨d',hK,hr⟩:=zmM h'
 refine zJ hK λJ F w a G hok hops hrd=>?_
 obtain⟨ad,e,k⟩:=hr J F w _ (hops x (by simp[ho,Op.operands]))
 have hi:∃i,P.info? fd.type=some i∧i.size≠0:=by
  unfold Program.cellsOf at hz
  cases e:P.info? fd.type with
  | none=>simp[e] at hz
  | some i=>exact⟨i,rfl,by simpa [e] using hz⟩
 obtain⟨i,hi1,hi2⟩:=hi
 refine⟨_,?_,k⟩
 simp[execOp,ho,e,Instr.fieldAt,Instr.sureAddr,fieldPlace,xI hi1,hi2,underlying,program,Sem.run,hs,hf,pure]
theorem wJ {e:TypeId} (hz:P.cellsOf e≠0):∃i,P.info? e=some i∧i.size=P.cellsOf e:=by
 unfold Program.cellsOf at hz ⊢
 cases e:P.info? e with
 | none=>simp[e] at hz
 | some i=>exact⟨i,rfl,by simp[e]⟩
theorem zvp {t e:TypeId} {x i:Operand} (ht:P.underlying t=some (.slice e)) (hz:P.cellsOf e≠0) (ho:o.op=.indexAddr t x i) (h:step P seq (.zM (P.cellsOf e) x i) env H K):Sound P o env H K:=by
 simp only[step,yN] at h
 obtain⟨ei,hi1,hi2⟩:=wJ hz
 have run:∀(w:World) (a:Act) (k:IntKind) (z:Int) (ad:Addr) (n c:Nat),a.eval x=.slice (some ad) n c→a.eval i=.int k z→0≤z→z<n→(execOp a.eval o).run P w=.ok (.value (.pointer (some (ad.add (z.toNat * P.cellsOf e))))) w:=by
  intro w a k z ad n c h1 h2 h3 h4
  simp[execOp,ho,h1,h2,Instr.indexAt,asIntOf,underlying,program,Sem.run,ht,pure,h3,h4,xI hi1,hi2]
 clear hi1 hi2
 generalize hE:P.cellsOf e=ez0 at h run hz
 split at h
 ·rename_i k z ez
  split at h
  ·rename_i esz' xs ex
   obtain⟨h3,h0,row,h1,h2⟩:=(wg _ _ _).1 h
   refine zJ h2 λJ F w a G hok hops hrd=>?_
   have k1:=hops x (by simp[ho,Op.operands])
   have k2:=hops i (by simp[ho,Op.operands])
   rw[ex] at k1;rw[ez] at k2
   simp only[rep] at k1 k2
   obtain⟨A,n,c,q1,q2,_,q3⟩:=k1
   have hlt:z.toNat<xs.length:=by
    rcases Nat.lt_or_ge z.toNat xs.length with h|h
    ·exact h
    ·rw[List.getElem?_eq_none h] at h1;cases h1
   rcases q3 with q3|⟨b,o',q4,q5,q6⟩
   ·omega
   ·subst q4
    obtain⟨r1,r2⟩:=wM xs o' z.toNat row h1 q6
    refine⟨_,run w a k z _ n c q1 k2 h0 (by omega),?_⟩
    simp only[rep]
    exact⟨b,_,by rw[uy,h3],q5,r2⟩
  ·rename_i id zY lo hi ex
   obtain⟨ob,h1,h2⟩:=(yM _ _ _).1 h
   split at h2
   ·rename_i m ver' zH xs
    obtain⟨rfl,h2⟩:=h2
    obtain⟨h3,h4,h5,h6⟩:=(wg _ _ _).1 h2
    refine zJ h6 λJ F w a G hok hops hrd=>?_
    have k1:=hops x (by simp[ho,Op.operands])
    have k2:=hops i (by simp[ho,Op.operands])
    rw[ex] at k1;rw[ez] at k2
    simp only[rep] at k1 k2
    obtain⟨s,A,n,c,q1,q2,q3,q4⟩:=k1
    have hG:G id=some (.vec m zY zH xs):=by rw[hrd id (by simp)];exact h1
    obtain⟨p1,p2,p3,p4,p5,-⟩:=QJ hok q1 hG
    obtain⟨t1,t2,t3,t4,t5,t6⟩:=q4 p2.symm
    rcases t6 with t6|⟨b,o',t6,t7⟩
    ·omega
    ·subst t7
     refine⟨_,run w a k z _ n c q2 k2 h4 (by omega),?_⟩
     simp only[rep]
     refine⟨s,_,q1,rfl,q3,λ_=>⟨b,o',t1,t6,by omega,?_⟩⟩
     rw[uy,p3,←h3,Nat.add_mul]
     simp only[Addr.mk.injEq,and_true,true_and]
     omega
   ·exact h2.elim
  ·exact h.elim
 ·exact h.elim
theorem zt8 {t e:TypeId} {n:Nat} {x i:Operand} (ht:P.underlying t=some (.array n e)) (hz:P.cellsOf e≠0) (ho:o.op=.indexAddr t x i) (h:step P seq (.zmo n (P.cellsOf e) x i) env H K):Sound P o env H K:=by
 simp only[step,yN] at h
 obtain⟨ei,hi1,hi2⟩:=wJ hz
 split at h
 ·rename_i k z ez
  obtain⟨h0,h1,h⟩:=h
  have h':zbB (xi env x) (z.toNat * P.cellsOf e) (λd=>K d H [] []):=by
   unfold zbB;split at h<;>simp_all
  obtain⟨d',hK,hr⟩:=zmM h'
  refine zJ hK λJ F w a G hok hops hrd=>?_
  obtain⟨ad,e1,k1⟩:=hr J F w _ (hops x (by simp[ho,Op.operands]))
  have k2:=hops i (by simp[ho,Op.operands])
  rw[ez] at k2
  simp only[rep] at k2
  refine⟨_,?_,k1⟩
  simp[execOp,ho,e1,k2,Instr.indexAt,Instr.sureAddr,asIntOf,underlying,program,Sem.run,ht,pure,h0,h1,xI hi1,hi2]
 ·exact h.elim
theorem zAt {args:Array Operand} {ts:Array TypeId} {x:Operand} {t e:TypeId} (ha:args.toList=[x]) (hts:ts.toList=[t]) (ht:P.underlying t=some (.slice e)) (ho:o.op=.call { callee:=.builtin .len,args,argTypes:=ts }) (h:step P seq (.len x) env H K):Sound P o env H K:=by
 have ea:args=#[x]:=Array.ext' (by simpa using ha)
 have et:ts=#[t]:=Array.ext' (by simpa using hts)
 subst ea et
 have run:∀(w:World) (a:Act) (A:Option Addr) (n c:Nat),a.eval x=.slice A n c→(execOp a.eval o).run P w=.ok (.value (.int .i64 n)) w:=by
  intro w a A n c h1
  simp[execOp,ho,resolve,invoke,builtin,Builtin.len_,h1,Sem.run,pure,underlying,program,ht,goInt]
 simp only[step,yN] at h
 split at h
 ·rename_i zH xs e1
  refine zJ h λJ F w a G hok hops hrd=>?_
  have k1:=hops x (by simp[ho,Op.operands,Call.operands])
  rw[e1] at k1
  simp only[rep] at k1
  obtain⟨A,n,c,q1,rfl,_⟩:=k1
  exact⟨_,run w a A _ c q1,rfl⟩
 ·rename_i id zY lo hi e1
  obtain⟨ob,h1,h2⟩:=(yM _ _ _).1 h
  split at h2
  ·rename_i m ver' zH xs
   obtain⟨rfl,h2⟩:=h2
   refine zJ h2 λJ F w a G hok hops hrd=>?_
   have k1:=hops x (by simp[ho,Op.operands,Call.operands])
   rw[e1] at k1
   simp only[rep] at k1
   obtain⟨s,A,n,c,q1,q2,q3,q4⟩:=k1
   have hG:G id=some (.vec m zY zH xs):=by rw[hrd id (by simp)];exact h1
   obtain⟨p1,p2,_⟩:=QJ hok q1 hG
   obtain⟨_,_,_,rfl,_⟩:=q4 p2.symm
   exact⟨_,run w a A _ c q2,rfl⟩
  ·exact h2.elim
 ·rename_i e1
  refine zJ h λJ F w a G hok hops hrd=>?_
  have k1:=hops x (by simp[ho,Op.operands,Call.operands])
  rw[e1] at k1
  simp only[rep] at k1
  exact⟨_,run w a _ 0 0 k1,rfl⟩
 ·exact h.elim
theorem Zx {env:Env} {x:Option Operand} {dflt:Nat} {K':Nat→Prop} (h:zdd env x dflt K'):∃n,K' n ∧
  ∀(J:yX) (F:Nat→Prop) (w:World) (a:Act),(∀y∈x.toList,rep J F w (xi env y) (a.eval y))→(x=none∧n=dflt)∨∃y k,x=some y∧a.eval y=.int k n:=by
 unfold zdd at h
 cases x with
 | none=>exact⟨dflt,h,λJ F w a _=>.inl ⟨rfl,rfl⟩⟩
 | some y =>
  simp only[yN] at h
  split at h
  ·rename_i k i e
   refine⟨i.toNat,h.2,λJ F w a hy=>.inr ⟨y,k,rfl,?_⟩⟩
   have:=hy y (by simp)
   rw[e] at this
   simp only[rep] at this
   rw[this,Int.toNat_of_nonneg h.1]
  ·exact h.elim
theorem V1 {t e:TypeId} {i:TypeInfo} (ht:P.underlying t=some (.slice e)) (hi:P.info? e=some i) (A:Option Addr) (len cap l h:Nat) (lo hi':Option Value) (w:World)
  (h1:(lo=none∧l=0)∨∃k,lo=some (.int k l)) (h2:(hi'=none∧h=len)∨∃k,hi'=some (.int k h)) (hlh:l≤h) (hc:h≤cap) :
  (Instr.sliceAt t (.slice A len cap) lo hi' none).run P w=.ok (.slice (if cap=l then A else A.map (·.add (l*i.size))) (h-l) (cap-l)) w:=by
 have hb:(Instr.sliceBounds true len cap lo hi' none).run P w=.ok (l,h,cap) w:=by
  rcases h1 with⟨rfl,rfl⟩|⟨k,rfl⟩<;>rcases h2 with⟨rfl,rfl⟩|⟨k',rfl⟩ <;>
   simp[Instr.sliceBounds,Instr.sliceBound,asIntOf,pure,Sem.run,hlh,hc]
 simp[Instr.sliceAt,Instr.slice,underlying,program,Sem.run,ht,pure,hb,xI hi]
theorem vX {J:yX} {F:Nat→Prop} {w:World} {b zH o:Nat} {xs:List (List D)} (h:yk J F w b zH xs o) (l n:Nat):yk J F w b zH ((xs.take n).drop l) (o+l*zH):=by
 refine vr _ _ λj x hx=>?_
 have h1:xs[l+j]? = some x:=by
  rw[List.getElem?_drop,List.getElem?_take] at hx
  split at hx
  ·exact hx
  ·cases hx
 have:=wM xs o (l+j) x h1 h
 rwa [Nat.add_mul,←Nat.add_assoc] at this
theorem zBF {t e:TypeId} {x:Operand} {lo hi mx:Option Operand} (ht:P.underlying t=some (.slice e)) (hz:0<P.cellsOf e) (ho:o.op=.slice t x lo hi mx) (h:step P seq (.slc (P.cellsOf e) x lo hi mx) env H K):Sound P o env H K:=by
 simp only[step,yN] at h
 obtain⟨ei,hi1,hi2⟩:=wJ (e:=e) (P:=P) (by omega)
 split at h
 ·rename_i esz' xs e1
  obtain⟨h3,h⟩:=(wg _ _ _).1 h
  obtain⟨n,h,hn⟩:=Zx h
  obtain⟨l,⟨h4,h5,h6⟩,hl⟩:=Zx h
  refine zJ h6 λJ F w a G hok hops hrd=>?_
  have k1:=hops x (by simp[ho,Op.operands])
  rw[e1] at k1
  simp only[rep] at k1
  obtain⟨A,len,c,q1,q2,qc,q3⟩:=k1
  have hn':=hn J F w a λy hy=>hops y (by simp[ho,Op.operands];exact .inr (.inr (by simpa using hy)))
  have hl':=hl J F w a λy hy=>hops y (by simp[ho,Op.operands];exact .inr (.inl (by simpa using hy)))
  refine⟨.slice (if c=l then A else A.map (·.add (l*ei.size))) (n-l) (c-l),?_,?_⟩
  ·have:=V1 (P:=P) ht hi1 A len c l n (lo.map a.eval) (hi.map a.eval) w
    (by rcases hl' with⟨rfl,rfl⟩|⟨y,k,rfl,q⟩
        ·exact .inl ⟨rfl,rfl⟩
        ·exact .inr ⟨k,by simp[q]⟩)
    (by rcases hn' with⟨rfl,rfl⟩|⟨y,k,rfl,q⟩
        ·exact .inl ⟨rfl,q2.symm⟩
        ·exact .inr ⟨k,by simp[q]⟩) h4 (by omega)
   simp[execOp,ho,q1,this,Sem.run,pure]
  ·simp only[rep]
   refine⟨_,_,_,rfl,by simp[List.length_drop,List.length_take];omega,by omega,?_⟩
   rcases q3 with q3|⟨b,o',rfl,q5,q6⟩
   ·exact .inl (by omega)
   ·by_cases hcl:c=l
    ·exact .inl (by omega)
    ·rw[if_neg hcl]
     exact .inr ⟨b,_,by simp only[Option.map_some,uy,hi2,h3],q5,vX q6 l n⟩
 ·rename_i esz' xs m e1
  split at h
  ·exact h.elim
  rename_i hi'
  obtain⟨h3,h⟩:=(wg _ _ _).1 h
  obtain⟨n,h,hn⟩:=Zx h
  obtain⟨l,h,hl⟩:=Zx h
  obtain⟨mm,⟨h4,h5,h6,h7⟩,hm⟩:=Zx h
  refine zJ h7 λJ F w a G hok hops hrd=>?_
  have k1:=hops x (by simp[ho,Op.operands])
  rw[e1] at k1
  simp only[rep] at k1
  obtain⟨A,len,c,q1,q2,qc,q3⟩:=k1
  have hn':=hn J F w a λy hy=>hops y (by simp[ho,Op.operands] at hy ⊢;simp[hy])
  have hl':=hl J F w a λy hy=>hops y (by simp[ho,Op.operands] at hy ⊢;simp[hy])
  have hm':=hm J F w a λy hy=>hops y (by simp[ho,Op.operands] at hy ⊢;simp[hy])
  rcases hn' with⟨q,_⟩|⟨y1,kh,q,hv⟩
  ·cases q
  cases q
  rcases hm' with⟨q,_⟩|⟨y2,km,q,mv⟩
  ·cases q
  cases q
  refine⟨.slice (if mm=l then A else A.map (·.add (l*ei.size))) (n-l) (mm-l),?_,?_⟩
  ·have hb:(Instr.sliceBounds true len c (lo.map a.eval) (some (.int kh n)) (some (.int km mm))).run P w=.ok (l,n,mm) w:=by
    have hmc:mm≤c:=by omega
    rcases hl' with⟨rfl,rfl⟩|⟨y,k,rfl,q⟩
    ·simp[Instr.sliceBounds,Instr.sliceBound,asIntOf,pure,Sem.run,h5,hmc]
    ·simp[Instr.sliceBounds,Instr.sliceBound,asIntOf,pure,Sem.run,h4,h5,hmc,q]
   simp[execOp,ho,q1,hv,mv,Instr.sliceAt,Instr.slice,underlying,program,Sem.run,ht,pure,hb,xI hi1]
  ·simp only[rep]
   refine⟨_,_,_,rfl,by simp[List.length_drop,List.length_take];omega,by omega,?_⟩
   rcases q3 with q3|⟨b,o',rfl,q5,q6⟩
   ·exact .inl (by omega)
   ·by_cases hcl:mm=l
    ·exact .inl (by omega)
    ·rw[if_neg hcl]
     exact .inr ⟨b,_,by simp only[Option.map_some,uy,hi2,h3],q5,vX q6 l n⟩
 ·rename_i id zY p q e1
  obtain⟨ob,h1,h2⟩:=(yM _ _ _).1 h
  split at h2
  ·rename_i m ver' zH xs
   obtain⟨rfl,h2⟩:=h2
   obtain⟨h3,h⟩:=(wg _ _ _).1 h2
   obtain⟨n,h,hn⟩:=Zx h
   obtain⟨l,⟨h4,h5,h6⟩,hl⟩:=Zx h
   refine zJ h6 λJ F w a G hok hops hrd=>?_
   have k1:=hops x (by simp[ho,Op.operands])
   rw[e1] at k1
   simp only[rep] at k1
   obtain⟨s,A,len,c,q1,q2,q3,q4⟩:=k1
   have hG:G id=some (.vec m zY zH xs):=by rw[hrd id (by simp)];exact h1
   obtain⟨p1,p2,p3,p4,p5,-⟩:=QJ hok q1 hG
   obtain⟨t1,t2,t3,t4,t5,t6⟩:=q4 p2.symm
   have T6:=Lib.hid t6
   clear t6
   have hn':=hn J F w a λy hy=>hops y (by simp[ho,Op.operands];exact .inr (.inr (by simpa using hy)))
   have hl':=hl J F w a λy hy=>hops y (by simp[ho,Op.operands];exact .inr (.inl (by simpa using hy)))
   refine⟨.slice (if c=l then A else A.map (·.add (l*ei.size))) (n-l) (c-l),?_,?_⟩
   ·have:=V1 (P:=P) ht hi1 A len c l n (lo.map a.eval) (hi.map a.eval) w
     (by rcases hl' with⟨rfl,rfl⟩|⟨y,k,rfl,q⟩
         ·exact .inl ⟨rfl,rfl⟩
         ·exact .inr ⟨k,by simp[q]⟩)
     (by rcases hn' with⟨rfl,rfl⟩|⟨y,k,rfl,q⟩
         ·exact .inl ⟨rfl,by omega⟩
         ·exact .inr ⟨k,by simp[q]⟩) h4 (by omega)
    simp[execOp,ho,q2,this,Sem.run,pure]
   ·simp only[rep]
    refine⟨s,_,_,_,q1,rfl,q3,λ_=>⟨t1,by omega,by omega,by omega,by omega,?_⟩⟩
    by_cases hcl:c=l
    ·exact .inl (by omega)
    ·rcases T6.out with t6|⟨b,o',t6,rfl⟩
     ·exact .inl (by omega)
     ·rw[if_neg hcl]
      refine .inr ⟨b,o',t6,?_⟩
      simp only[Option.map_some,uy,hi2,h3,p3,Nat.add_mul,Nat.add_assoc]
  ·exact h2.elim
 ·exact h.elim
theorem zx1 {t:TypeId} {x:Operand} {lo hi:Option Operand} (ht:P.underlying t=some .string) (ho:o.op=.slice t x lo hi none) (h:step P seq (.zlH x lo hi) env H K):Sound P o env H K:=by
 simp only[step,yN] at h
 split at h
 ·rename_i s e1
  obtain⟨n,h,hn⟩:=Zx h
  obtain⟨l,⟨h4,h5,h6⟩,hl⟩:=Zx h
  refine zJ h6 λJ F w a G hok hops hrd=>?_
  have k1:=hops x (by simp[ho,Op.operands])
  rw[e1] at k1
  simp only[rep] at k1
  have hn':=hn J F w a λy hy=>hops y (by simp[ho,Op.operands];exact .inr (.inr (by simpa using hy)))
  have hl':=hl J F w a λy hy=>hops y (by simp[ho,Op.operands];exact .inr (.inl (by simpa using hy)))
  refine⟨.string (s.extract l n),?_,by simp only[rep]⟩
  have hb:(Instr.sliceBounds false s.size s.size (lo.map a.eval) (hi.map a.eval) none).run P w=.ok (l,n,s.size) w:=by
   rcases hl' with⟨rfl,rfl⟩|⟨y,k,rfl,q⟩<;>rcases hn' with⟨rfl,rfl⟩|⟨y',k',rfl,q'⟩ <;>
    simp[Instr.sliceBounds,Instr.sliceBound,asIntOf,pure,Sem.run, *]
  simp[execOp,ho,k1,Instr.sliceAt,Instr.slice,underlying,program,Sem.run,ht,pure,hb]
 ·exact h.elim
theorem zbj {J:yX} {F:Nat→Prop} {w:World} {ds:List D} {vs:List Value} (h:yf J F w ds vs) (n:Nat):yf J F w (ds.take n) (vs.take n):=by
 have hl:=xx _ _ h
 refine zaF _ _ (by simp[hl]) λj d v hd hv=>?_
 rw[List.getElem?_take] at hd hv
 split at hd
 ·rename_i hj
  rw[if_pos hj] at hv
  obtain⟨v',h1,h2⟩:=vI _ _ _ _ hd h
  rw[hv] at h1;cases h1
  exact h2
 ·cases hd
theorem zbr {J:yX} {F:Nat→Prop} {w:World} {ds:List D} {vs:List Value} (h:yf J F w ds vs) (n:Nat):yf J F w (ds.drop n) (vs.drop n):=by
 have hl:=xx _ _ h
 refine zaF _ _ (by simp[hl]) λj d v hd hv=>?_
 rw[List.getElem?_drop] at hd hv
 obtain⟨v',h1,h2⟩:=vI _ _ _ _ hd h
 rw[hv] at h1;cases h1
 exact h2
theorem zvX {s:TypeId} {x:Operand} {f:Nat} {fs:Array Field} {fd:Field} {ag:Bool} (hs:P.underlying s=some (.struct fs)) (hf:fs[f]? = some fd) (hag:QB P fd.type=some ag) (ho:o.op=.field s x f) (h:step P seq (.field fd.offset (P.cellsOf fd.type) ag x) env H K):Sound P o env H K:=by
 simp only[step,yN] at h
 obtain⟨i,hi1,hi2⟩:=Ud hag
 split at h
 ·rename_i cs e1
  cases ag with
  | true =>
   simp only at h
   obtain⟨h1,h2⟩:=(Z3 _ _ _).1 h
   obtain⟨h3,h4⟩:=(Z2 _ _ _).1 h2
   refine zJ h4 λJ F w a G hok hops hrd=>?_
   have k1:=hops x (by simp[ho,Op.operands])
   rw[e1] at k1
   simp only[rep] at k1
   obtain⟨vs,q1,q2⟩:=k1
   refine⟨.agg ((vs.drop fd.offset).take (P.cellsOf fd.type)).toArray,?_,by simp only[rep];exact⟨_,rfl,zbj (zbr q2 _) _⟩⟩
   have e2:vs.toArray.extract fd.offset (fd.offset+P.cellsOf fd.type)=((vs.drop fd.offset).take (P.cellsOf fd.type)).toArray:=by
    apply Array.ext'
    rw[List.extract_toArray]
    simp[List.extract_eq_take_drop]
   simp[execOp,ho,q1,Instr.field,asAgg,part,Xf hag,xI hi1,hi2,underlying,program,Sem.run,hs,hf,pure,e2]
  | false =>
   simp only at h
   obtain⟨c,h1,h2⟩:=(Yl _ _ _).1 h
   refine zJ h2 λJ F w a G hok hops hrd=>?_
   have k1:=hops x (by simp[ho,Op.operands])
   rw[e1] at k1
   simp only[rep] at k1
   obtain⟨vs,q1,q2⟩:=k1
   obtain⟨v,q3,q4⟩:=vI _ _ _ _ h1 q2
   refine⟨v,?_,q4⟩
   simp[execOp,ho,q1,Instr.field,asAgg,part,Xf hag,underlying,program,Sem.run,hs,hf,pure,q3]
 ·exact h.elim
theorem zzW {t e:TypeId} {n:Nat} {x i:Operand} {ag:Bool} (ht:P.underlying t=some (.array n e)) (hag:QB P e=some ag) (ho:o.op=.index t x i) (h:step P seq (.zoy n (P.cellsOf e) ag x i) env H K):Sound P o env H K:=by
 simp only[step,yN] at h
 obtain⟨ie,hi1,hi2⟩:=Ud hag
 split at h
 ·rename_i k z e2
  split at h
  ·rename_i cs e1
   obtain⟨h0,hz,h⟩:=h
   cases ag with
   | true =>
    simp only at h
    obtain⟨h1,h2⟩:=(Z3 _ _ _).1 h
    obtain⟨h3,h4⟩:=(Z2 _ _ _).1 h2
    refine zJ h4 λJ F w a G hok hops hrd=>?_
    have k1:=hops x (by simp[ho,Op.operands])
    have k2:=hops i (by simp[ho,Op.operands])
    rw[e1] at k1
    rw[e2] at k2
    simp only[rep] at k1 k2
    obtain⟨vs,q1,q2⟩:=k1
    refine⟨.agg ((vs.drop (z.toNat * P.cellsOf e)).take (P.cellsOf e)).toArray,?_,by simp only[rep];exact⟨_,rfl,zbj (zbr q2 _) _⟩⟩
    have e3:vs.toArray.extract (z.toNat * P.cellsOf e) (z.toNat * P.cellsOf e+P.cellsOf e)=((vs.drop (z.toNat * P.cellsOf e)).take (P.cellsOf e)).toArray:=by
     apply Array.ext'
     rw[List.extract_toArray]
     simp[List.extract_eq_take_drop]
    simp[execOp,ho,q1,k2,Instr.index,asIntOf,part,Xf hag,xI hi1,hi2,underlying,program,Sem.run,ht,pure,e3,h0,hz]
   | false =>
    simp only at h
    obtain⟨c,h1,h2⟩:=h
    refine zJ h2 λJ F w a G hok hops hrd=>?_
    have k1:=hops x (by simp[ho,Op.operands])
    have k2:=hops i (by simp[ho,Op.operands])
    rw[e1] at k1
    rw[e2] at k2
    simp only[rep] at k1 k2
    obtain⟨vs,q1,q2⟩:=k1
    obtain⟨v,q3,q4⟩:=vI _ _ _ _ h1 q2
    refine⟨v,?_,q4⟩
    simp[execOp,ho,q1,k2,Instr.index,asIntOf,part,Xf hag,xI hi1,hi2,underlying,program,Sem.run,ht,pure,q3,h0,hz]
  ·exact h.elim
 ·exact h.elim
end
end
section
open Go.RowKit
theorem xX {J J':yX} {F F':Nat→Prop} {w w':World} (hJ:J.le J') (hF:∀b,F b→F' b) (hw:∀b,F b→w'.heap[b]? = w.heap[b]?) {s:Site} {o:zf} (hb:∀b,s.u6=some b→w'.heap[b]? = w.heap[b]?) (h:YD J F w s o):YD J' F' w' s o:=by
 cases o with
 | row m cs =>
  obtain⟨h1,h2,h3,h4,h5,b,vals,te,h6,h7,h8,h9,h10⟩:=h
  have hbb:w'.heap[b]? = w.heap[b]?:=hb b (by simp[Site.u6,h1,h6])
  exact⟨h1,h2,h3,h4,h5,b,vals,te,h6,by rw[hbb];exact h7,h8,qE hJ hF hw b (v8 hbb) cs 0 h9,λq=>hF b (h10 q)⟩
 | vec m zY zH xs =>
  obtain⟨h1,h2,h3,h4,h5,h6⟩:=h
  refine⟨h1,h2,h3,h4,h5,?_⟩
  by_cases hz:s.cap=0
  ·exact .inl hz
  ·obtain⟨b,o,vals,te,k1,k2,k3,k4,k5⟩:=h6.resolve_left hz
   refine .inr ?_
   have hbb:w'.heap[b]? = w.heap[b]?:=hb b (by simp[Site.u6,hz,k1])
   exact⟨b,o,vals,te,k1,by rw[hbb];exact k2,k3,Y9 hJ hF hw b zH (v8 hbb) xs o k4,λq=>hF b (k5 q)⟩
 | wc m I =>
  obtain⟨h1,b,es,clock,h2,h3,h4⟩:=h
  have hbb:w'.heap[b]? = w.heap[b]?:=hb b (by simp[Site.u6,h1,h2])
  exact⟨h1,b,es,clock,h2,by rw[hbb];exact h3,h4⟩
theorem yZ.update {J J':yX} {F:Nat→Prop} {w w':World} {G G':Nat→Option zf} (h:yZ J F w G) (id:Nat) (s':Site) (o':zf)
  (hJ':∀i,J' i=if i=id then some s' else J i) (hG:∀i,G' i=if i=id then some o' else G i) (hle:J.le J')
  (hF:∀b,F b→w'.heap[b]? = w.heap[b]?) (hsz:w.heap.size≤w'.heap.size)
  (hold:∀i s b,i≠id→J i=some s→s.u6=some b→w'.heap[b]? = w.heap[b]?)
  (hblk:∀b,s'.u6=some b→w.heap.size≤b∨∃s,J id=some s∧s.u6=some b)
  (hlt:∀i s b,J i=some s→s.u6=some b→b<w.heap.size)
  (hmut:∀b,s'.u6=some b→o'.mut=true→¬F b)
  (hok:YD J' F w' s' o'):yZ J' F w' G' where
 obj i s hi:=by
  rw[hJ'] at hi
  by_cases e:i=id
  ·subst e
   rw[if_pos rfl] at hi
   cases hi
   exact⟨o',by rw[hG,if_pos rfl],hok⟩
  ·rw[if_neg e] at hi
   obtain⟨o,h1,h2⟩:=h.obj i s hi
   exact⟨o,by rw[hG,if_neg e];exact h1,xX hle (λ_ h=>h) hF (λb hb=>hold i s b e hi hb) h2⟩
 one i i' s1 s2 b h1 h2 h3 h4:=by
  rw[hJ'] at h1 h2
  by_cases e:i=id<;>by_cases e':i'=id
  ·rw[e,e']
  ·rw[if_pos e] at h1;rw[if_neg e'] at h2
   cases h1
   rcases hblk b h3 with q|⟨s,q1,q2⟩
   ·have:=hlt i' s2 b h2 h4;omega
   ·rw[e];exact h.one id i' s s2 b q1 h2 q2 h4
  ·rw[if_neg e] at h1;rw[if_pos e'] at h2
   cases h2
   rcases hblk b h4 with q|⟨s,q1,q2⟩
   ·have:=hlt i s1 b h1 h3;omega
   ·rw[e'];exact h.one i id s1 s b h1 q1 h3 q2
  ·rw[if_neg e] at h1;rw[if_neg e'] at h2
   exact h.one i i' s1 s2 b h1 h2 h3 h4
 apart i s b o hi hb hg hm:=by
  rw[hJ'] at hi;rw[hG] at hg
  by_cases e:i=id
  ·rw[if_pos e] at hi hg
   cases hi;cases hg
   exact hmut b hb hm
  ·rw[if_neg e] at hi hg
   exact h.apart i s b o hi hb hg hm
 lt:=h.lt.mono (λ_ q=>q) hF λb hb=>Nat.lt_of_lt_of_le (h.lt b hb) hsz
theorem yZ.xu {J:yX} {F:Nat→Prop} {w:World} {G:Nat→Option zf} (h:yZ J F w G) {i:Nat} {s:Site} {b:Nat} (hi:J i=some s) (hb:s.u6=some b):b<w.heap.size:=by
 obtain⟨o,h1,h2⟩:=h.obj i s hi
 have key:∀x:Nat,∀ob,w.heap[x]? = some ob→x<w.heap.size:=λx ob hx=>by
  rcases Nat.lt_or_ge x w.heap.size with h|h
  ·exact h
  ·rw[Array.getElem?_eq_none h] at hx;cases hx
 cases o with
 | row m cs =>
  obtain⟨k1,_,_,_,_,b',vals,te,k6,k7,_⟩:=h2
  simp[Site.u6,k1,k6] at hb
  exact hb▸key _ _ k7
 | vec m zY zH xs =>
  obtain⟨k1,_,_,_,_,k6⟩:=h2
  rcases k6 with k6|⟨b',o,vals,te,q1,q2,_⟩
  ·simp[Site.u6,k1,k6] at hb
  ·unfold Site.u6 at hb
   split at hb
   ·cases hb
   ·simp[q1] at hb
    exact hb▸key _ _ q2
 | wc m I =>
  obtain⟨k1,b',es,clock,q1,q2,_⟩:=h2
  simp[Site.u6,k1,q1] at hb
  exact hb▸key _ _ q2
theorem wG (w:World) (o:Obj) {b:Nat} (h:b<w.heap.size):(w.alloc o).heap[b]? = w.heap[b]?:=heap_alloc_old w o h
theorem yZ.zss {J:yX} {F:Nat→Prop} {w:World} {G:Nat→Option zf} (h:yZ J F w G) (id:Nat) (hid:J id=none) (s':Site) (o':zf) (ob:Obj) (had:s'.ad=some ⟨w.heap.size,0,none⟩)
  (hok:YD (λi=>if i=id then some s' else J i) F (w.alloc ob) s' o') :
  yZ (λi=>if i=id then some s' else J i) F (w.alloc ob) (λi=>if i=id then some o' else G i) ∧
   Ext J F w (λi=>if i=id then some s' else J i) F (w.alloc ob):=by
 have hle:J.le (λi=>if i=id then some s' else J i):=λi s hi=>by
  have e:i≠id:=λe=>by rw[e,hid] at hi;cases hi
  exact⟨s,by simp[e,hi],Nat.le_refl _,λ_=>rfl⟩
 have hbs:∀b,s'.u6=some b→b=w.heap.size:=λb hb=>by
  unfold Site.u6 at hb
  split at hb
  ·cases hb
  ·simpa [had] using hb.symm
 refine⟨h.update id s' o' (λ_=>rfl) (λ_=>rfl) hle (λb hb=>wG w _ (h.lt b hb)) (by simp) (λi s b _ hi hb=>wG w _ (h.xu hi hb)) (λb hb=>.inl (by rw[hbs b hb];exact Nat.le_refl _)) (λi s b hi hb=>h.xu hi hb) (λb hb _ hF=>?_) hok,?_⟩
 ·have:=h.lt b hF
  rw[hbs b hb] at this;omega
 ·exact⟨rfl,rfl,rfl,by simp,λb hb _=>wG w _ hb,λb hb=>wG w _ (h.lt b hb),hle,λ_ h=>h,λb ⟨i,s,hi,hb⟩=>by
   dsimp only at hi
   by_cases e:i=id
   ·rw[if_pos e] at hi;cases hi
    exact .inr (by rw[hbs b hb];exact Nat.le_refl _)
   ·rw[if_neg e] at hi
    exact .inl ⟨i,s,hi,hb⟩,λb hb=>.inl hb⟩
theorem yZ.alloc {J:yX} {F:Nat→Prop} {w:World} {G:Nat→Option zf} (h:yZ J F w G) (id:Nat) (hid:J id=none) (s':Site) (o':zf) (vals:Array Value) (te:TypeId) (had:s'.ad=some ⟨w.heap.size,0,none⟩)
  (hok:YD (λi=>if i=id then some s' else J i) F (w.alloc (.cells vals te)) s' o') :
  yZ (λi=>if i=id then some s' else J i) F (w.alloc (.cells vals te)) (λi=>if i=id then some o' else G i) ∧
   Ext J F w (λi=>if i=id then some s' else J i) F (w.alloc (.cells vals te)):=h.zss id hid s' o' _ had hok
section
variable {J:yX} {F:Nat→Prop} {w:World}
theorem zie {J':yX} {cs:List D} {vs:List Value} (te:TypeId) (hJ:J.le J') (hlt:∀b,F b→b<w.heap.size) (h1:∀v∈vs,yx v=true) (h:yf J F w cs vs) :
  zS J' F (w.alloc (.cells vs.toArray te)) w.heap.size cs 0:=by
 have h':yf J' F (w.alloc (.cells vs.toArray te)) cs vs:=Ya hJ (λ_ h=>h) (λb hb=>wG w _ (hlt b hb)) _ _ h
 refine xw _ _ λj c hc=>?_
 obtain⟨v,h3,h2⟩:=vI _ _ _ _ hc h'
 exact⟨v,by simp[h3],h1 v (List.mem_of_getElem? h3),h2⟩
end
theorem zgG {J:yX} {F:Nat→Prop} {w:World} {G:Nat→Option zf} (h:yZ J F w G) (id:Nat) (hid:J id=none) {cs:List D} {vs:List Value} (te:TypeId) (h0:∀v∈vs,yx v=true) (hr:yf J F w cs vs) :
  ∃J',yZ J' F (w.alloc (.cells vs.toArray te)) (λi=>if i=id then some (.row true cs) else G i)∧Ext J F w J' F (w.alloc (.cells vs.toArray te)) ∧
   (∀i,i≠id→J' i=J i)∧rep J' F (w.alloc (.cells vs.toArray te)) (.loc id 0) (.pointer (some ⟨w.heap.size,0,none⟩)):=by
 have hle:J.le (λi=>if i=id then some ⟨true,0,some ⟨w.heap.size,0,none⟩,1,cs.length,cs.length⟩ else J i):=λi s hi=>by
  have e:i≠id:=λe=>by rw[e,hid] at hi;cases hi
  exact⟨s,by simp[e,hi],Nat.le_refl _,λ_=>rfl⟩
 obtain⟨h1,h2⟩:=h.alloc id hid ⟨true,0,some ⟨w.heap.size,0,none⟩,1,cs.length,cs.length⟩ (.row true cs) vs.toArray te rfl
  ⟨rfl,rfl,rfl,rfl,rfl,w.heap.size,vs.toArray,te,rfl,heap_alloc_new w _,by simp[xx _ _ hr],zie te hle h.lt h0 hr,λq=>by cases q⟩
 refine⟨_,h1,h2,λi hi=>by simp[hi],?_⟩
 simp only[rep]
 exact⟨_,w.heap.size,by simp;rfl,rfl,rfl,rfl⟩
section
variable {P:Program} {seq:Bool} {o:Oper} {env:Env} {H:List zf} {K:Jk}
theorem zcy (G:Nat→Option zf) (H2:List zf) (id:Nat) (ob:zf) (h:H2[id]? = some ob):Jy G [id] H2=λi=>if i=id then some ob else G i:=by
 funext i
 simp only[Jy,List.mem_singleton]
 split
 ·rename_i e;rw[e,h]
 ·rfl
theorem Xq {ob:zf} {d:D} {rd:List Nat} (hK:K d (H++[ob]) rd [H.length])
  (h:∀(J:yX) (F:Nat→Prop) (w:World) (a:Act) (G:Nat→Option zf),yZ J F w G→(∀x∈o.op.operands,rep J F w (xi env x) (a.eval x))→(∀id∈rd,G id=H[id]?)→J H.length=none →
   ∃v w' J' F',(execOp a.eval o).run P w=.ok (.value v) w'∧rep J' F' w' d v∧yZ J' F' w' (λi=>if i=H.length then some ob else G i)∧Ext J F w J' F' w'∧(∀i,i≠H.length→J' i=J i)):Sound P o env H K:=by
 refine⟨d,H++[ob],rd,[H.length],⟨λid hid=>?_,by simp,λid hid=>by simp at hid;simp[hid],λJ F w a G hok hops hrd hnew K Q hK=>?_⟩,hK⟩
 ·simp at hid
  rcases Nat.lt_or_ge id H.length with hl|hl
  ·rw[List.getElem?_append_left hl]
  ·rw[List.getElem?_eq_none (by simp;omega),List.getElem?_eq_none hl]
 ·obtain⟨v,w',J',F',h1,h2,h3,h4,h5⟩:=h J F w a G hok hops (λid hid=>hrd id (.inl hid)) (hnew _ (Nat.le_refl _) (by simp))
  unfold Oper.wp
  rw[h1,Oper.upon_value]
  refine hK v w' J' F' h2 ?_ h4 λid hid hn=>?_
  ·rw[zcy G _ H.length ob (by simp)];exact h3
  ·rw[h5 id (by simpa using hn)];exact hid
theorem Yi {t:TypeId} {z:Value} {w:World} (h:(P.info? t).bind (·.zero)=some z):(zeroValue t).run P w=.ok z w:=by
 cases e:P.info? t with
 | none=>rw[e] at h;cases h
 | some i =>
  rw[e] at h
  simp at h
  simp[zeroValue,typeInfo,program,Sem.run,e,h,pure]
theorem Qh {J:yX} {F:Nat→Prop} {w:World}:∀vs:List Value,yf J F w (vs.map .sc) vs
 | []=>by simp only[List.map_nil,yf]
 | v::r=>by simp only[List.map_cons,yf];exact⟨v,r,rfl,by simp only[rep],Qh r⟩
theorem zv6 {t:TypeId} {z:Value} (hz:(P.info? t).bind (·.zero)=some z) (hone:z.cells.toList.all yx=true) (ho:o.op=.alloc t) (h:step P seq (.alloc z.cells.toList) env H K):Sound P o env H K:=by
 simp only[step,zh3,vY] at h
 refine Xq h λJ F w a G hok hops hrd hn=>?_
 obtain⟨J',h1,h2,h3,h4⟩:=zgG hok H.length hn t (λv hv=>List.all_eq_true.1 hone v hv) (Qh z.cells.toList)
 refine⟨_,_,J',F,?_,h4,h1,h2,h3⟩
 simp[execOp,ho,Instr.alloc,Yi hz,newVar,newRow,newObj,Sem.run,pure]
theorem Xi {J:yX} {F:Nat→Prop} {w:World} {d:D} {v:Value} (hs:storable d=true) (h:rep J F w d v):yf J F w d.cells v.cells.toList∧∀u∈v.cells.toList,yx u=true:=by
 have one:QG d=true→(∀cs,d≠.agg cs)→yf J F w d.cells v.cells.toList∧∀u∈v.cells.toList,yx u=true:=by
  intro h1 h2
  have h3:=zeJ h1 h
  have e1:v.cells=#[v]:=by cases v<;>first|rfl|simp[yx] at h3
  have e2:d.cells=[d]:=by cases d<;>first|rfl|exact absurd rfl (h2 _)
  rw[e1,e2]
  refine⟨by simp only[yf];exact⟨v,[],rfl,h,rfl⟩,λu hu=>?_⟩
  simp at hu;rw[hu];exact h3
 cases d with
 | agg cs =>
  simp only[rep] at h
  obtain⟨vs,rfl,k⟩:=h
  refine⟨by simpa [D.cells,Value.cells] using k,λu hu=>?_⟩
  simp[Value.cells] at hu
  obtain⟨j,hj,e⟩:=List.mem_iff_getElem.1 hu
  have hj':j<cs.length:=by rw[←xx _ _ k];exact hj
  obtain⟨u',q1,q2⟩:=vI _ _ _ _ (List.getElem?_eq_getElem hj') k
  rw[List.getElem?_eq_getElem hj,e] at q1
  cases q1
  exact zeJ (zc1 cs hs _ (List.getElem_mem hj')) q2
 | _=>exact one hs (by intro cs h;cases h)
theorem zAT {t:TypeId} {x:Operand} (ho:o.op=.box t x) (h:step P seq (.box x) env H K):Sound P o env H K:=by
 simp only[step,yN,Vp,vY] at h
 obtain⟨h0,h⟩:=h
 refine Xq h λJ F w a G hok hops hrd hn=>?_
 obtain⟨k1,k0⟩:=Xi h0 (hops x (by simp[ho,Op.operands]))
 obtain⟨J',h1,h2,h3,h4⟩:=zgG hok H.length hn t k0 k1
 refine⟨_,_,J',F,?_,h4,h1,h2,h3⟩
 simp[execOp,ho,Instr.box,newVar,newRow,newObj,Sem.run,pure]
end
end
section
open Go.RowKit
theorem zjd (off:Nat):∀(l:List Value) (n:Nat) (cells:Array Value),off+n+l.length≤cells.size →
  ((l.zipIdx n).foldl (λ(cs:Array Value) (p:Value × Nat)=>cs.setIfInBounds (off+p.2) p.1) cells).size=cells.size ∧
  ∀i,((l.zipIdx n).foldl (λ(cs:Array Value) (p:Value × Nat)=>cs.setIfInBounds (off+p.2) p.1) cells)[i]? = if off+n≤i∧i<off+n+l.length then l[i-(off+n)]? else cells[i]?
 | [],n,cells,_=>⟨rfl,λi=>by simp;intro h1 h2;omega⟩
 | c::r,n,cells,h=>by
  simp only[List.zipIdx_cons,List.foldl_cons]
  simp only[List.length_cons] at h
  obtain⟨k1,k2⟩:=zjd off r (n+1) (cells.setIfInBounds (off+n) c) (by simp;omega)
  refine⟨by rw[k1];simp,λi=>?_⟩
  rw[k2]
  by_cases h1:i=off+n
  ·subst h1
   rw[if_neg (by omega),if_pos (by simp)]
   simp[Array.getElem?_setIfInBounds,show off+n<cells.size by omega]
  ·by_cases h2:off+(n+1)≤i∧i<off+(n+1)+r.length
   ·rw[if_pos h2,if_pos (by simp;omega),show i-(off+n)=i-(off+(n+1))+1 by omega,List.getElem?_cons_succ]
   ·rw[if_neg h2,if_neg (by simp;omega),Array.getElem?_setIfInBounds_ne (by omega)]
theorem WE (place:Nat→Option (Nat × Nat)) (cells:Array Value) (i:Nat) (v:Value) (rest:List (Nat × Value)) (off:Nat) (hp:place i=some (off,v.cells.size)) (hb:off+v.cells.size≤cells.size) :
  ∃cells',Instr.fill place cells ((i,v)::rest)=Instr.fill place cells' rest∧cells'.size=cells.size∧∀j,cells'[j]? = if off≤j∧j<off+v.cells.size then v.cells[j-off]? else cells[j]?:=by
 obtain⟨h1,h2⟩:=zjd off v.cells.toList 0 cells (by simpa using hb)
 refine⟨(v.cells.toList.zipIdx 0).foldl (λ(cs:Array Value) (p:Value × Nat)=>cs.setIfInBounds (off+p.2) p.1) cells,?_,h1,λj=>by simpa using h2 j⟩
 simp only[Instr.fill,hp]
 rw[if_neg (by simp;omega)]
 congr 1
 rw[←Array.foldl_toList,Array.toList_zipIdx]
theorem Y7:∀(l:List (Nat × Operand)) (k:Nat) (xs:List Operand),Y6 k l=some xs→l=(xs.zipIdx k).map λp=>(p.2,p.1)
 | [],k,xs,h=>by simp[Y6] at h;subst h;rfl
 | (i,x)::r,k,xs,h=>by
  simp only[Y6] at h
  split at h
  ·rename_i e
   cases e2:Y6 (k+1) r with
   | none=>rw[e2] at h;cases h
   | some ys =>
    rw[e2] at h
    simp at h
    subst h;subst e
    rw[Y7 r (i+1) ys e2]
    simp
  ·cases h
theorem zej (zH:Nat):∀(vs:List Value) (k:Nat) (cells:Array Value),(∀v∈vs,v.cells.size=zH)→(k+vs.length)*zH≤cells.size →
  ∃cells',Instr.fill (λi=>some (i*zH,zH)) cells ((vs.zipIdx k).map λp=>(p.2,p.1))=some cells'∧cells'.size=cells.size∧(∀j,j<k*zH→cells'[j]? = cells[j]?) ∧
   ∀i v j c,vs[i]? = some v→v.cells[j]? = some c→cells'[(k+i)*zH+j]? = some c
 | [],k,cells,_,_=>⟨cells,rfl,rfl,λ_ _=>rfl,λi v j c h=>by simp at h⟩
 | v::r,k,cells,hv,hb=>by
  simp only[List.zipIdx_cons,List.map_cons]
  have hs:v.cells.size=zH:=hv v (by simp)
  simp only[List.length_cons] at hb
  have hm:(k+(r.length+1))*zH=k*zH+zH+r.length*zH:=by rw[Nat.add_mul,Nat.add_mul];omega
  obtain⟨c1,e1,e2,e3⟩:=WE (λi=>some (i*zH,zH)) cells k v ((r.zipIdx (k+1)).map λp=>(p.2,p.1)) (k*zH) (by rw[hs]) (by omega)
  obtain⟨c2,f1,f2,f3,f4⟩:=zej zH r (k+1) c1 (λu hu=>hv u (by simp[hu])) (by rw[e2];rw[show k+1+r.length=k+(r.length+1) by omega];exact hb)
  refine⟨c2,by rw[e1];exact f1,by rw[f2,e2],λj hj=>?_,λi u j c hi hc=>?_⟩
  ·rw[f3 j (by rw[Nat.add_mul];omega),e3,if_neg (by omega)]
  ·cases i with
   | zero =>
    simp at hi;subst hi
    have hj:j<v.cells.size:=by
     rcases Nat.lt_or_ge j v.cells.size with h|h
     ·exact h
     ·rw[Array.getElem?_eq_none h] at hc;cases hc
    rw[Nat.add_zero,f3 _ (by rw[Nat.add_mul];omega),e3,if_pos (by omega),show k*zH+j-k*zH=j by omega]
    exact hc
   | succ i =>
    have:=f4 i u j c (by simpa using hi) hc
    rwa [show k+1+i=k+(i+1) by omega] at this
theorem zaS {J:yX} {F:Nat→Prop} {w:World} {G:Nat→Option zf} (h:yZ J F w G) (id:Nat) (hid:J id=none) {zH cap:Nat} {xs:List (List D)} {vals:Array Value} (te:TypeId)
  (hlen:xs.length≤cap) (hsz:cap*zH≤vals.size) (hx:∀(j:Nat) (x:List D),xs[j]? = some x→x.length=zH∧∀(k:Nat) (c:D),x[k]? = some c→∃u,vals[j*zH+k]? = some u∧yx u=true∧rep J F w c u) :
  ∃J',yZ J' F (w.alloc (.cells vals te)) (λi=>if i=id then some (.vec true 0 zH xs) else G i)∧Ext J F w J' F (w.alloc (.cells vals te)) ∧
   (∀i,i≠id→J' i=J i)∧rep J' F (w.alloc (.cells vals te)) (.own id 0 0 xs.length) (.slice (some ⟨w.heap.size,0,none⟩) xs.length cap):=by
 have hle:J.le (λi=>if i=id then some ⟨false,0,some ⟨w.heap.size,0,none⟩,zH,cap,xs.length⟩ else J i):=λi s hi=>by
  have e:i≠id:=λe=>by rw[e,hid] at hi;cases hi
  exact⟨s,by simp[e,hi],Nat.le_refl _,λ_=>rfl⟩
 have hrows:yk (λi=>if i=id then some ⟨false,0,some ⟨w.heap.size,0,none⟩,zH,cap,xs.length⟩ else J i) F (w.alloc (.cells vals te)) w.heap.size zH xs 0:=by
  refine vr _ _ λj x hj=>?_
  obtain⟨k1,k2⟩:=hx j x hj
  refine⟨k1,xw _ _ λk c hc=>?_⟩
  obtain⟨u,q1,q0,q2⟩:=k2 k c hc
  exact⟨u,by simp[q1],q0,yT hle (λ_ h=>h) (λb hb=>wG w _ (h.lt b hb)) _ _ q2⟩
 obtain⟨h1,h2⟩:=h.alloc id hid ⟨false,0,some ⟨w.heap.size,0,none⟩,zH,cap,xs.length⟩ (.vec true 0 zH xs) vals te rfl
  ⟨rfl,rfl,rfl,rfl,hlen,.inr ⟨w.heap.size,0,vals,te,rfl,heap_alloc_new w _,by simpa using hsz,hrows,λq=>by cases q⟩⟩
 refine⟨_,h1,h2,λi hi=>by simp[hi],?_⟩
 simp only[rep]
 exact⟨_,_,_,_,by simp;rfl,rfl,Nat.le_refl _,λ_=>⟨rfl,Nat.zero_le _,Nat.le_refl _,by simp,by simp,.inr ⟨w.heap.size,0,rfl,by simp⟩⟩⟩
section
variable {P:Program} {seq:Bool} {o:Oper} {env:Env} {H:List zf} {K:Jk}
theorem zdZ (zH:Nat):∀(xs:List Operand) (K':List (List D)→Prop),zmp env zH xs K'→(∀x∈xs,storable (xi env x)=true∧zH=(xi env x).cells.length)∧K' (xs.map λx=>(xi env x).cells)
 | [],K',h=>⟨(λ_ h=>by cases h),h⟩
 | x::r,K',h=>by
  simp only[zmp,yN,Vp,wg] at h
  obtain⟨h1,h2,h3⟩:=h
  obtain⟨h4,h5⟩:=zdZ zH r _ h3
  refine⟨λy hy=>?_,h5⟩
  rcases List.mem_cons.1 hy with rfl|hy
  ·exact⟨h1,h2⟩
  ·exact h4 y hy
theorem zsb (J:yX) (F:Nat→Prop) (w:World) (z:Value):rep J F w (lift z) z:=by
 unfold lift
 split
 ·rename_i cs
  simp only[rep]
  exact⟨cs.toList,rfl,Qh _⟩
 ·simp only[rep]
theorem zhZ {z:Value} {zH:Nat} (f:Operand→Value) (hz:f (.const z)=z):∀(m k:Nat) (l:List (Nat × Operand)) (xs:List Operand) (cells:Array Value),wk z k m l=some xs→(∀x∈xs,(f x).cells.size=zH)→(k+m)*zH≤cells.size →
  (∀i j,k≤i→i<k+m→j<zH→z.cells.size=zH→cells[i*zH+j]? = z.cells[j]?) →
  xs.length=m∧(∀x∈xs,x=.const z∨∃i,(i,x)∈l)∧Instr.fill (λi=>some (i*zH,zH)) cells (l.map λp=>(p.1,f p.2))=Instr.fill (λi=>some (i*zH,zH)) cells (((xs.map f).zipIdx k).map λp=>(p.2,p.1))
 | 0,k,[],xs,cells,h,_,_,_=>by simp[wk] at h;subst h;exact⟨rfl,by simp,rfl⟩
 | 0,k,_::_,xs,cells,h,_,_,_=>by simp[wk] at h
 | m+1,k,l,xs,cells,h,hs,hb,hc=>by
  have hm:(k+(m+1))*zH=k*zH+zH+m*zH:=by rw[Nat.add_mul,Nat.add_mul];omega
  have hk1:(k+1)*zH=k*zH+zH:=by rw[Nat.add_mul];omega
  have zero:∀ys,wk z (k+1) m l=some ys→xs=.const z::ys→xs.length=m+1∧(∀x∈xs,x=.const z∨∃i,(i,x)∈l)∧Instr.fill (λi=>some (i*zH,zH)) cells (l.map λp=>(p.1,f p.2))=Instr.fill (λi=>some (i*zH,zH)) cells (((xs.map f).zipIdx k).map λp=>(p.2,p.1)):=λys hy e=>by
   subst e
   have hzs:z.cells.size=zH:=by have:=hs (.const z) (by simp);rwa [hz] at this
   obtain⟨h1,h2,h3⟩:=zhZ f hz m (k+1) l ys cells hy (λx hx=>hs x (by simp[hx])) (by rw[show k+1+m=k+(m+1) by omega];exact hb) λi j hi1 hi2 hj hz=>hc i j (by omega) (by omega) hj hz
   refine⟨by simp[h1],λx hx=>?_,?_⟩
   ·rcases List.mem_cons.1 hx with rfl|hx
    ·exact .inl rfl
    ·exact h2 x hx
   ·rw[h3,List.map_cons,List.zipIdx_cons,List.map_cons,hz]
    obtain⟨c1,e1,e2,e3⟩:=WE (λi=>some (i*zH,zH)) cells k z (((ys.map f).zipIdx (k+1)).map λp=>(p.2,p.1)) (k*zH) (by rw[hzs]) (by omega)
    refine Eq.trans ?_ e1.symm
    congr 1
    refine Array.ext_getElem? λj=>?_
    rw[e3]
    by_cases hj:k*zH≤j∧j<k*zH+z.cells.size
    ·rw[if_pos hj,←hc k (j-k*zH) (Nat.le_refl _) (by omega) (by omega) hzs]
     congr 1
     omega
    ·rw[if_neg hj]
  cases l with
  | nil =>
   simp only[wk] at h
   cases e:wk z (k+1) m [] with
   | none=>rw[e] at h;cases h
   | some ys=>rw[e] at h;exact zero ys e (Option.some.inj h).symm
  | cons p r =>
   obtain⟨i,x⟩:=p
   simp only[wk] at h
   by_cases hi:i=k
   ·rw[if_pos hi] at h
    subst hi
    cases e:wk z (i+1) m r with
    | none=>rw[e] at h;cases h
    | some ys =>
     rw[e] at h
     have:=(Option.some.inj h).symm
     subst this
     have hxs:(f x).cells.size=zH:=hs x (by simp)
     obtain⟨c1,e1,e2,e3⟩:=WE (λi=>some (i*zH,zH)) cells i (f x) (r.map λp=>(p.1,f p.2)) (i*zH) (by rw[hxs]) (by omega)
     obtain⟨d1,g1,_,g3⟩:=WE (λi=>some (i*zH,zH)) cells i (f x) (((ys.map f).zipIdx (i+1)).map λp=>(p.2,p.1)) (i*zH) (by rw[hxs]) (by omega)
     have hcd:c1=d1:=Array.ext_getElem? λj=>by rw[e3,g3]
     subst hcd
     obtain⟨h1,h2,h3⟩:=zhZ f hz m (i+1) r ys c1 e (λy hy=>hs y (by simp[hy])) (by rw[show i+1+m=i+(m+1) by omega,e2];exact hb) λa j ha1 ha2 hj hzz=>by
      have:(i+1)*zH≤a*zH:=Nat.mul_le_mul_right _ ha1
      rw[e3,if_neg (by omega)]
      exact hc a j (by omega) (by omega) hj hzz
     refine⟨by simp[h1],λy hy=>?_,?_⟩
     ·rcases List.mem_cons.1 hy with rfl|hy
      ·exact .inr ⟨i,by simp⟩
      ·exact(h2 y hy).imp id λ⟨a,ha⟩=>⟨a,by simp[ha]⟩
     ·rw[List.map_cons,List.map_cons,List.zipIdx_cons,List.map_cons]
      rw[e1,g1,h3]
   ·rw[if_neg hi] at h
    cases e:wk z (k+1) m ((i,x)::r) with
    | none=>rw[e] at h;cases h
    | some ys=>rw[e] at h;exact zero ys e (Option.some.inj h).symm
theorem VO {z:Value}:∀(m k:Nat) (l:List (Nat × Operand)) (xs:List Operand),wk z k m l=some xs→∀x∈xs,x=.const z∨∃i,(i,x)∈l
 | 0,k,[],xs,h,x,hx=>by simp[wk] at h;subst h;cases hx
 | 0,k,_::_,xs,h,_,_=>by simp[wk] at h
 | m+1,k,[],xs,h,x,hx=>by
  simp only[wk] at h
  cases e:wk z (k+1) m [] with
  | none=>rw[e] at h;cases h
  | some ys =>
   rw[e] at h
   have:=(Option.some.inj h).symm
   subst this
   rcases List.mem_cons.1 hx with rfl|hx
   ·exact .inl rfl
   ·exact VO m _ _ ys e x hx
 | m+1,k,(i,y)::r,xs,h,x,hx=>by
  simp only[wk] at h
  split at h
  ·cases e:wk z (k+1) m r with
   | none=>rw[e] at h;cases h
   | some ys =>
    rw[e] at h
    have:=(Option.some.inj h).symm
    subst this
    rcases List.mem_cons.1 hx with rfl|hx
    ·exact .inr ⟨i,by simp⟩
    ·exact(VO m _ _ ys e x hx).imp id λ⟨a,ha⟩=>⟨a,by simp[ha]⟩
  ·cases e:wk z (k+1) m ((i,y)::r) with
   | none=>rw[e] at h;cases h
   | some ys =>
    rw[e] at h
    have:=(Option.some.inj h).symm
    subst this
    rcases List.mem_cons.1 hx with rfl|hx
    ·exact .inl rfl
    ·exact VO m _ _ ys e x hx
theorem zmg {z:Value} {l:List (Nat × Operand)} (h:Y6 0 l=some []∨wk z 0 0 l=some []):l=[]:=by
 cases l with
 | nil=>rfl
 | cons p r =>
  obtain⟨i,x⟩:=p
  rcases h with h|h
  ·have:=Y7 _ _ _ h
   simp at this
  ·simp[wk] at h
theorem ziV {t e:TypeId} {n:Nat} {parts:Array (Nat × Operand)} {xs:List Operand} {z:Value} (ht:P.underlying t=some (.slice e)) (hz:(P.info? e).bind (·.zero)=some z) (h24:n*P.cellsOf e≤16777216) (hpos:0<P.cellsOf e)
  (hxs:Y6 0 parts.toList=some xs∨wk z 0 n parts.toList=some xs) (ho:o.op=.buildSlice t n parts) (h:step P seq (.xe (P.cellsOf e) n xs) env H K):Sound P o env H K:=by
 simp only[step] at h
 obtain⟨h1,h23⟩:=zdZ _ _ _ h
 rw[wg] at h23
 obtain⟨h2,h3⟩:=h23
 rw[vY] at h3
 simp only[List.length_map] at h2
 obtain⟨ei,hi1,hi2⟩:=wJ (e:=e) (P:=P) (by omega)
 subst h2
 refine Xq h3 λJ F w a G hok hops hrd hn=>?_
 have hsub:∀(i:Nat) (x:Operand),(i,x)∈parts.toList→x∈o.op.operands:=λi x hx=>by
  simp only[ho,Op.operands]
  simp only[List.mem_toArray,List.mem_map]
  exact⟨(i,x),hx,rfl⟩
 let zc:Array Value:=(Array.range (xs.length*P.cellsOf e)).map (z.cells[·%z.cells.size]!)
 have hzc:∀i j,0≤i→i<0+xs.length→j<P.cellsOf e→z.cells.size=P.cellsOf e→zc[i*P.cellsOf e+j]? = z.cells[j]?:=λi j _ hi hj hs=>by
  have h1:(i+1)*P.cellsOf e≤xs.length*P.cellsOf e:=Nat.mul_le_mul_right _ (by omega)
  rw[Nat.add_mul] at h1
  have h2:i*P.cellsOf e+j<xs.length*P.cellsOf e:=by omega
  have h3:(i*P.cellsOf e+j)%P.cellsOf e=j:=by rw[Nat.mul_add_mod_self_right,Nat.mod_eq_of_lt hj]
  have h4:j<z.cells.size:=by omega
  have h5:z.cells[j]? = some z.cells[j]!:=by rw[Array.getElem?_eq_getElem h4,getElem!_pos z.cells j h4]
  rw[h5]
  simp[zc,h2,hs,h3]
 have hmem:∀x∈xs,x=.const z∨x∈o.op.operands:=λx hx=>by
  rcases hxs with hxs|hxs
  ·obtain⟨j,hj,e⟩:=List.mem_iff_getElem.1 hx
   refine .inr (hsub j x ?_)
   rw[Y7 _ _ _ hxs]
   refine List.mem_map.2 ⟨(x,j),?_,rfl⟩
   rw[List.mem_zipIdx_iff_getElem?]
   simp[hj,e]
  ·exact(VO _ _ _ _ hxs x hx).imp id λ⟨i,hi⟩=>hsub i x hi
 have hrep:∀x∈xs,rep J F w (xi env x) (a.eval x):=λx hx=>by
  rcases hmem x hx with rfl|h
  ·exact zsb J F w z
  ·exact hops x h
 have hcs:∀v∈xs.map a.eval,v.cells.size=P.cellsOf e:=λv hv=>by
  obtain⟨x,hx,rfl⟩:=List.mem_map.1 hv
  have:=xx _ _ (Xi (h1 x hx).1 (hrep x hx)).1
  rw[(h1 x hx).2,←this];simp
 obtain⟨c',f1,f2,_,f4⟩:=zej (P.cellsOf e) (xs.map a.eval) 0 zc hcs (by simp[zc])
 have f1':Instr.fill (λi=>some (i*P.cellsOf e,P.cellsOf e)) zc (parts.map λ(i,x)=>(i,a.eval x)).toList=some c':=by
  rw[Array.toList_map]
  rcases hxs with hxs|hxs
  ·rw[Y7 _ _ _ hxs,←f1,List.zipIdx_map,List.map_map,List.map_map]
   rfl
  ·obtain⟨_,_,h3⟩:=zhZ (zH:=P.cellsOf e) a.eval rfl _ 0 _ xs zc hxs (λx hx=>hcs _ (List.mem_map.2 ⟨x,hx,rfl⟩)) (by simp[zc]) hzc
   rw[←f1,←h3]
 have hrun:(execOp a.eval o).run P w=.ok (.value (.slice (some ⟨w.heap.size,0,none⟩) xs.length xs.length)) (w.alloc (.cells c' e)):=by
  by_cases hx0:xs.length*P.cellsOf e=0
  ·have hx:xs=[]:=by
    rcases Nat.mul_eq_zero.1 hx0 with h|h
    ·exact List.length_eq_zero_iff.1 h
    ·omega
   subst hx
   have hparts:parts.toList=[]:=zmg (z:=z) hxs
   have hzc:zc=#[]:=by simp[zc]
   simp only[List.map_nil,List.zipIdx_nil] at f1
   rw[hzc] at f1
   simp[Instr.fill] at f1
   subst f1
   have hp:parts=#[]:=Array.ext' hparts
   subst hp
   simp[execOp,ho,Instr.buildSlice,underlying,program,Sem.run,ht,pure,xI hi1,hi2,Instr.fill,newRow,newObj]
   congr 2
   apply Array.ext'
   simp
  ·have hz':¬(xs.length*P.cellsOf e>2^24):=by omega
   simp only[execOp,ho,Instr.buildSlice,underlying,program,Sem.run_bind,Sem.run,ht,pure,Result.andThen_ok,xI hi1,hi2,if_neg hz',if_neg hx0,Yi hz]
   rw[show(Array.map (λx=>z.cells[x%z.cells.size]!) (Array.range (xs.length*P.cellsOf e)))=zc from rfl,f1']
   simp[newRow,newObj,Sem.run,pure]
 obtain⟨J',k1,k2,k3,k4⟩:=zaS (zH:=P.cellsOf e) (cap:=xs.length) (xs:=xs.map λx=>(xi env x).cells) (vals:=c') hok H.length hn e (by simp) (by rw[f2];simp[zc]) λj x hj=>by
  rw[List.getElem?_map] at hj
  cases ej:xs[j]? with
  | none=>rw[ej] at hj;cases hj
  | some y =>
   rw[ej] at hj
   simp at hj;subst hj
   have hy:=List.mem_of_getElem? ej
   refine⟨(h1 y hy).2.symm,λk c hc=>?_⟩
   obtain⟨q1,q0⟩:=Xi (h1 y hy).1 (hrep y hy)
   obtain⟨u,q2,q3⟩:=vI _ _ _ _ hc q1
   refine⟨u,?_,q0 u (List.mem_of_getElem? q2),q3⟩
   have:=f4 j (a.eval y) k u (by simp[ej]) (by simpa using q2)
   simpa using this
 simp only[List.length_map] at k4
 exact⟨_,_,J',F,hrun,k4,k1,k2,k3⟩
theorem zqb {t e:TypeId} {l c:Operand} {z:Value} (ht:P.underlying t=some (.slice e)) (hz:(P.info? e).bind (·.zero)=some z) (hzs:z.cells.size=P.cellsOf e) (hpos:0<P.cellsOf e) (hbp:0<P.bytesOf e) (hone:z.cells.toList.all yx=true)
  (ho:o.op=.makeSlice t l c) (h:step P seq (.wE (P.cellsOf e) (P.bytesOf e) z.cells.toList l c) env H K):Sound P o env H K:=by
 simp only[step,yN] at h
 obtain⟨ei,hi1,hi2⟩:=wJ (e:=e) (P:=P) (by omega)
 have hi3:ei.bytes=P.bytesOf e:=by simp[Program.bytesOf,hi1]
 split at h
 ·rename_i nl nc e1 e2
  obtain⟨h0,h1,h2,h3⟩:=h
  rw[vY] at h3
  refine Xq h3 λJ F w a G hok hops hrd hn=>?_
  have k1:=hops l (by simp[ho,Op.operands])
  have k2:=hops c (by simp[ho,Op.operands])
  rw[e1] at k1;rw[e2] at k2
  simp only[rep] at k1 k2
  have hz':ei.zero=some z:=by simpa [hi1] using hz
  have hb:(ei.bytes:Int)*nc≤281474976710656:=by rw[hi3,Int.mul_comm];omega
  have hbig:nc≤9223372036854775807:=by
   have:nc*1≤nc*(P.bytesOf e:Int):=Int.mul_le_mul_of_nonneg_left (by omega) (by omega)
   omega
  ·have run:=run_make (P:=P) w t e ei z ht hi1 hz' .i64 .i64 nl nc h0 h1 hb hbig
   obtain⟨J',q1,q2,q3,q4⟩:=zaS (zH:=P.cellsOf e) (cap:=nc.toNat) (xs:=List.replicate nl.toNat (z.cells.toList.map .sc)) (vals:=madeCells z.cells (nc.toNat * ei.size)) hok H.length hn e (by simp;omega) (by simp[madeCells,hi2]) λj x hj=>by
    rw[List.getElem?_replicate] at hj
    split at hj
    ·rename_i hjl
     cases hj
     refine⟨by simp[hzs],λk c hc=>?_⟩
     rw[List.getElem?_map] at hc
     cases ek:z.cells.toList[k]? with
     | none=>rw[ek] at hc;cases hc
     | some u =>
      rw[ek] at hc
      cases hc
      have hk:k<P.cellsOf e:=by
       have:k<z.cells.toList.length:=by
        rcases Nat.lt_or_ge k z.cells.toList.length with h|h
        ·exact h
        ·rw[List.getElem?_eq_none h] at ek;cases ek
       rw[←hzs];simpa using this
      refine⟨u,?_,List.all_eq_true.1 hone u (List.mem_of_getElem? ek),by simp only[rep]⟩
      have hlt:j*P.cellsOf e+k<nc.toNat * ei.size:=by
       rw[hi2]
       have:(j+1)*P.cellsOf e≤nc.toNat * P.cellsOf e:=Nat.mul_le_mul_right _ (by omega)
       rw[Nat.add_mul] at this;omega
      have hm:(j*P.cellsOf e+k)%z.cells.size=k:=by rw[hzs,Nat.mul_comm,Nat.mul_add_mod];exact Nat.mod_eq_of_lt hk
      have hks:k<z.cells.size:=by rw[hzs];exact hk
      have ek':z.cells[k]=u:=by
       rw[Array.getElem?_toList] at ek
       simpa [Array.getElem?_eq_getElem hks] using ek
      simp only[madeCells,Array.getElem?_map]
      rw[Array.getElem?_eq_getElem (by simpa using hlt)]
      simp[hm,hks,ek']
    ·cases hj
   simp only[List.length_replicate] at q4
   have e3:nl.toNat≤nc.toNat:=by omega
   refine⟨_,_,J',F,?_,q4,q1,q2,q3⟩
   simp[execOp,ho,k1,k2,run,Sem.run,pure]
 ·exact h.elim
end
end
section
open Go.RowKit
structure zcl (w w':World) (b o:Nat) (us:List Value) (vals:Array Value) (te:TypeId):Prop where
 os:w'.os=w.os
 tape:w'.tape=w.tape
 output:w'.output=w.output
 size:w'.heap.size=w.heap.size
 other:∀k,k≠b→w'.heap[k]? = w.heap[k]?
 here:∃vals',w'.heap[b]? = some (.cells vals' te (0,0))∧vals'.size=vals.size∧∀j,vals'[j]? = if o≤j∧j<o+us.length then us[j-o]? else vals[j]?
theorem zfk {P:Program} {w:World} {a:Addr} {u u':Value} (hu:yx u=true) (hc:w.cell? a=some u') (hf:w.frozen? a=false):(store a u).run P w=.ok () (w.setCell a u):=by
 cases u<;>simp[yx] at hu<;>simp[store,Sem.run,hc,hf]
theorem uR {P:Program} {b o:Nat}:∀(us:List Value) (i:Nat) (w:World) (vals:Array Value) (te:TypeId),w.heap[b]? = some (.cells vals te (0,0))→o+i+us.length≤vals.size→(∀u∈us,yx u=true) →
  ∃w',(storeCells ⟨b,o,none⟩ us i).run P w=.ok () w'∧zcl w w' b (o+i) us vals te
 | [],i,w,vals,te,hb,_,_=>⟨w,rfl,rfl,rfl,rfl,rfl,λ_ _=>rfl,vals,hb,rfl,λj=>by simp;intro h1 h2;omega⟩
 | u::r,i,w,vals,te,hb,hl,h1=>by
  simp only[List.length_cons] at hl
  have hc:w.cell? ⟨b,o+i,none⟩=vals[o+i]?:=by simp[World.cell?,hb]
  have hf:=frozen_of_row w b (o+i) vals te hb
  have hlt:o+i<vals.size:=by omega
  have hset:=heap_setCell_same w b (o+i) vals te u hb
  obtain⟨w',e1,k⟩:=uR (P:=P) (b:=b) (o:=o) r (i+1) (w.setCell ⟨b,o+i,none⟩ u) (vals.setIfInBounds (o+i) u) te hset (by simp;omega) λv hv=>h1 v (by simp[hv])
  have hrun:(store (⟨b,o+i,none⟩:Addr) u).run P w=.ok () (w.setCell ⟨b,o+i,none⟩ u):=by
   have hu:=h1 u (by simp)
   rw[Array.getElem?_eq_getElem hlt] at hc
   exact zfk hu hc hf
  refine⟨w',?_,?_⟩
  ·simp only[storeCells,uy,Sem.run_bind,hrun,Result.andThen_ok]
   exact e1
  ·obtain⟨vals',q1,q2,q3⟩:=k.here
   refine⟨k.os,k.tape,k.output,by rw[k.size];simp[World.setCell],λx hx=>by rw[k.other x hx];exact heap_setCell_other w _ x u hx,vals',q1,by rw[q2];simp,λj=>?_⟩
   rw[q3]
   by_cases e:j=o+i
   ·subst e
    rw[if_neg (by omega),if_pos (by simp)]
    simp[Array.getElem?_setIfInBounds,hlt]
   ·by_cases h2:o+(i+1)≤j∧j<o+(i+1)+r.length
    ·rw[if_pos h2,if_pos (by simp;omega),show j-(o+i)=j-(o+(i+1))+1 by omega,List.getElem?_cons_succ]
    ·rw[if_neg h2,if_neg (by simp;omega),Array.getElem?_setIfInBounds_ne (by omega)]
theorem zcl.cell {w w':World} {b o:Nat} {us:List Value} {vals:Array Value} {te:TypeId} (h:zcl w w' b o us vals te) (hb:w.heap[b]? = some (.cells vals te (0,0))) (j:Nat) :
  w'.cell? ⟨b,j,none⟩=if o≤j∧j<o+us.length then us[j-o]? else w.cell? ⟨b,j,none⟩:=by
 obtain⟨vals',h1,_,h3⟩:=h.here
 simp only[World.cell?,h1,hb]
 simpa using h3 j
theorem Uv {J J':yX} {F:Nat→Prop} {w w':World} {b o n:Nat} {us:List Value} {vals:Array Value} {te:TypeId} (h:zcl w w' b (o+n) us vals te) (hb:w.heap[b]? = some (.cells vals te (0,0)))
  (hle:J.le J') (hF:∀x,F x→w'.heap[x]? = w.heap[x]?) {cs xs:List D} (hc:zS J F w b cs o) (h0:∀u∈us,yx u=true) (hx:yf J F w xs us) (hn:n+xs.length≤cs.length) :
  zS J' F w' b (cs.take n++xs++cs.drop (n+xs.length)) o:=by
 have hl:=xx _ _ hx
 refine xw _ _ λj c hj=>?_
 rw[h.cell hb]
 by_cases h1:j<n
 ·rw[if_neg (by omega)]
  rw[List.append_assoc,List.getElem?_append_left (by simp;omega),List.getElem?_take,if_pos h1] at hj
  obtain⟨u,q1,q0,q2⟩:=xC cs o j c hj hc
  exact⟨u,q1,q0,yT hle (λ_ h=>h) hF _ _ q2⟩
 ·by_cases h2:j<n+xs.length
  ·rw[if_pos (by omega)]
   rw[List.append_assoc,List.getElem?_append_right (by simp;omega)] at hj
   rw[List.getElem?_append_left (by simp;omega)] at hj
   simp only[List.length_take] at hj
   rw[show j-min n cs.length=j-n by omega] at hj
   obtain⟨u,q1,q2⟩:=vI _ _ _ _ hj hx
   exact⟨u,by rw[show o+j-(o+n)=j-n by omega];exact q1,h0 u (List.mem_of_getElem? q1),yT hle (λ_ h=>h) hF _ _ q2⟩
  ·rw[if_neg (by omega)]
   rw[List.getElem?_append_right (by simp;omega),List.getElem?_drop] at hj
   simp only[List.length_append,List.length_take] at hj
   rw[show n+xs.length+(j-(min n cs.length+xs.length))=j by omega] at hj
   obtain⟨u,q1,q0,q2⟩:=xC cs o j c hj hc
   exact⟨u,q1,q0,yT hle (λ_ h=>h) hF _ _ q2⟩
theorem zcl.ext {J J':yX} {F:Nat→Prop} {w w':World} {G:Nat→Option zf} {b o:Nat} {us:List Value} {vals:Array Value} {te:TypeId} (h:zcl w w' b o us vals te) (hok:yZ J F w G)
  (hle:J.le J') (hown:Zs J b) (hback:∀x,Zs J' x→Zs J x) (hF:¬F b):Ext J F w J' F w' :=
 ⟨h.os,h.tape,h.output,by rw[h.size];exact Nat.le_refl _,λx hx hn=>h.other x λe=>hn (e▸hown),λx hx=>h.other x λe=>hF (e▸hx),hle,λ_ h=>h,λx hx=>.inl (hback x hx),λx hx=>.inl hx⟩
theorem zhF {xs:List (List D)} {i:Nat} {r:List D} (j:Nat) (x:List D) (h:(xs.set i r)[j]? = some x):(j=i∧x=r∧i<xs.length)∨(j≠i∧xs[j]? = some x):=by
 rw[List.getElem?_set] at h
 by_cases e:i=j
 ·rw[if_pos e] at h
  split at h
  ·cases h;exact .inl ⟨e.symm,rfl,by assumption⟩
  ·cases h
 ·rw[if_neg e] at h
  exact .inr ⟨λq=>e q.symm,h⟩
theorem zfo {J J':yX} {F:Nat→Prop} {w w':World} {b o i n zH:Nat} {us:List Value} {vals:Array Value} {te:TypeId} (h:zcl w w' b (o+i*zH+n) us vals te) (hb:w.heap[b]? = some (.cells vals te (0,0)))
  (hle:J.le J') (hF:∀x,F x→w'.heap[x]? = w.heap[x]?) {ys:List (List D)} {row xs:List D} (hy:yk J F w b zH ys o) (hi:ys[i]? = some row) (h0:∀u∈us,yx u=true) (hx:yf J F w xs us) (hn:n+xs.length≤row.length) :
  yk J' F w' b zH (ys.set i (row.take n++xs++row.drop (n+xs.length))) o:=by
 have hl:=xx _ _ hx
 refine vr _ _ λj x hj=>?_
 obtain⟨r1,r2⟩:=wM ys o i row hi hy
 rcases zhF j x hj with⟨rfl,rfl,_⟩|⟨hne,hj⟩
 ·exact⟨by simp;omega,Uv h hb hle hF r2 h0 hx hn⟩
 ·obtain⟨q1,q2⟩:=wM ys o j x hj hy
  refine⟨q1,xw _ _ λk c hc=>?_⟩
  have hk:k<x.length:=by
   rcases Nat.lt_or_ge k x.length with h|h
   ·exact h
   ·rw[List.getElem?_eq_none h] at hc;cases hc
  obtain⟨u,p1,p0,p2⟩:=xC x _ k c hc q2
  refine⟨u,?_,p0,yT hle (λ_ h=>h) hF _ _ p2⟩
  rw[h.cell hb,if_neg ?_]
  ·exact p1
  ·rintro⟨a1,a2⟩
   rcases Nat.lt_or_gt_of_ne hne with hlt|hlt
   ·have:(j+1)*zH≤i*zH:=Nat.mul_le_mul_right _ hlt
    rw[Nat.add_mul] at this;omega
   ·have:(i+1)*zH≤j*zH:=Nat.mul_le_mul_right _ hlt
    rw[Nat.add_mul] at this;omega
section
variable {P:Program} {seq:Bool} {o:Oper} {env:Env} {H:List zf} {K:Jk}
theorem za3 {ob:zf} {id:Nat} {d:D} (hid:id<H.length) (hK:K d (H.set id ob) [] [id])
  (h:∀(J:yX) (F:Nat→Prop) (w:World) (a:Act) (G:Nat→Option zf),yZ J F w G→(∀x∈o.op.operands,rep J F w (xi env x) (a.eval x))→G id=H[id]? →
   ∃v w',(execOp a.eval o).run P w=.ok v w'∧(v=.value undef∨v=.skip)∧d=.sc undef∧yZ J F w' (λi=>if i=id then some ob else G i)∧Ext J F w J F w'):Sound P o env H K:=by
 refine⟨d,H.set id ob,[],[id],⟨λi hi=>?_,by simp,λi hi=>by simp at hi;simp[hi,hid],λJ F w a G hok hops hrd hnew K Q hK=>?_⟩,hK⟩
 ·simp at hi
  rw[List.getElem?_set_ne (λe=>hi e.symm)]
 ·obtain⟨v,w',h1,h2,rfl,h3,h4⟩:=h J F w a G hok hops (hrd id (.inr (by simp)))
  have hu:Jy G [id] (H.set id ob)=λi=>if i=id then some ob else G i:=zcy G _ id ob (by simp[hid])
  unfold Oper.wp
  rw[h1]
  rcases h2 with rfl|rfl
  ·rw[Oper.upon_value]
   exact hK _ w' J F (by simp only[rep]) (by rw[hu];exact h3) h4 λi hi _=>hi
  ·rw[Oper.upon_skip]
   exact hK _ w' J F (by simp only[rep]) (by rw[hu];exact h3) h4 λi hi _=>hi
theorem zbH {t:TypeId} {v:Value} {b off:Nat} {w w':World} (hsz:v.cells.size=P.cellsOf t) (hz:P.cellsOf t≠0) (h:(storeCells ⟨b,off,none⟩ v.cells.toList 0).run P w=.ok () w') :
  (Instr.storeAt t (.pointer (some ⟨b,off,none⟩)) v).run P w=.ok () w':=by
 obtain⟨i,h1,h2⟩:=wJ hz
 simp[Instr.storeAt,Instr.sureAddr,storeVar,xI h1,h2,hsz,Sem.run,pure,h]
theorem zvP {t:TypeId} {x y:Operand} (hz:P.cellsOf t≠0) (ho:o.op=.store t x y) (h:step P seq (.store (P.cellsOf t) x y) env H K):Sound P o env H K:=by
 simp only[step,yN,Vp,wg] at h
 obtain⟨hs,hlen,h⟩:=h
 split at h
 ·rename_i id off e1
  obtain⟨ob,h1,h2⟩:=(yM _ _ _).1 h
  split at h2
  ·rename_i cs
   obtain⟨h3,h4⟩:=(Vf _ _ _ _).1 h2
   obtain⟨h5,h6⟩:=(uk _ _ _ _).1 h4
   refine za3 h5 h6 λJ F w a G hok hops hG=>?_
   have k1:=hops x (by simp[ho,Op.operands])
   obtain⟨k2,k3⟩:=Xi hs (hops y (by simp[ho,Op.operands]))
   rw[e1] at k1
   simp only[rep] at k1
   obtain⟨s,b,q1,q2,q3,q4⟩:=k1
   obtain⟨o',p1,p2⟩:=hok.obj id s q1
   rw[hG,h1] at p1
   cases p1
   obtain⟨p2,p3,p4,p5,p6,b',vals,te,p7,p8,p9,p10,p11⟩:=p2
   rw[q3] at p7;cases p7
   have hl:=xx _ _ k2
   obtain⟨w',r1,r2⟩:=uR (P:=P) (b:=b) (o:=off) (a.eval y).cells.toList 0 w vals te p8 (by omega) k3
   have hown:s.u6=some b:=by simp[Site.u6,q2,q3]
   have hnF:¬F b:=hok.apart id s b _ q1 hown (hG.trans h1) rfl
   have hFw:∀z,F z→w'.heap[z]? = w.heap[z]?:=λz hzF=>r2.other z λe=>hnF (e▸hzF)
   refine⟨.skip,w',?_,.inr rfl,rfl,?_,r2.ext hok (yX.le_refl J) ⟨id,s,q1,hown⟩ (λ_ h=>h) hnF⟩
   ·simp[execOp,ho,q4,zbH (by rw[hlen,←hl];simp) hz r1,Sem.run,pure]
   ·refine hok.update id s _ (λi=>by split;· rename_i e;rw[e];exact q1
                                     ·rfl) (λ_=>rfl) (yX.le_refl J) hFw (by rw[r2.size];exact Nat.le_refl _) (λi s' b' hne hi hb=>r2.other b' λe=>hne (hok.one i id s' s b' hi q1 hb (e▸hown))) (λb' hb=>.inr ⟨s,q1,hb⟩) (λi s' b' hi hb=>hok.xu hi hb) (λb' hb _=>by rw[hown] at hb;cases hb;exact hnF) ?_
    obtain⟨vals',r3,r4,_⟩:=r2.here
    refine⟨p2,p3,p4,by simp;omega,by simp;omega,b,vals',te,q3,r3,by rw[r4,p9];simp;omega,?_,λq=>by cases q⟩
    have r2':zcl w w' b (0+off) (a.eval y).cells.toList vals te:=by simpa using r2
    exact Uv r2' p8 (yX.le_refl J) hFw p10 k3 k2 h3
  ·exact h2.elim
 ·rename_i id zY i off e1
  obtain⟨ob,h1,h2⟩:=(yM _ _ _).1 h
  split at h2
  ·rename_i ver' zH ys
   obtain⟨rfl,row,hrow,h2⟩:=h2
   obtain⟨h3,h4⟩:=(Vf _ _ _ _).1 h2
   obtain⟨h5,h6⟩:=(uk _ _ _ _).1 h4
   refine za3 h5 h6 λJ F w a G hok hops hG=>?_
   have k1:=hops x (by simp[ho,Op.operands])
   obtain⟨k2,k3⟩:=Xi hs (hops y (by simp[ho,Op.operands]))
   rw[e1] at k1
   simp only[rep] at k1
   obtain⟨s,ad,q1,q4,q5,q6⟩:=k1
   obtain⟨p1,p2,p3,p4,p5,p6⟩:=QJ hok q1 (hG.trans h1)
   obtain⟨b,o',q7,q8,q9,rfl⟩:=q6 p2.symm
   have hl:=xx _ _ k2
   rcases p6 with p6|⟨b',o'',vals,te,e,p7,p8,p9,p10⟩
   ·omega
   rw[q8] at e;cases e
   obtain⟨t1,t2⟩:=wM ys o' i row hrow p9
   have hil:i<ys.length:=by omega
   have hroom:o'+i*zH+zH≤vals.size:=by
    have:(i+1)*zH≤s.cap*zH:=Nat.mul_le_mul_right _ (by omega)
    rw[Nat.add_mul] at this;omega
   rw[p3] at q4
   obtain⟨w',r1,r2⟩:=uR (P:=P) (b:=b) (o:=o'+i*zH+off) (a.eval y).cells.toList 0 w vals te p7 (by omega) k3
   rw[Nat.add_zero] at r2
   have hown:s.u6=some b:=by
    have:¬(s.row=false∧s.cap=0):=λh=>by omega
    simp[Site.u6,this,q8]
   have hnF:¬F b:=hok.apart id s b _ q1 hown (hG.trans h1) rfl
   have hFw:∀z,F z→w'.heap[z]? = w.heap[z]?:=λz hzF=>r2.other z λe=>hnF (e▸hzF)
   refine⟨.skip,w',?_,.inr rfl,rfl,?_,r2.ext hok (yX.le_refl J) ⟨id,s,q1,hown⟩ (λ_ h=>h) hnF⟩
   ·simp[execOp,ho,q4,zbH (by rw[hlen,←hl];simp) hz r1,Sem.run,pure]
   ·refine hok.update id s _ (λi=>by split;· rename_i e;rw[e];exact q1
                                     ·rfl) (λ_=>rfl) (yX.le_refl J) hFw (by rw[r2.size];exact Nat.le_refl _) (λi s' b' hne hi hb=>r2.other b' λe=>hne (hok.one i id s' s b' hi q1 hb (e▸hown))) (λb' hb=>.inr ⟨s,q1,hb⟩) (λi s' b' hi hb=>hok.xu hi hb) (λb' hb _=>by rw[hown] at hb;cases hb;exact hnF) ?_
    obtain⟨vals',r3,r4,_⟩:=r2.here
    exact⟨p1,p2,p3,by simp;omega,p5,.inr ⟨b,o',vals',te,q8,r3,by rw[r4];exact p8,zfo r2 p7 (yX.le_refl J) hFw p9 hrow k3 k2 h3,λq=>by cases q⟩⟩
  ·exact h2.elim
 ·exact h.elim
theorem zlx {ob:zf} {id:Nat} {d:D} {r:Value} (hid:id<H.length) (hK:K d (H.set id ob) [] [id]) (hd:∀(J:yX) (F:Nat→Prop) (w:World),rep J F w d r)
  (h:∀(J:yX) (F:Nat→Prop) (w:World) (a:Act) (G:Nat→Option zf),yZ J F w G→(∀x∈o.op.operands,rep J F w (xi env x) (a.eval x))→G id=H[id]? →
   ∃w',(execOp a.eval o).run P w=.ok (.value r) w'∧yZ J F w' (λi=>if i=id then some ob else G i)∧Ext J F w J F w'):Sound P o env H K:=by
 refine⟨d,H.set id ob,[],[id],⟨λi hi=>?_,by simp,λi hi=>by simp at hi;simp[hi,hid],λJ F w a G hok hops hrd hnew K Q hK=>?_⟩,hK⟩
 ·simp at hi
  rw[List.getElem?_set_ne (λe=>hi e.symm)]
 ·obtain⟨w',h1,h3,h4⟩:=h J F w a G hok hops (hrd id (.inr (by simp)))
  have hu:Jy G [id] (H.set id ob)=λi=>if i=id then some ob else G i:=zcy G _ id ob (by simp[hid])
  unfold Oper.wp
  rw[h1,Oper.upon_value]
  exact hK _ w' J F (hd J F w') (by rw[hu];exact h3) h4 λi hi _=>hi
theorem zlM {zs:List (List D)} {lo hi:Nat} {y x:List D} {j:Nat} (h1:lo≤hi) (h2:hi≤zs.length) (h:(zs.take lo++List.replicate (hi-lo) y++zs.drop hi)[j]? = some x) :
  (lo≤j∧j<hi∧x=y)∨(¬(lo≤j∧j<hi)∧zs[j]? = some x):=by
 rw[List.getElem?_append,List.getElem?_append] at h
 simp only[List.length_append,List.length_take,List.length_replicate] at h
 rw[Nat.min_eq_left (by omega),show lo+(hi-lo)=hi by omega] at h
 by_cases k1:j<hi
 ·rw[if_pos k1] at h
  by_cases k2:j<lo
  ·rw[if_pos k2,List.getElem?_take,if_pos k2] at h
   exact .inr ⟨by omega,h⟩
  ·rw[if_neg k2,List.getElem?_replicate,if_pos (by omega)] at h
   cases h
   exact .inl ⟨by omega,k1,rfl⟩
 ·rw[if_neg k1,List.getElem?_drop,show hi+(j-hi)=j by omega] at h
  exact .inr ⟨by omega,h⟩
theorem zAX {t e:TypeId} {args:Array Operand} {ts:Array TypeId} {x:Operand} {z u:Value} (ha:args.toList=[x]) (hts:ts.toList=[t]) (ht:P.underlying t=some (.slice e)) (hz:(P.info? e).bind (·.zero)=some z)
  (hzu:z.cells.toList=[u]) (hc:P.cellsOf e=1∧yx u=true) (ho:o.op=.call { callee:=.builtin .clear,args:=args,argTypes:=ts }) (h:step P seq (.clr u x) env H K):Sound P o env H K:=by
 obtain⟨args⟩:=args
 obtain⟨ts⟩:=ts
 simp only at ha hts
 subst ha hts
 simp only[step,yN] at h
 split at h
 ·rename_i id zY lo hi e1
  obtain⟨ob,h1,h2⟩:=(yM _ _ _).1 h
  split at h2
  ·rename_i ver' zH zs
   obtain⟨rfl,h2⟩:=h2
   obtain⟨rfl,h4⟩:=(wg _ _ _).1 h2
   obtain⟨h5,h6⟩:=(uk _ _ _ _).1 h4
   refine zlx (r:=.tuple #[]) h5 h6 (λJ F w=>by simp only[rep];exact⟨[],rfl,by simp only[yf]⟩) λJ F w a G hok hops hG=>?_
   have k1:=hops x (by simp[ho,Op.operands,Call.operands])
   rw[e1] at k1
   simp only[rep] at k1
   obtain⟨s,A0,n0,c0,q1,q2,q3,q4⟩:=k1
   obtain⟨p1,p2,p3,p4,p5,p6⟩:=QJ hok q1 (hG.trans h1)
   obtain⟨t1,t2,t3,t4,t5,t6⟩:=q4 p2.symm
   have exec:∀r w',(Builtin.clear_ #[t] o.type #[.slice A0 n0 c0]).run P w=.ok r w'→(execOp a.eval o).run P w=.ok (.value r) w':=by
    intro r w' hr
    simp only[execOp,ho,resolve,invoke,builtin,Sem.run_bind,Sem.run,pure,Result.andThen_ok,List.map_toArray,List.map_cons,List.map_nil,q2]
    rw[hr]
    rfl
   by_cases hn:n0=0
   ·have hlh:hi=lo:=by omega
    subst hn
    refine⟨w,exec _ _ ?_,?_,Ext.refl _ _ _⟩
    ·cases A0<;>simp[Builtin.clear_,run_underlying ht,Sem.run,pure]
    ·have:(λi=>if i=id then some (zf.vec true zY 1 (zs.take lo++List.replicate (hi-lo) [D.sc u]++zs.drop hi)) else G i)=G:=by
      funext i
      split
      ·rename_i e
       rw[e,hG,h1,hlh,Nat.sub_self,List.replicate_zero,List.append_nil,List.take_append_drop]
      ·rfl
     rw[this]
     exact hok
   ·have hcap:s.cap≠lo:=by omega
    rcases t6 with t6|⟨b,o',e2,e3⟩
    ·exact absurd t6 hcap
    rcases p6 with p6|⟨b',o'',vals,te,e4,p7,p8,p9,p10⟩
    ·omega
    rw[e2] at e4;cases e4
    obtain⟨w',r1,r2⟩:=uR (P:=P) (b:=b) (o:=o'+lo*s.zH) (List.replicate n0 u) 0 w vals te p7 (by rw[List.length_replicate,p3];omega) (λv hv=>by rw[List.eq_of_mem_replicate hv];exact hc.2)
    rw[Nat.add_zero] at r2
    have hown:s.u6=some b:=by
     have:¬(s.row=false∧s.cap=0):=λh=>by omega
     simp[Site.u6,this,e2]
    have hnF:¬F b:=hok.apart id s b _ q1 hown (hG.trans h1) rfl
    have hFw:∀z,F z→w'.heap[z]? = w.heap[z]?:=λz hzF=>r2.other z λe=>hnF (e▸hzF)
    refine⟨w',exec _ _ ?_,?_,r2.ext hok (yX.le_refl J) ⟨id,s,q1,hown⟩ (λ_ h=>h) hnF⟩
    ·have hzc:(Builtin.zeroCells z.cells n0).toList=List.replicate n0 u:=by
      have hz1:z.cells=#[u]:=by
       rw[←Array.toArray_toList (xs:=z.cells),hzu]
      rw[hz1]
      simp[Builtin.zeroCells]
      apply List.ext_getElem
      ·simp
      ·intro i h1 h2
       simp[Nat.mod_one]
     subst e3
     obtain⟨m,rfl⟩:∃m,n0=m+1:=⟨n0-1,by omega⟩
     simp[Builtin.clear_,run_underlying ht,Yi hz,hzc,r1]
    ·refine hok.update id s _ (λi=>by split;· rename_i e;rw[e];exact q1
                                      ·rfl) (λ_=>rfl) (yX.le_refl J) hFw (by rw[r2.size];exact Nat.le_refl _) (λi s' b' hne hi hb=>r2.other b' λe=>hne (hok.one i id s' s b' hi q1 hb (e▸hown))) (λb' hb=>.inr ⟨s,q1,hb⟩) (λi s' b' hi hb=>hok.xu hi hb) (λb' hb _=>by rw[hown] at hb;cases hb;exact hnF) ?_
     obtain⟨vals',r3,r4,_⟩:=r2.here
     refine⟨p1,p2,p3,by simp;omega,p5,.inr ⟨b,o',vals',te,e2,r3,by rw[r4];exact p8,vr _ _ λj y hj=>?_,λq=>by cases q⟩⟩
     rcases zlM t2 (by omega) hj with⟨g1,g2,rfl⟩|⟨g1,g2⟩
     ·refine⟨rfl,xw _ _ λi c hi=>?_⟩
      obtain⟨rfl,rfl⟩:i=0∧c=.sc u:=by
       cases i with
       | zero=>simp at hi;exact⟨rfl,hi.symm⟩
       | succ i=>simp at hi
      refine⟨u,?_,hc.2,by simp only[rep]⟩
      rw[r2.cell p7,if_pos (by rw[List.length_replicate,p3];omega),List.getElem?_replicate,if_pos (by rw[p3];omega)]
     ·obtain⟨g3,g4⟩:=wM zs o' j y g2 p9
      refine⟨g3,xw _ _ λi c hi=>?_⟩
      obtain⟨v,g5,g6,g7⟩:=xC y _ i c hi g4
      have hi0:i<y.length:=by
       rcases Nat.lt_or_ge i y.length with h|h
       ·exact h
       ·rw[List.getElem?_eq_none h] at hi;cases hi
      refine⟨v,?_,g6,yT (yX.le_refl J) (λ_ h=>h) hFw _ _ g7⟩
      rw[r2.cell p7,if_neg (by rw[List.length_replicate,p3];omega)]
      exact g5
  ·exact h2.elim
 ·exact h.elim
end
end
section
open Go.RowKit
section
variable {J:yX} {F:Nat→Prop} {w:World}
def wq (J:yX) (F:Nat→Prop) (w:World) (zH:Nat) (xs:List (List D)) (us:List Value):Prop :=
 us.length=xs.length*zH∧(∀u∈us,yx u=true)∧∀(j:Nat) (x:List D),xs[j]? = some x→x.length=zH∧∀(k:Nat) (c:D),x[k]? = some c→∃u,us[j*zH+k]? = some u∧yx u=true∧rep J F w c u
theorem ZC {b zH:Nat}:∀(xs:List (List D)) (o:Nat),yk J F w b zH xs o→∃us,wq J F w zH xs us∧∀j u,us[j]? = some u→w.cell? ⟨b,o+j,none⟩=some u
 | [],o,_=>⟨[],⟨by simp,(λu h=>by cases h),(λj x h=>by simp at h)⟩,λj u h=>by simp at h⟩
 | x::r,o,h=>by
  simp only[yk] at h
  obtain⟨h1,h2,h3⟩:=h
  obtain⟨vs,k1,k2,k3⟩:=Yh x o h2
  obtain⟨us,⟨k4,k5,k6⟩,k7⟩:=ZC r (o+zH) h3
  have hl:=xx _ _ k1
  refine⟨vs++us,⟨?_,λu hu=>(List.mem_append.1 hu).elim (k3 u) (k5 u),λj y hj=>?_⟩,λj u hu=>?_⟩
  ·rw[List.length_append,k4,List.length_cons,Nat.add_mul];omega
  ·cases j with
   | zero =>
    simp at hj;subst hj
    refine⟨h1,λk c hc=>?_⟩
    obtain⟨v,q1,q2⟩:=vI _ _ _ _ hc k1
    have hk:k<vs.length:=by
     rcases Nat.lt_or_ge k vs.length with h|h
     ·exact h
     ·rw[List.getElem?_eq_none h] at q1;cases q1
    exact⟨v,by rw[Nat.zero_mul,Nat.zero_add,List.getElem?_append_left hk];exact q1,k3 v (List.mem_of_getElem? q1),q2⟩
   | succ j =>
    obtain⟨q1,q2⟩:=k6 j y (by simpa using hj)
    refine⟨q1,λk c hc=>?_⟩
    obtain⟨u,p1,p2⟩:=q2 k c hc
    refine⟨u,?_,p2⟩
    rw[List.getElem?_append_right (by rw[Nat.add_mul];omega),show(j+1)*zH+k-vs.length=j*zH+k by rw[Nat.add_mul];omega]
    exact p1
  ·by_cases hj:j<vs.length
   ·rw[List.getElem?_append_left hj] at hu
    exact k2 j u hu
   ·rw[List.getElem?_append_right (by omega)] at hu
    have:=k7 _ u hu
    rwa [show o+zH+(j-vs.length)=o+j by omega] at this
theorem wq.append {zH:Nat} {xs ys:List (List D)} {us vs:List Value} (h:wq J F w zH xs us) (k:wq J F w zH ys vs):wq J F w zH (xs++ys) (us++vs):=by
 obtain⟨h1,h2,h3⟩:=h
 obtain⟨k1,k2,k3⟩:=k
 refine⟨by rw[List.length_append,List.length_append,h1,k1,Nat.add_mul],λu hu=>(List.mem_append.1 hu).elim (h2 u) (k2 u),λj x hj=>?_⟩
 by_cases hl:j<xs.length
 ·rw[List.getElem?_append_left hl] at hj
  obtain⟨q1,q2⟩:=h3 j x hj
  refine⟨q1,λk c hc=>?_⟩
  obtain⟨u,p1,p2⟩:=q2 k c hc
  refine⟨u,?_,p2⟩
  rw[List.getElem?_append_left]
  ·exact p1
  ·rcases Nat.lt_or_ge (j*zH+k) us.length with h|h
   ·exact h
   ·rw[List.getElem?_eq_none h] at p1;cases p1
 ·rw[List.getElem?_append_right (by omega)] at hj
  obtain⟨q1,q2⟩:=k3 _ x hj
  refine⟨q1,λk c hc=>?_⟩
  obtain⟨u,p1,p2⟩:=q2 k c hc
  refine⟨u,?_,p2⟩
  have:xs.length*zH≤j*zH:=Nat.mul_le_mul_right _ (by omega)
  rw[List.getElem?_append_right (by omega),show j*zH+k-us.length=(j-xs.length)*zH+k by rw[Nat.sub_mul];omega]
  exact p1
theorem wq.nil (zH:Nat):wq J F w zH [] []:=⟨by simp,(λu h=>by cases h),(λj x h=>by simp at h)⟩
theorem wq.mono {J':yX} {F':Nat→Prop} {w':World} {zH:Nat} {xs:List (List D)} {us:List Value} (h:wq J F w zH xs us) (hm:∀d v,rep J F w d v→rep J' F' w' d v):wq J' F' w' zH xs us :=
 ⟨h.1,h.2.1,λj x hj=>⟨(h.2.2 j x hj).1,λk c hc=>let⟨u,p1,p2,p3⟩:=(h.2.2 j x hj).2 k c hc;⟨u,p1,p2,hm _ _ p3⟩⟩⟩
theorem wq.lie {zH b o:Nat} {xs:List (List D)} {us:List Value} (h:wq J F w zH xs us) (hc:∀j u,us[j]? = some u→w.cell? ⟨b,o+j,none⟩=some u):yk J F w b zH xs o:=by
 refine vr _ _ λj x hj=>?_
 obtain⟨q1,q2⟩:=h.2.2 j x hj
 refine⟨q1,xw _ _ λk c hk=>?_⟩
 obtain⟨u,p1,p2,p3⟩:=q2 k c hk
 exact⟨u,by have:=hc _ u p1;rwa [←Nat.add_assoc] at this,p2,p3⟩
end
section
variable {P:Program} {seq:Bool} {o:Oper} {env:Env} {H:List zf} {K:Jk}
theorem zgt {zH:Nat} {dy:D} {K':List (List D)→List Nat→Prop} (h:zvj H zH dy K'):∃ys rd,K' ys rd ∧
  ∀(J:yX) (F:Nat→Prop) (w:World) (G:Nat→Option zf) (v:Value),yZ J F w G→(∀id∈rd,G id=H[id]?)→rep J F w dy v →
   ∃A c us,v=.slice A ys.length c∧wq J F w zH ys us∧((A=none∧ys=[])∨∃a,A=some a∧∀j u,us[j]? = some u→w.cell? (a.add j)=some u):=by
 unfold zvj at h
 split at h
 ·rename_i esz' ys
  obtain⟨e,h'⟩:=(wg _ _ _).1 h
  subst e
  refine⟨ys,[],h',λJ F w G v hok _ hv=>?_⟩
  simp only[rep] at hv
  obtain⟨A,n,c,rfl,rfl,hc,k⟩:=hv
  rcases k with k|⟨b,o,rfl,hF,k⟩
  ·have:ys=[]:=List.length_eq_zero_iff.1 k
   subst this
   refine⟨A,c,[],rfl,wq.nil _,?_⟩
   cases A with
   | none=>exact .inl ⟨rfl,rfl⟩
   | some a=>exact .inr ⟨a,rfl,λj u h=>by simp at h⟩
  ·obtain⟨us,k1,k2⟩:=ZC _ _ k
   exact⟨_,c,us,rfl,k1,.inr ⟨_,rfl,λj u hu=>by rw[uy];exact k2 j u hu⟩⟩
 ·rename_i id zY lo hi
  obtain⟨ob,h1,h2⟩:=(yM _ _ _).1 h
  split at h2
  ·rename_i m ver' esz' zs
   obtain⟨rfl,h2⟩:=h2
   obtain⟨e,h3⟩:=(wg _ _ _).1 h2
   subst e
   refine⟨_,[id],h3,λJ F w G v hok hrd hv=>?_⟩
   simp only[rep] at hv
   obtain⟨s,A,n,c,q1,rfl,q2,q3⟩:=hv
   obtain⟨p1,p2,p3,p4,p5,p6⟩:=QJ hok q1 ((hrd id (by simp)).trans h1)
   obtain⟨t1,t2,t3,rfl,rfl,t6⟩:=q3 p2.symm
   have hl:((zs.take hi).drop lo).length=hi-lo:=by simp;omega
   rw[hl]
   rcases t6 with t6|⟨b,o,t6,rfl⟩
   ·have:(zs.take hi).drop lo=[]:=List.length_eq_zero_iff.1 (by omega)
    rw[this]
    refine⟨A,_,[],rfl,wq.nil _,?_⟩
    cases A with
    | none=>exact .inl ⟨rfl,rfl⟩
    | some a=>exact .inr ⟨a,rfl,λj u h=>by simp at h⟩
   ·rcases p6 with p6|⟨b',o',vals,te,e,_,_,k,_⟩
    ·have:(zs.take hi).drop lo=[]:=List.length_eq_zero_iff.1 (by omega)
     rw[this]
     exact⟨_,_,[],rfl,wq.nil _,.inr ⟨_,rfl,λj u h=>by simp at h⟩⟩
    ·rw[t6] at e;cases e
     obtain⟨us,k1,k2⟩:=ZC _ _ (vX k lo hi)
     exact⟨_,_,us,rfl,k1,.inr ⟨_,rfl,λj u hu=>by rw[uy,p3];exact k2 j u hu⟩⟩
  ·exact h2.elim
 ·refine⟨[],[],h,λJ F w G v hok _ hv=>?_⟩
  simp only[rep] at hv
  exact⟨none,0,[],hv,wq.nil _,.inl ⟨rfl,rfl⟩⟩
 ·exact h.elim
theorem zky (v:Value):v.oneCell'=yx v:=by cases v<;>rfl
theorem zr9 {J:yX} {F:Nat→Prop} {w:World} {u e':TypeId} {zH n c:Nat} {A:Option Addr} {ys:List (List D)} {us:List Value} (hu:P.underlying u=some (.slice e')) (hn:n=ys.length) (hr:wq J F w zH ys us)
  (h:(A=none∧ys=[])∨∃a,A=some a∧∀j x,us[j]? = some x→w.cell? (a.add j)=some x):Src P zH u (.slice A n c) n us w:=by
 subst hn
 rcases h with⟨rfl,rfl⟩|⟨a,rfl,h⟩
 ·have:us=[]:=List.length_eq_zero_iff.1 (by have:=hr.1;simpa using this)
  subst this
  exact Src.ofNil w hu c
 ·exact Src.ofSlice w hu a _ c us hr.1 h λx hx=>by rw[zky];exact hr.2.1 x hx
theorem grownCap_ge (w:World) (need old:Nat) (e:TypeId):need≤grownCap w need old e:=by
 unfold grownCap Question.cut;simp
theorem yZ.drew {J:yX} {F:Nat→Prop} {w:World} {G:Nat→Option zf} (h:yZ J F w G):yZ J F w.drew G :=
 ⟨λid s hi=>by
  obtain⟨o,h1,h2⟩:=h.obj id s hi
  exact⟨o,h1,xX (w:=w) (w':=w.drew) (yX.le_refl J) (λ_ h=>h) (λ_ _=>rfl) (λ_ _=>rfl) h2⟩,h.one,h.apart,h.lt.mono (w':=w.drew) (λ_ q=>q) (λ_ _=>rfl) h.lt.lt⟩
theorem Ext.drew {J:yX} {F:Nat→Prop} {w:World}:Ext J F w J F w.drew:=⟨rfl,rfl,rfl,Nat.le_refl _,λ_ _ _=>rfl,λ_ _=>rfl,yX.le_refl J,λ_ h=>h,λ_ h=>.inl h,λ_ h=>.inl h⟩
theorem zkc {J:yX} {F:Nat→Prop} {w:World} {d:D} {v:Value} (h:rep J F w d v):rep J F w.drew d v:=yT (w:=w) (w':=w.drew) (yX.le_refl J) (λ_ h=>h) (λ_ _=>rfl) _ _ h
theorem WT (size:Nat) (A:Option Addr) (c:Nat) (w:World):(Builtin.firstCells size 0 (.slice A 0 c)).run P w=.ok (List.toArray []) w:=by
 cases A with
 | none=>exact run_firstCells_none w size 0 0 c
 | some a=>exact run_firstCells_some w size 0 a 0 c [] (by simp) (by simp)
theorem zjw {J:yX} {F:Nat→Prop} {w:World} {zH cap n:Nat} {xs:List (List D)} {us:List Value} {z:Array Value} (hr:wq J F w zH xs us) (hz:z.size=zH) (hn:n=xs.length) (hcap:n≤cap) :
  cap*zH≤(us.toArray++Builtin.zeroCells z (cap-n)).size∧∀(j:Nat) (x:List D),xs[j]? = some x→x.length=zH∧∀(k:Nat) (c:D),x[k]? = some c→∃u,(us.toArray++Builtin.zeroCells z (cap-n))[j*zH+k]? = some u∧yx u=true∧rep J F w c u:=by
 subst hn
 refine⟨?_,λj x hj=>?_⟩
 ·simp only[Array.size_append,List.size_toArray,hr.1,Builtin.zeroCells,Array.size_map,Array.size_range,hz]
  rw[←Nat.add_mul]
  exact Nat.mul_le_mul_right _ (by omega)
 ·obtain⟨q1,q2⟩:=hr.2.2 j x hj
  refine⟨q1,λk c hc=>?_⟩
  obtain⟨u,p1,p2,p3⟩:=q2 k c hc
  refine⟨u,?_,p2,p3⟩
  have hlt:j*zH+k<us.length:=by
   rcases Nat.lt_or_ge (j*zH+k) us.length with h|h
   ·exact h
   ·rw[List.getElem?_eq_none h] at p1;cases p1
  rw[Array.getElem?_append_left (by simpa using hlt)]
  simpa using p1
theorem Vd {t u e ty:TypeId} {ei:TypeInfo} (ht:P.underlying t=some (.slice e)) (hi:P.info? e=some ei) {w:World} {A:Option Addr} {sv:Value} (hs:Src P ei.size u sv 0 [] w) :
  (Builtin.append_ #[t,u] ty #[.slice A 0 0,sv]).run P w=.ok (.slice A 0 0) w:=by
 rcases hs.kind with⟨e',hk⟩|hk<;>cases A<;>simp[Builtin.append_,run_underlying ht,run_underlying hk,sizeOf,typeInfo,hi,hs.len,hs.cells,storeCells]
theorem zpP {J:yX} {F:Nat→Prop} {w:World} {G:Nat→Option zf} (h:yZ J F w G) (id:Nat) (hid:J id=none) (zH zY:Nat) :
  ∃J',yZ J' F w (λi=>if i=id then some (.vec true zY zH []) else G i)∧Ext J F w J' F w∧(∀i,i≠id→J' i=J i)∧rep J' F w (.own id zY 0 0) (.slice none 0 0):=by
 let J':yX:=λi=>if i=id then some ⟨false,zY,none,zH,0,0⟩ else J i
 have hle:J.le J':=λi s hs=>⟨s,by
  have:i≠id:=λe=>by subst e;rw[hid] at hs;cases hs
  simp[J',this,hs],Nat.le_refl _,λ_=>rfl⟩
 refine⟨J',⟨λi s hs=>?_,λi i' s s' b g1 g2 g3 g4=>?_,λi s b o g1 g2 g3 g4=>?_,h.lt⟩,⟨rfl,rfl,rfl,Nat.le_refl _,λ_ _ _=>rfl,λ_ _=>rfl,hle,λ_ h=>h,λb ⟨i,s,hs,hb⟩=>?_,λb hb=>.inl hb⟩,λi hi=>by simp[J',hi],?_⟩
 ·simp only[J'] at hs
  split at hs
  ·rename_i e;subst e
   cases hs
   exact⟨.vec true zY zH [],by simp,rfl,rfl,rfl,rfl,Nat.le_refl _,.inl rfl⟩
  ·rename_i e
   obtain⟨o,h1,h2⟩:=h.obj i s hs
   exact⟨o,by rw[if_neg e];exact h1,xX hle (λ_ h=>h) (λ_ _=>rfl) (λ_ _=>rfl) h2⟩
 ·simp only[J'] at g1 g2
  split at g1
  ·cases g1;simp[Site.u6] at g3
  ·split at g2
   ·cases g2;simp[Site.u6] at g4
   ·exact h.one i i' s s' b g1 g2 g3 g4
 ·simp only[J'] at g1
  split at g1
  ·cases g1;simp[Site.u6] at g2
  ·rename_i e
   rw[if_neg e] at g3
   exact h.apart i s b o g1 g2 g3 g4
 ·simp only[J'] at hs
  split at hs
  ·cases hs;simp[Site.u6] at hb
  ·exact .inl ⟨i,s,hs,hb⟩
 ·simp only[rep]
  exact⟨_,none,0,0,by simp[J'];rfl,rfl,Nat.le_refl _,λ_=>⟨rfl,Nat.le_refl _,Nat.zero_le _,rfl,rfl,.inl rfl⟩⟩
theorem zhz {t u e e':TypeId} {ty:TypeId} {x y:Operand} {z:Value} {ys:List (List D)} {rd:List Nat} (ht:P.underlying t=some (.slice e)) (hu:P.underlying u=some (.slice e')) (hz:(P.info? e).bind (·.zero)=some z) (hzs:z.cells.size=P.cellsOf e) (hpos:0<P.cellsOf e) (hbp:0<P.bytesOf e)
  (hoty:o.type=ty) (ho:o.op=.call { callee:=.builtin .append,args:=#[x,y],argTypes:=#[t,u] }) (hx:xi env x=.sc (.slice none 0 0))
  (hy:∀(J:yX) (F:Nat→Prop) (w:World) (G:Nat→Option zf) (v:Value),yZ J F w G→(∀id∈rd,G id=H[id]?)→rep J F w (xi env y) v →
   ∃A c us,v=.slice A ys.length c∧wq J F w (P.cellsOf e) ys us∧((A=none∧ys=[])∨∃a,A=some a∧∀j u,us[j]? = some u→w.cell? (a.add j)=some u))
  (hfit:xd 0 (P.bytesOf e) ys.length) (hK:K (.own H.length 0 0 ys.length) (H++[.vec true 0 (P.cellsOf e) ys]) rd [H.length]):Sound P o env H K:=by
 obtain⟨ei,hi1,hi2⟩:=wJ (e:=e) (P:=P) (by omega)
 have hi3:ei.bytes=P.bytesOf e:=by simp[Program.bytesOf,hi1]
 have hz':ei.zero=some z:=by simpa [hi1] using hz
 refine Xq hK λJ F w a G hok hops hrd hn=>?_
 have k1:=hops x (by simp[ho,Op.operands,Call.operands])
 rw[hx] at k1
 simp only[rep] at k1
 obtain⟨A,c,us,k2,k3,k4⟩:=hy J F w G _ hok hrd (hops y (by simp[ho,Op.operands,Call.operands]))
 have hsrc:=zr9 (P:=P) (n:=ys.length) (c:=c) hu rfl k3 k4
 rw[←hi2] at hsrc
 have hfit':(0+ys.length)*ei.bytes≤140737488355328:=by unfold xd at hfit;rw[hi3];exact hfit
 rcases Nat.eq_zero_or_pos ys.length with h00|h0
 ·have hy0:ys=[]:=List.length_eq_zero_iff.1 h00
  have hus:us=[]:=List.length_eq_zero_iff.1 (by rw[k3.1,hy0];simp)
  subst hy0 hus
  have run:=Vd (P:=P) (w:=w) (A:=none) (ty:=ty) ht hi1 hsrc
  obtain⟨J',r1,r2,r3,r4⟩:=zpP (w:=w) hok H.length hn (P.cellsOf e) 0
  refine⟨_,_,J',F,?_,r4,r1,r2,r3⟩
  simp only[execOp,ho,resolve,invoke,builtin,Sem.run_bind,Sem.run,pure,Result.andThen_ok,List.map_toArray,List.map_cons,List.map_nil,k1,k2,hoty]
  rw[run]
  rfl
 have hsmall:ys.length≤140737488355328:=by
  have:ys.length*1≤ys.length*ei.bytes:=Nat.mul_le_mul_left _ (by rw[hi3];exact hbp)
  rw[Nat.zero_add] at hfit';omega
 have run:=run_append_grow_src (P:=P) w t u ty e ei z ht hi1 hz' none 0 0 [] (by exact WT ei.size none 0 w.drew) (.slice A ys.length c) ys.length us hsrc (by omega) (by omega) (growslice_fits (by omega) hfit')
 rw[Nat.zero_add] at run
 obtain⟨q1,q2⟩:=zjw (cap:=grownCap w ys.length 0 e) k3 hzs rfl (grownCap_ge w _ _ _)
 obtain⟨J',r1,r2,r3,r4⟩:=zaS (w:=w.drew) (zH:=P.cellsOf e) (cap:=grownCap w ys.length 0 e) (xs:=ys) (vals:=us.toArray++Builtin.zeroCells z.cells (grownCap w ys.length 0 e-ys.length)) hok.drew H.length hn e (grownCap_ge w _ _ _) q1 λj x hj=>⟨(q2 j x hj).1,λk c hc=>let⟨u,p1,p2,p3⟩:=(q2 j x hj).2 k c hc;⟨u,p1,p2,zkc p3⟩⟩
 refine⟨_,_,J',F,?_,r4,r1,Ext.drew.trans r2,r3⟩
 simp only[List.nil_append] at run
 simp only[execOp,ho,resolve,invoke,builtin,Sem.run_bind,Sem.run,pure,Result.andThen_ok,List.map_toArray,List.map_cons,List.map_nil,k1,k2,hoty]
 rw[run]
 rfl
theorem yX.zh0 {J:yX} {id:Nat} {s s':Site} (h:J id=some s) (hr:s.row=false) (hv:s.zY<s'.zY):J.le (λi=>if i=id then some s' else J i):=λi t ht=>by
 by_cases e:i=id
 ·subst e
  rw[h] at ht;cases ht
  exact⟨s',by simp,by omega,λq=>by rcases q with q|q;· omega
                                   ·rw[hr] at q;cases q⟩
 ·exact⟨t,by simp[e,ht],Nat.le_refl _,λ_=>rfl⟩
theorem zl3 {J:yX} {F:Nat→Prop} {w:World} {G:Nat→Option zf} (h:yZ J F w G) (id:Nat) {s:Site} (hs:J id=some s) (hrow:s.row=false) {zY zH cap:Nat} (hver:s.zY<zY) {xs:List (List D)} {vals:Array Value} (te:TypeId)
  (hlen:xs.length≤cap) (hsz:cap*zH≤vals.size) (hx:∀(j:Nat) (x:List D),xs[j]? = some x→x.length=zH∧∀(k:Nat) (c:D),x[k]? = some c→∃u,vals[j*zH+k]? = some u∧yx u=true∧rep J F w c u) :
  ∃J',yZ J' F (w.alloc (.cells vals te)) (λi=>if i=id then some (.vec true zY zH xs) else G i)∧Ext J F w J' F (w.alloc (.cells vals te)) ∧
   (∀i,i≠id→J' i=J i)∧rep J' F (w.alloc (.cells vals te)) (.own id zY 0 xs.length) (.slice (some ⟨w.heap.size,0,none⟩) xs.length cap):=by
 have hle:=yX.zh0 (s':=⟨false,zY,some ⟨w.heap.size,0,none⟩,zH,cap,xs.length⟩) hs hrow hver
 have hF:∀b,F b→(w.alloc (.cells vals te)).heap[b]? = w.heap[b]?:=λb hb=>wG w _ (h.lt b hb)
 have hrows:yk (λi=>if i=id then some ⟨false,zY,some ⟨w.heap.size,0,none⟩,zH,cap,xs.length⟩ else J i) F (w.alloc (.cells vals te)) w.heap.size zH xs 0:=by
  refine vr _ _ λj x hj=>?_
  obtain⟨k1,k2⟩:=hx j x hj
  refine⟨k1,xw _ _ λk c hc=>?_⟩
  obtain⟨u,q1,q0,q2⟩:=k2 k c hc
  exact⟨u,by simp[q1],q0,yT hle (λ_ h=>h) hF _ _ q2⟩
 have hbs:∀b,Site.u6 ⟨false,zY,some ⟨w.heap.size,0,none⟩,zH,cap,xs.length⟩=some b→b=w.heap.size:=λb hb=>by
  unfold Site.u6 at hb
  split at hb
  ·cases hb
  ·simpa using hb.symm
 refine⟨_,h.update id ⟨false,zY,some ⟨w.heap.size,0,none⟩,zH,cap,xs.length⟩ (.vec true zY zH xs) (λ_=>rfl) (λ_=>rfl) hle hF (by simp) (λi s b _ hi hb=>wG w _ (h.xu hi hb)) (λb hb=>.inl (by rw[hbs b hb];exact Nat.le_refl _)) (λi s b hi hb=>h.xu hi hb) (λb hb _ hFb=>?_)
  ⟨rfl,rfl,rfl,rfl,hlen,.inr ⟨w.heap.size,0,vals,te,rfl,heap_alloc_new w _,by simpa using hsz,hrows,λq=>by cases q⟩⟩,?_,λi hi=>by simp[hi],?_⟩
 ·have:=h.lt b hFb
  rw[hbs b hb] at this;omega
 ·exact⟨rfl,rfl,rfl,by simp,λb hb _=>wG w _ hb,hF,hle,λ_ h=>h,λb ⟨i,t,hi,hb⟩=>by
   dsimp only at hi
   by_cases e:i=id
   ·rw[if_pos e] at hi;cases hi
    exact .inr (by rw[hbs b hb];exact Nat.le_refl _)
   ·rw[if_neg e] at hi
    exact .inl ⟨i,t,hi,hb⟩,λb hb=>.inl hb⟩
 ·simp only[rep]
  exact⟨_,_,_,_,by simp;rfl,rfl,Nat.le_refl _,λ_=>⟨rfl,Nat.zero_le _,Nat.le_refl _,by simp,by simp,.inr ⟨w.heap.size,0,rfl,by simp⟩⟩⟩
theorem zkV {ob:zf} {id:Nat} {d:D} {rd:List Nat} (hid:id<H.length) (hK:K d (H.set id ob) rd [id])
  (h:∀(J:yX) (F:Nat→Prop) (w:World) (a:Act) (G:Nat→Option zf),yZ J F w G→(∀x∈o.op.operands,rep J F w (xi env x) (a.eval x))→(∀i∈rd,G i=H[i]?)→G id=H[id]? →
   ∃v w' J' F',(execOp a.eval o).run P w=.ok (.value v) w'∧rep J' F' w' d v∧yZ J' F' w' (λi=>if i=id then some ob else G i)∧Ext J F w J' F' w'∧(∀i,i≠id→J' i=J i)):Sound P o env H K:=by
 refine⟨d,H.set id ob,rd,[id],⟨λi hi=>?_,by simp,λi hi=>by simp at hi;simp[hi,hid],λJ F w a G hok hops hrd hnew K Q hK=>?_⟩,hK⟩
 ·simp at hi
  rw[List.getElem?_set_ne (λe=>hi e.symm)]
 ·obtain⟨v,w',J',F',h1,h2,h3,h4,h5⟩:=h J F w a G hok hops (λi hi=>hrd i (.inl hi)) (hrd id (.inr (by simp)))
  have hu:Jy G [id] (H.set id ob)=λi=>if i=id then some ob else G i:=zcy G _ id ob (by simp[hid])
  unfold Oper.wp
  rw[h1,Oper.upon_value]
  exact hK v w' J' F' h2 (by rw[hu];exact h3) h4 λi hi hn=>by rw[h5 i (by simpa using hn)];exact hi
theorem zbd {t u e ty:TypeId} {ei:TypeInfo} (ht:P.underlying t=some (.slice e)) (hi:P.info? e=some ei) {w w':World} {b off sLen sCap n:Nat} {sv:Value} {us:List Value} (hs:Src P ei.size u sv n us w) (hroom:sLen+n≤sCap)
  (hst:(storeCells ⟨b,off+sLen*ei.size,none⟩ us 0).run P w=.ok () w') :
  (Builtin.append_ #[t,u] ty #[.slice (some ⟨b,off,none⟩) sLen sCap,sv]).run P w=.ok (.slice (some ⟨b,off,none⟩) (sLen+n) sCap) w':=by
 rcases hs.kind with⟨e',hk⟩|hk<;>simp[Builtin.append_,run_underlying ht,run_underlying hk,sizeOf,typeInfo,hi,hs.len,hroom,hs.cells,uy,hst]
theorem zhC {t u e e':TypeId} {ty:TypeId} {x y:Operand} {z:Value} {ys zs:List (List D)} {rd:List Nat} {id zY lo hi:Nat} (ht:P.underlying t=some (.slice e)) (hu:P.underlying u=some (.slice e')) (hz:(P.info? e).bind (·.zero)=some z) (hzs:z.cells.size=P.cellsOf e) (hpos:0<P.cellsOf e) (hbp:0<P.bytesOf e)
  (hoty:o.type=ty) (ho:o.op=.call { callee:=.builtin .append,args:=#[x,y],argTypes:=#[t,u] }) (hx:xi env x=.own id zY lo hi) (hH:H[id]? = some (.vec true zY (P.cellsOf e) zs))
  (hy:∀(J:yX) (F:Nat→Prop) (w:World) (G:Nat→Option zf) (v:Value),yZ J F w G→(∀id∈rd,G id=H[id]?)→rep J F w (xi env y) v →
   ∃A c us,v=.slice A ys.length c∧wq J F w (P.cellsOf e) ys us∧((A=none∧ys=[])∨∃a,A=some a∧∀j u,us[j]? = some u→w.cell? (a.add j)=some u))
  (hfit:xd (hi-lo) (P.bytesOf e) ys.length) (hK:K (.own id (zY+1) 0 (hi-lo+ys.length)) (H.set id (.vec true (zY+1) (P.cellsOf e) ((zs.take hi).drop lo++ys))) rd [id]):Sound P o env H K:=by
 obtain⟨ei,hi1,hi2⟩:=wJ (e:=e) (P:=P) (by omega)
 have hi3:ei.bytes=P.bytesOf e:=by simp[Program.bytesOf,hi1]
 have hz':ei.zero=some z:=by simpa [hi1] using hz
 have hidl:id<H.length:=by
  rcases Nat.lt_or_ge id H.length with h|h
  ·exact h
  ·rw[List.getElem?_eq_none h] at hH;cases hH
 refine zkV hidl hK λJ F w a G hok hops hrd hG=>?_
 have k1:=hops x (by simp[ho,Op.operands,Call.operands])
 rw[hx] at k1
 simp only[rep] at k1
 obtain⟨s,A0,n0,c0,q1,q2,q3,q4⟩:=k1
 obtain⟨A,c,us,k2,k3,k4⟩:=hy J F w G _ hok hrd (hops y (by simp[ho,Op.operands,Call.operands]))
 have hsrc:=zr9 (P:=P) (n:=ys.length) (c:=c) hu rfl k3 k4
 rw[←hi2] at hsrc
 have hfit':(hi-lo+ys.length)*ei.bytes≤140737488355328:=by unfold xd at hfit;rw[hi3];exact hfit
 have hsmall:hi-lo+ys.length≤140737488355328:=by
  have:(hi-lo+ys.length)*1≤(hi-lo+ys.length)*ei.bytes:=Nat.mul_le_mul_left _ (by rw[hi3];exact hbp)
  omega
 obtain⟨p1,p2,p3,p4,p5,p6⟩:=QJ hok q1 (hG.trans hH)
 obtain⟨t1,t2,t3,t4,t5,t6⟩:=q4 p2.symm
 have P6:=Lib.hid p6
 have T6:=Lib.hid t6
 clear p6 t6 q4
 have hlen:((zs.take hi).drop lo).length=hi-lo:=by simp;omega
 have exec:∀r w',(Builtin.append_ #[t,u] ty #[.slice A0 n0 c0,.slice A ys.length c]).run P w=.ok r w'→(execOp a.eval o).run P w=.ok (.value r) w':=by
  intro r w' hr
  simp only[execOp,ho,resolve,invoke,builtin,Sem.run_bind,Sem.run,pure,Result.andThen_ok,List.map_toArray,List.map_cons,List.map_nil,q2,k2,hoty]
  rw[hr]
  rfl
 -- the old cells
 have hold:∃olds,wq J F w (P.cellsOf e) ((zs.take hi).drop lo) olds∧(Builtin.firstCells ei.size n0 (.slice A0 n0 c0)).run P w.drew=.ok olds.toArray w.drew:=by
  by_cases hc:s.cap=lo
  ·have h0:(zs.take hi).drop lo=[]:=List.length_eq_zero_iff.1 (by omega)
   refine⟨[],by rw[h0];exact wq.nil _,?_⟩
   have hn0:n0=0:=by omega
   subst hn0
   exact WT _ _ _ _
  ·rcases T6.out with h|⟨b,o',e1,e2⟩
   ·exact absurd h hc
   ·rcases P6.out with h|⟨b',o'',vals,te,e3,e4,e5,e6,_⟩
    ·omega
    ·rw[e1] at e3;cases e3
     obtain⟨olds,r1,r2⟩:=ZC _ _ (vX e6 lo hi)
     refine⟨olds,r1,?_⟩
     subst e2
     refine run_firstCells_some (P:=P) w.drew ei.size n0 _ n0 c0 olds (by rw[r1.1,hi2,hlen,t4]) λj v hv=>?_
     rw[uy,p3]
     exact r2 j v hv
 obtain⟨olds,ho1,ho2⟩:=hold
 have hall:wq J F w (P.cellsOf e) ((zs.take hi).drop lo++ys) (olds++us):=ho1.append k3
 have htot:((zs.take hi).drop lo++ys).length=hi-lo+ys.length:=by rw[List.length_append,hlen]
 by_cases hroom:n0+ys.length≤c0
 ·by_cases hc:s.cap=lo
  ·have hy0:ys=[]:=List.length_eq_zero_iff.1 (by omega)
   have hn0:n0=0:=by omega
   have hc0:c0=0:=by omega
   have h0:(zs.take hi).drop lo=[]:=List.length_eq_zero_iff.1 (by omega)
   have hus:us=[]:=List.length_eq_zero_iff.1 (by rw[k3.1,hy0];simp)
   subst hy0 hn0 hc0 hus
   have run:=exec _ _ (Vd (P:=P) (ty:=ty) ht hi1 hsrc)
   have hle:=yX.zh0 (s':=⟨false,zY+1,none,P.cellsOf e,0,0⟩) q1 t1 (by show s.zY<zY+1;omega)
   refine⟨_,w,_,F,run,?_,hok.update id ⟨false,zY+1,none,P.cellsOf e,0,0⟩ _ (λ_=>rfl) (λ_=>rfl) hle (λ_ _=>rfl) (Nat.le_refl _) (λ_ _ _ _ _ _=>rfl) (λb hb=>by simp[Site.u6] at hb) (λi s b hi hb=>hok.xu hi hb) (λb hb=>by simp[Site.u6] at hb) ⟨rfl,rfl,rfl,by rw[h0];rfl,Nat.le_refl _,.inl rfl⟩,?_,λi hi=>by simp[hi]⟩
   ·simp only[rep]
    exact⟨_,_,_,_,by simp;rfl,rfl,Nat.le_refl _,λ_=>⟨rfl,by omega,by simp;omega,by simp;omega,by simp,.inl rfl⟩⟩
   ·exact⟨rfl,rfl,rfl,Nat.le_refl _,λ_ _ _=>rfl,λ_ _=>rfl,hle,λ_ h=>h,λb ⟨i,t,hi,hb⟩=>by
     dsimp only at hi
     by_cases e:i=id
     ·rw[if_pos e] at hi;cases hi
      simp[Site.u6] at hb
     ·rw[if_neg e] at hi
      exact .inl ⟨i,t,hi,hb⟩,λb hb=>.inl hb⟩
  ·rcases T6.out with h|⟨b,o',e1,e2⟩
   ·exact absurd h hc
   rcases P6.out with h|⟨b',o'',vals,te,e3,e4,e5,e6,_⟩
   ·omega
   rw[e1] at e3;cases e3
   subst e2
   have hb1:(n0+ys.length)*P.cellsOf e≤(s.cap-lo)*P.cellsOf e:=Nat.mul_le_mul_right _ (by omega)
   have hb2:(s.cap-lo)*P.cellsOf e+lo*P.cellsOf e=s.cap*P.cellsOf e:=by rw[←Nat.add_mul];congr 1;omega
   have hb3:us.length=ys.length*P.cellsOf e:=k3.1
   rw[Nat.add_mul] at hb1
   obtain⟨w',r1,r2⟩:=uR (P:=P) (b:=b) (o:=o'+lo*s.zH+n0*ei.size) us 0 w vals te e4 (by rw[p3,hi2];omega) k3.2.1
   rw[Nat.add_zero] at r2
   have run:=exec _ _ (zbd (P:=P) (ty:=ty) ht hi1 hsrc hroom r1)
   have hle:=yX.zh0 (s':=⟨false,zY+1,some ⟨b,o'+lo*s.zH,none⟩,P.cellsOf e,s.cap-lo,hi-lo+ys.length⟩) q1 t1 (by show s.zY<zY+1;omega)
   have hown:s.u6=some b:=by
    have:¬(s.row=false∧s.cap=0):=λh=>by omega
    simp[Site.u6,this,e1]
   have hnF:¬F b:=hok.apart id s b _ q1 hown (hG.trans hH) rfl
   have hFw:∀z,F z→w'.heap[z]? = w.heap[z]?:=λz hzF=>r2.other z λe=>hnF (e▸hzF)
   have hbs:∀b1,Site.u6 ⟨false,zY+1,some ⟨b,o'+lo*s.zH,none⟩,P.cellsOf e,s.cap-lo,hi-lo+ys.length⟩=some b1→b1=b:=λb1 hb=>by
    unfold Site.u6 at hb
    split at hb
    ·cases hb
    ·simpa using hb.symm
   obtain⟨vals',s1,s2,s3⟩:=r2.here
   have hrows:yk (λi=>if i=id then some ⟨false,zY+1,some ⟨b,o'+lo*s.zH,none⟩,P.cellsOf e,s.cap-lo,hi-lo+ys.length⟩ else J i) F w' b (P.cellsOf e) ((zs.take hi).drop lo++ys) (o'+lo*s.zH):=by
    obtain⟨olds',m1,m2⟩:=ZC _ _ (vX e6 lo hi)
    have hm:=m1.append k3
    refine wq.lie (us:=olds'++us) (hm.mono λd v h=>yT hle (λ_ h=>h) hFw _ _ h) λj v hv=>?_
    have hol:olds'.length=n0*P.cellsOf e:=by rw[m1.1,hlen,t4]
    rw[r2.cell e4]
    by_cases hj:j<olds'.length
    ·rw[if_neg (by rw[hi2];omega)]
     rw[List.getElem?_append_left hj] at hv
     have:=m2 j v hv
     rwa [p3]
    ·rw[List.getElem?_append_right (by omega)] at hv
     have hjl:j-olds'.length<us.length:=by
      rcases Nat.lt_or_ge (j-olds'.length) us.length with h|h
      ·exact h
      ·rw[List.getElem?_eq_none h] at hv;cases hv
     rw[if_pos (by rw[hi2];omega),show o'+lo*s.zH+j-(o'+lo*s.zH+n0*ei.size)=j-olds'.length by rw[hi2];omega]
     exact hv
   refine⟨_,w',_,F,run,?_,hok.update id ⟨false,zY+1,some ⟨b,o'+lo*s.zH,none⟩,P.cellsOf e,s.cap-lo,hi-lo+ys.length⟩ _ (λ_=>rfl) (λ_=>rfl) hle hFw (by rw[r2.size];exact Nat.le_refl _) (λi s' b' hne hi hb=>r2.other b' λe=>hne (hok.one i id s' s b' hi q1 hb (e▸hown))) (λb1 hb=>.inr ⟨s,q1,by rw[hbs b1 hb];exact hown⟩) (λi s b hi hb=>hok.xu hi hb) (λb1 hb _=>by rw[hbs b1 hb];exact hnF)
    ⟨rfl,rfl,rfl,htot.symm,by show hi-lo+ys.length≤s.cap-lo;omega,.inr ⟨b,o'+lo*s.zH,vals',te,rfl,s1,by rw[s2,p3];show o'+lo*P.cellsOf e+(s.cap-lo)*P.cellsOf e≤vals.size;omega,hrows,λq=>by cases q⟩⟩,?_,λi hi=>by simp[hi]⟩
   ·simp only[rep]
    exact⟨_,_,_,_,by simp;rfl,rfl,Nat.le_refl _,λ_=>⟨rfl,Nat.zero_le _,Nat.le_refl _,by simp;omega,by simp;omega,.inr ⟨b,_,rfl,by simp⟩⟩⟩
   ·refine r2.ext hok hle ⟨id,s,q1,hown⟩ (λx ⟨i,t,hi,hb⟩=>?_) hnF
    dsimp only at hi
    by_cases e:i=id
    ·rw[if_pos e] at hi;cases hi
     rw[hbs x hb]
     exact⟨id,s,q1,hown⟩
    ·rw[if_neg e] at hi
     exact⟨i,t,hi,hb⟩
 ·have run:=exec _ _ (run_append_grow_src (P:=P) w t u ty e ei z ht hi1 hz' A0 n0 c0 olds ho2 (.slice A ys.length c) ys.length us hsrc (by omega) (by omega) (growslice_fits (by omega) (by rw[t4];exact hfit')))
  obtain⟨g1,g2⟩:=zjw (n:=n0+ys.length) (cap:=grownCap w (n0+ys.length) c0 e) hall hzs (by rw[htot,t4]) (grownCap_ge w _ _ _)
  obtain⟨J',r1,r2,r3,r4⟩:=zl3 (w:=w.drew) (zY:=zY+1) (zH:=P.cellsOf e) (cap:=grownCap w (n0+ys.length) c0 e) (xs:=(zs.take hi).drop lo++ys) (vals:=(olds++us).toArray++Builtin.zeroCells z.cells (grownCap w (n0+ys.length) c0 e-(n0+ys.length))) hok.drew id q1 t1 (by show s.zY<zY+1;omega) e (by rw[htot,←t4];exact grownCap_ge w _ _ _) g1 λj x hj=>⟨(g2 j x hj).1,λk c hc=>let⟨u,p1,p2,p3⟩:=(g2 j x hj).2 k c hc;⟨u,p1,p2,zkc p3⟩⟩
  rw[htot] at r4
  refine⟨_,_,J',F,run,?_,r1,Ext.drew.trans r2,r3⟩
  rw[t4]
  rw[t4] at r4
  exact r4
end
end
section
open Go.RowKit
mutual
def D.yI (ρ:Nat→Nat):D→D
 | .xO=>.xO
 | .sc v=>.sc v
 | .loc id off=>.loc (ρ id) off
 | .elt id zY i off=>.elt (ρ id) zY i off
 | .y7 cs=>.y7 (yG ρ cs)
 | .xj e xs=>.xj e (vS ρ xs)
 | .own id zY lo hi=>.own (ρ id) zY lo hi
 | .fn f a b=>.fn f (yG ρ a) (yG ρ b)
 | .ifc t d=>.ifc t (D.yI ρ d)
 | .agg cs=>.agg (yG ρ cs)
 | .yO cs=>.yO (yG ρ cs)
 | .mp id=>.mp (ρ id)
 | .gv g=>.gv g
def yG (ρ:Nat→Nat):List D→List D
 | []=>[]
 | d::r=>D.yI ρ d::yG ρ r
def vS (ρ:Nat→Nat):List (List D)→List (List D)
 | []=>[]
 | d::r=>yG ρ d::vS ρ r
end
def zf.yI (ρ:Nat→Nat):zf→zf
 | .row m cs=>.row m (yG ρ cs)
 | .vec m zY zH xs=>.vec m zY zH (vS ρ xs)
 | .wc m I=>.wc m I
theorem YB (x:Nat):∀n,x∈zhp n↔x<n
 | 0=>by simp[zhp]
 | n+1=>by simp only[zhp,List.mem_cons,YB x n];omega
theorem qT {m:Nat}:∀{l:List zf},wD m l→∀o∈l,o.under m
 | [],_,_,h=>by cases h
 | x::r,h,o,ho=>by
  simp only[wD] at h
  rcases List.mem_cons.1 ho with rfl|ho
  ·exact h.1
  ·exact qT h.2 o ho
mutual
theorem zw {m:Nat}:∀d:D,Pure d→zt m d
 | .xO,_=>by simp only[zt]
 | .sc _,_=>by simp only[zt]
 | .gv _,_=>by simp only[zt]
 | .loc ..,h=>by simp only[Pure] at h
 | .elt ..,h=>by simp only[Pure] at h
 | .own ..,h=>by simp only[Pure] at h
 | .mp ..,h=>by simp only[Pure] at h
 | .y7 cs,h=>by simp only[Pure] at h;simp only[zt];exact zr cs h
 | .xj _ xs,h=>by simp only[Pure] at h;simp only[zt];exact zh xs h
 | .fn _ a b,h=>by simp only[Pure] at h;simp only[zt];exact⟨zr a h.1,zr b h.2⟩
 | .ifc _ d,h=>by simp only[Pure] at h;simp only[zt];exact zw d h
 | .agg cs,h=>by simp only[Pure] at h;simp only[zt];exact zr cs h
 | .yO cs,h=>by simp only[Pure] at h;simp only[zt];exact zr cs h
theorem zr {m:Nat}:∀d:List D,ze d→zl m d
 | [],_=>by simp only[zl]
 | d::r,h=>by simp only[ze] at h;simp only[zl];exact⟨zw d h.1,zr r h.2⟩
theorem zh {m:Nat}:∀d:List (List D),yE d→zF m d
 | [],_=>by simp only[zF]
 | d::r,h=>by simp only[yE] at h;simp only[zF];exact⟨zr d h.1,zh r h.2⟩
end
mutual
theorem yH {ρ:Nat→Nat}:∀d:D,Pure d→D.yI ρ d=d
 | .xO,_=>by simp only[D.yI]
 | .sc _,_=>by simp only[D.yI]
 | .gv _,_=>by simp only[D.yI]
 | .loc ..,h=>by simp only[Pure] at h
 | .elt ..,h=>by simp only[Pure] at h
 | .own ..,h=>by simp only[Pure] at h
 | .mp ..,h=>by simp only[Pure] at h
 | .y7 cs,h=>by simp only[Pure] at h;simp only[D.yI,xa cs h]
 | .xj _ xs,h=>by simp only[Pure] at h;simp only[D.yI,yw xs h]
 | .fn _ a b,h=>by simp only[Pure] at h;simp only[D.yI,xa a h.1,xa b h.2]
 | .ifc _ d,h=>by simp only[Pure] at h;simp only[D.yI,yH d h]
 | .agg cs,h=>by simp only[Pure] at h;simp only[D.yI,xa cs h]
 | .yO cs,h=>by simp only[Pure] at h;simp only[D.yI,xa cs h]
theorem xa {ρ:Nat→Nat}:∀d:List D,ze d→yG ρ d=d
 | [],_=>by simp only[yG]
 | d::r,h=>by simp only[ze] at h;simp only[yG,yH d h.1,xa r h.2]
theorem yw {ρ:Nat→Nat}:∀d:List (List D),yE d→vS ρ d=d
 | [],_=>by simp only[vS]
 | d::r,h=>by simp only[yE] at h;simp only[vS,xa d h.1,yw r h.2]
end
theorem zdQ {ρ:Nat→Nat}:∀d:List D,(yG ρ d).length=d.length
 | []=>by simp only[yG]
 | d::r=>by simp only[yG,List.length_cons,zdQ r]
theorem za5 {ρ:Nat→Nat}:∀d:List (List D),(vS ρ d).length=d.length
 | []=>by simp only[vS]
 | d::r=>by simp only[vS,List.length_cons,za5 r]
section
variable {J:yX} {F:Nat→Prop} {w:World} {ρ:Nat→Nat}
mutual
theorem Wh:∀(d:D) (v:Value),rep (λi=>J (ρ i)) F w d v↔rep J F w (D.yI ρ d) v
 | .xO,v=>by simp only[D.yI,rep]
 | .sc u,v=>by simp only[D.yI,rep]
 | .gv u,v=>by simp only[D.yI,rep]
 | .loc ..,v=>by simp only[D.yI,rep]
 | .elt ..,v=>by simp only[D.yI,rep]
 | .own ..,v=>by simp only[D.yI,rep]
 | .mp ..,v=>by simp only[D.yI,rep]
 | .y7 cs,v=>by
  simp only[D.yI,rep]
  exact⟨λ⟨b,o,h1,h2,h3⟩=>⟨b,o,h1,h2,(vj b cs o).1 h3⟩,λ⟨b,o,h1,h2,h3⟩=>⟨b,o,h1,h2,(vj b cs o).2 h3⟩⟩
 | .xj e xs,v=>by
  simp only[D.yI,rep,za5]
  exact⟨λ⟨A,n,c,h1,h2,h3,h4⟩=>⟨A,n,c,h1,h2,h3,h4.imp_right λ⟨b,o,k1,k2,k3⟩=>⟨b,o,k1,k2,(Zg b e xs o).1 k3⟩⟩,
   λ⟨A,n,c,h1,h2,h3,h4⟩=>⟨A,n,c,h1,h2,h3,h4.imp_right λ⟨b,o,k1,k2,k3⟩=>⟨b,o,k1,k2,(Zg b e xs o).2 k3⟩⟩⟩
 | .fn f a b,v=>by
  simp only[D.yI,rep]
  exact⟨λ⟨vs,us,h1,h2,h3⟩=>⟨vs,us,h1,(ue a vs).1 h2,(ue b us).1 h3⟩,λ⟨vs,us,h1,h2,h3⟩=>⟨vs,us,h1,(ue a vs).2 h2,(ue b us).2 h3⟩⟩
 | .ifc t d,v=>by
  simp only[D.yI,rep]
  exact⟨λ⟨u,h1,h2⟩=>⟨u,h1,(Wh d u).1 h2⟩,λ⟨u,h1,h2⟩=>⟨u,h1,(Wh d u).2 h2⟩⟩
 | .agg cs,v=>by
  simp only[D.yI,rep]
  exact⟨λ⟨vs,h1,h2⟩=>⟨vs,h1,(ue cs vs).1 h2⟩,λ⟨vs,h1,h2⟩=>⟨vs,h1,(ue cs vs).2 h2⟩⟩
 | .yO cs,v=>by
  simp only[D.yI,rep]
  exact⟨λ⟨vs,h1,h2⟩=>⟨vs,h1,(ue cs vs).1 h2⟩,λ⟨vs,h1,h2⟩=>⟨vs,h1,(ue cs vs).2 h2⟩⟩
theorem ue:∀(d:List D) (v:List Value),yf (λi=>J (ρ i)) F w d v↔yf J F w (yG ρ d) v
 | [],v=>by simp only[yG,yf]
 | d::r,v=>by
  simp only[yG,yf]
  exact⟨λ⟨u,us,h1,h2,h3⟩=>⟨u,us,h1,(Wh d u).1 h2,(ue r us).1 h3⟩,λ⟨u,us,h1,h2,h3⟩=>⟨u,us,h1,(Wh d u).2 h2,(ue r us).2 h3⟩⟩
theorem vj (b:Nat):∀(d:List D) (o:Nat),zS (λi=>J (ρ i)) F w b d o↔zS J F w b (yG ρ d) o
 | [],o=>by simp only[yG,zS]
 | d::r,o=>by
  simp only[yG,zS]
  exact⟨λ⟨⟨u,h1,h2,h3⟩,h4⟩=>⟨⟨u,h1,h2,(Wh d u).1 h3⟩,(vj b r (o+1)).1 h4⟩,λ⟨⟨u,h1,h2,h3⟩,h4⟩=>⟨⟨u,h1,h2,(Wh d u).2 h3⟩,(vj b r (o+1)).2 h4⟩⟩
theorem Zg (b zH:Nat):∀(d:List (List D)) (o:Nat),yk (λi=>J (ρ i)) F w b zH d o↔yk J F w b zH (vS ρ d) o
 | [],o=>by simp only[vS,yk]
 | d::r,o=>by
  simp only[vS,yk,zdQ]
  exact⟨λ⟨h1,h2,h3⟩=>⟨h1,(vj b d o).1 h2,(Zg b zH r (o+zH)).1 h3⟩,λ⟨h1,h2,h3⟩=>⟨h1,(vj b d o).2 h2,(Zg b zH r (o+zH)).2 h3⟩⟩
end
theorem U0 {s:Site} {o:zf}:YD (λi=>J (ρ i)) F w s o↔YD J F w s (o.yI ρ):=by
 cases o with
 | row m cs =>
  simp only[zf.yI,YD,zdQ]
  exact⟨λ⟨h1,h2,h3,h4,h5,b,vals,te,k1,k2,k3,k4,k5⟩=>⟨h1,h2,h3,h4,h5,b,vals,te,k1,k2,k3,(vj b cs 0).1 k4,k5⟩,λ⟨h1,h2,h3,h4,h5,b,vals,te,k1,k2,k3,k4,k5⟩=>⟨h1,h2,h3,h4,h5,b,vals,te,k1,k2,k3,(vj b cs 0).2 k4,k5⟩⟩
 | vec m zY zH xs =>
  simp only[zf.yI,YD,za5]
  exact⟨λ⟨h1,h2,h3,h4,h5,h6⟩=>⟨h1,h2,h3,h4,h5,h6.imp_right λ⟨b,o,vals,te,k1,k2,k3,k4,k5⟩=>⟨b,o,vals,te,k1,k2,k3,(Zg b zH xs o).1 k4,k5⟩⟩,
   λ⟨h1,h2,h3,h4,h5,h6⟩=>⟨h1,h2,h3,h4,h5,h6.imp_right λ⟨b,o,vals,te,k1,k2,k3,k4,k5⟩=>⟨b,o,vals,te,k1,k2,k3,(Zg b zH xs o).2 k4,k5⟩⟩⟩
 | wc m I=>exact Iff.rfl
theorem zcI {o:zf}:(o.yI ρ).mut=o.mut:=by cases o<;>rfl
end
def yp (m:Nat) (J:yX):yX:=λi=>if i<m then J i else none
section
variable {J:yX} {F:Nat→Prop} {w:World} {m:Nat}
mutual
theorem Vi:∀(d:D) (v:Value),zt m d→rep J F w d v→rep (yp m J) F w d v
 | .xO,v,_,_=>by simp only[rep]
 | .sc u,v,_,h=>by simpa only[rep] using h
 | .gv u,v,_,h=>by simpa only[rep] using h
 | .loc id off,v,hu,h=>by
  simp only[zt] at hu
  simp only[rep,yp,if_pos hu] at h ⊢
  exact h
 | .elt id zY i off,v,hu,h=>by
  simp only[zt] at hu
  simp only[rep,yp,if_pos hu] at h ⊢
  exact h
 | .own id zY lo hi,v,hu,h=>by
  simp only[zt] at hu
  simp only[rep,yp,if_pos hu] at h ⊢
  exact h
 | .mp id,v,hu,h=>by
  simp only[zt] at hu
  simp only[rep,yp,if_pos hu] at h ⊢
  exact h
 | .y7 cs,v,hu,h=>by
  simp only[zt] at hu
  simp only[rep] at h ⊢
  obtain⟨b,o,h1,h2,h3⟩:=h
  exact⟨b,o,h1,h2,qA b cs o hu h3⟩
 | .xj e xs,v,hu,h=>by
  simp only[zt] at hu
  simp only[rep] at h ⊢
  obtain⟨A,n,c,h1,h2,h3,h4⟩:=h
  exact⟨A,n,c,h1,h2,h3,h4.imp_right λ⟨b,o,k1,k2,k3⟩=>⟨b,o,k1,k2,Y8 b e xs o hu k3⟩⟩
 | .fn f a b,v,hu,h=>by
  simp only[zt] at hu
  simp only[rep] at h ⊢
  obtain⟨vs,us,h1,h2,h3⟩:=h
  exact⟨vs,us,h1,Z5 a vs hu.1 h2,Z5 b us hu.2 h3⟩
 | .ifc t d,v,hu,h=>by
  simp only[zt] at hu
  simp only[rep] at h ⊢
  obtain⟨u,h1,h2⟩:=h
  exact⟨u,h1,Vi d u hu h2⟩
 | .agg cs,v,hu,h=>by
  simp only[zt] at hu
  simp only[rep] at h ⊢
  obtain⟨vs,h1,h2⟩:=h
  exact⟨vs,h1,Z5 cs vs hu h2⟩
 | .yO cs,v,hu,h=>by
  simp only[zt] at hu
  simp only[rep] at h ⊢
  obtain⟨vs,h1,h2⟩:=h
  exact⟨vs,h1,Z5 cs vs hu h2⟩
theorem Z5:∀(d:List D) (v:List Value),zl m d→yf J F w d v→yf (yp m J) F w d v
 | [],v,_,h=>by simpa only[yf] using h
 | d::r,v,hu,h=>by
  simp only[zl] at hu
  simp only[yf] at h ⊢
  obtain⟨u,us,h1,h2,h3⟩:=h
  exact⟨u,us,h1,Vi d u hu.1 h2,Z5 r us hu.2 h3⟩
theorem qA (b:Nat):∀(d:List D) (o:Nat),zl m d→zS J F w b d o→zS (yp m J) F w b d o
 | [],o,_,h=>by simp only[zS]
 | d::r,o,hu,h=>by
  simp only[zl] at hu
  simp only[zS] at h ⊢
  obtain⟨⟨u,h1,h2,h3⟩,h4⟩:=h
  exact⟨⟨u,h1,h2,Vi d u hu.1 h3⟩,qA b r (o+1) hu.2 h4⟩
theorem Y8 (b zH:Nat):∀(d:List (List D)) (o:Nat),zF m d→yk J F w b zH d o→yk (yp m J) F w b zH d o
 | [],o,_,h=>by simp only[yk]
 | d::r,o,hu,h=>by
  simp only[zF] at hu
  simp only[yk] at h ⊢
  exact⟨h.1,qA b d o hu.1 h.2.1,Y8 b zH r (o+zH) hu.2 h.2.2⟩
end
theorem Jb {s:Site} {o:zf} (hu:o.under m) (h:YD J F w s o):YD (yp m J) F w s o:=by
 cases o with
 | row q cs =>
  obtain⟨h1,h2,h3,h4,h5,b,vals,te,k1,k2,k3,k4,k5⟩:=h
  exact⟨h1,h2,h3,h4,h5,b,vals,te,k1,k2,k3,qA b cs 0 hu k4,k5⟩
 | vec q zY zH xs =>
  obtain⟨h1,h2,h3,h4,h5,h6⟩:=h
  exact⟨h1,h2,h3,h4,h5,h6.imp_right λ⟨b,o,vals,te,k1,k2,k3,k4,k5⟩=>⟨b,o,vals,te,k1,k2,k3,Y8 b zH xs o hu k4,k5⟩⟩
 | wc q I=>exact h
end
mutual
theorem zhg:∀d:D,D.yI (λi=>i) d=d
 | .xO|.sc _|.gv _|.loc ..|.elt ..|.own ..|.mp ..=>by simp only[D.yI]
 | .y7 cs=>by simp only[D.yI,Yj cs]
 | .xj e xs=>by simp only[D.yI,zen xs]
 | .fn f a b=>by simp only[D.yI,Yj a,Yj b]
 | .ifc t d=>by simp only[D.yI,zhg d]
 | .agg cs=>by simp only[D.yI,Yj cs]
 | .yO cs=>by simp only[D.yI,Yj cs]
theorem Yj:∀d:List D,yG (λi=>i) d=d
 | []=>by simp only[yG]
 | d::r=>by simp only[yG,zhg d,Yj r]
theorem zen:∀d:List (List D),vS (λi=>i) d=d
 | []=>by simp only[vS]
 | d::r=>by simp only[vS,Yj d,zen r]
end
theorem zcP (o:zf):o.yI (λi=>i)=o:=by cases o<;>simp only[zf.yI,Yj,zen]
open Classical in
noncomputable def back (ρ:Nat→Nat) (n:Nat) (id:Nat):Option Nat:=if h:∃i,i<n∧ρ i=id then some (Classical.choose h) else none
theorem xy {ρ:Nat→Nat} {n id i:Nat} (h:back ρ n id=some i):i<n∧ρ i=id:=by
 unfold back at h
 split at h
 ·rename_i hh
  cases h
  exact Classical.choose_spec hh
 ·cases h
theorem Z6 {ρ:Nat→Nat} {n id:Nat} (h:back ρ n id=none):∀i,i<n→ρ i≠id:=by
 unfold back at h
 split at h
 ·cases h
 ·rename_i hh
  exact λi hi e=>hh ⟨i,hi,e⟩
theorem zmt {ρ:Nat→Nat} {n i:Nat} (inj:∀i j,i<n→j<n→ρ i=ρ j→i=j) (hi:i<n):back ρ n (ρ i)=some i:=by
 cases h:back ρ n (ρ i) with
 | none=>exact absurd rfl (Z6 h i hi)
 | some j =>
  obtain⟨h1,h2⟩:=xy h
  rw[inj j i h1 hi h2]
section
variable {P:Program} {f:FuncId}
theorem ua {α:Type} {l:List α} {i:Nat} {x:α} (h:l[i]? = some x):i<l.length:=by
 rcases Nat.lt_or_ge i l.length with q|q
 ·exact q
 ·rw[List.getElem?_eq_none q] at h;cases h
theorem QV {args:List D} {H0 H0':List zf} {d:D} (ρ:Nat→Nat) (hA:yu P f args H0 d H0') (inj:∀i j,i<H0'.length→j<H0'.length→ρ i=ρ j→i=j) {J:yX} {F:Nat→Prop} {w:World} {vs:List Value} {G G':Nat→Option zf} (hst:yZ J F w G)
  (hold:∀i o,H0[i]? = some o→G (ρ i)=some (o.yI ρ)) (hnew:∀i,H0.length≤i→i<H0'.length→J (ρ i)=none) (hrep:yf J F w (yG ρ args) vs)
  (h1:∀i o,H0'[i]? = some o→G' (ρ i)=some (o.yI ρ)) (h2:∀j,(∀i,i<H0'.length→ρ i≠j)→G' j=G j)
  (hargs:zl H0.length args) (hobj:∀o∈H0,o.under H0.length) :
  Calls P f vs.toArray w λe w'=>∃v J' F',e=.returned v∧yZ J' F' w' G'∧(∀id,J' id≠none→J id≠none∨∃i,i<H0'.length∧ρ i=id)∧rep J' F' w' (D.yI ρ d) v∧Ext J F w J' F' w':=by
 obtain⟨hok,hl0,hrun⟩:=hA
 have h0get:∀i,i<H0.length→H0[i]? = some (H0[i]!):=λi hi=>by rw[List.getElem!_eq_getElem?_getD,List.getElem?_eq_getElem hi];rfl
 have hst0:yZ (yp H0.length λi=>J (ρ i)) F w (λi=>H0[i]?):=by
  refine⟨λi s hs=>?_,λi i' s s' b g1 g2 g3 g4=>?_,λi s b o g1 g2 g3 g4=>?_,hst.lt⟩
  ·unfold yp at hs
   split at hs
   ·rename_i hi
    have ho:=h0get i hi
    refine⟨_,ho,Jb (hobj _ (List.mem_of_getElem? ho)) (U0.2 ?_)⟩
    obtain⟨o',q1,q2⟩:=hst.obj (ρ i) s hs
    rw[hold i _ ho] at q1
    cases q1
    exact q2
   ·cases hs
  ·unfold yp at g1 g2
   split at g1<;>split at g2
   ·exact inj i i' (by omega) (by omega) (hst.one (ρ i) (ρ i') s s' b g1 g2 g3 g4)
   all_goals first|cases g1|cases g2
  ·unfold yp at g1
   split at g1
   ·exact hst.apart (ρ i) s b (o.yI ρ) g1 g2 (hold i o g3) (by rw[zcI];exact g4)
   ·cases g1
 have hd0:∀id,yp H0.length (λi=>J (ρ i)) id≠none→id<H0.length:=λid hid=>by
  unfold yp at hid
  split at hid
  ·assumption
  ·exact absurd rfl hid
 have hr0:yf (yp H0.length λi=>J (ρ i)) F w args vs:=Z5 _ _ hargs ((ue args vs).2 hrep)
 have own0:∀b,Zs (yp H0.length λi=>J (ρ i)) b→∃i s,i<H0.length∧J (ρ i)=some s∧s.u6=some b:=λb ⟨i,s,hs,hb⟩=>by
  unfold yp at hs
  split at hs
  ·exact⟨i,s,by assumption,hs,hb⟩
  ·cases hs
 have main:=hrun _ F w vs hst0 hd0 hr0
 refine Calls.mono main λe w' ⟨v,J0',F',he,st',dom',rp',ex⟩=>?_
 let J':yX:=λid=>match back ρ H0'.length id with|some i=>J0' i|none=>J id
 have jat:∀i,i<H0'.length→J' (ρ i)=J0' i:=λi hi=>by simp only[J',zmt inj hi]
 have jno:∀id,back ρ H0'.length id=none→J' id=J id:=λid h=>by simp only[J',h]
 have hle:J.le J':=λid s hs=>by
  cases e:back ρ H0'.length id with
  | none=>exact⟨s,by rw[jno id e];exact hs,Nat.le_refl _,λ_=>rfl⟩
  | some i =>
   obtain⟨k1,rfl⟩:=xy e
   have hi:i<H0.length:=by
    rcases Nat.lt_or_ge i H0.length with q|q
    ·exact q
    ·rw[hnew i q k1] at hs;cases hs
   obtain⟨s',g1,g2⟩:=ex.le i s (by simp only[yp,if_pos hi];exact hs)
   exact⟨s',by rw[jat i k1];exact g1,g2⟩
 have hleρ:J0'.le (λi=>J' (ρ i)):=λi s hs=>⟨s,by
  dsimp only
  rw[jat i (dom' i (by rw[hs];simp))];exact hs,Nat.le_refl _,λ_=>rfl⟩
 have nown:∀id s b,back ρ H0'.length id=none→J id=some s→s.u6=some b→¬Zs (yp H0.length λi=>J (ρ i)) b:=λid s b hb hs hblk ho=>by
  obtain⟨i,s',k1,k2,k3⟩:=own0 b ho
  exact Z6 hb i (by omega) (hst.one (ρ i) id s' s b k2 hs k3 hblk)
 refine⟨v,J',F',he,⟨λid s hs=>?_,λid id' s s' b g1 g2 g3 g4=>?_,λid s b o g1 g2 g3 g4=>?_,st'.lt⟩,λid hid=>?_,(Wh d v).1 (yT hleρ (λ_ h=>h) (λ_ _=>rfl) _ _ rp'),?_⟩
 ·cases e:back ρ H0'.length id with
  | some i =>
   obtain⟨k1,rfl⟩:=xy e
   rw[jat i k1] at hs
   obtain⟨o,q1,q2⟩:=st'.obj i s hs
   exact⟨o.yI ρ,h1 i o q1,U0.1 (xX hleρ (λ_ h=>h) (λ_ _=>rfl) (λ_ _=>rfl) q2)⟩
  | none =>
   rw[jno id e] at hs
   obtain⟨o,q1,q2⟩:=hst.obj id s hs
   refine⟨o,?_,xX hle ex.grow ex.frozen (λb hb=>ex.block b (hst.xu hs hb) (nown id s b e hs hb)) q2⟩
   rw[h2 id λi hi=>Z6 e i hi]
   exact q1
 ·cases e:back ρ H0'.length id with
  | some i =>
   obtain⟨k1,rfl⟩:=xy e
   rw[jat i k1] at g1
   cases e':back ρ H0'.length id' with
   | some i' =>
    obtain⟨k1',rfl⟩:=xy e'
    rw[jat i' k1'] at g2
    rw[st'.one i i' s s' b g1 g2 g3 g4]
   | none =>
    rw[jno id' e'] at g2
    rcases ex.x7 b ⟨i,s,g1,g3⟩ with q|q
    ·exact absurd q (nown id' s' b e' g2 g4)
    ·have:=hst.xu g2 g4;omega
  | none =>
   rw[jno id e] at g1
   cases e':back ρ H0'.length id' with
   | some i' =>
    obtain⟨k1',rfl⟩:=xy e'
    rw[jat i' k1'] at g2
    rcases ex.x7 b ⟨i',s',g2,g4⟩ with q|q
    ·exact absurd q (nown id s b e g1 g3)
    ·have:=hst.xu g1 g3;omega
   | none =>
    rw[jno id' e'] at g2
    exact hst.one id id' s s' b g1 g2 g3 g4
 ·have g3':G' id=some o:=g3
  cases e:back ρ H0'.length id with
  | some i =>
   obtain⟨k1,rfl⟩:=xy e
   rw[jat i k1] at g1
   obtain⟨o0,q1,_⟩:=st'.obj i s g1
   rw[h1 i o0 q1] at g3'
   cases g3'
   exact st'.apart i s b o0 g1 g2 q1 (by rw[zcI] at g4;exact g4)
  | none =>
   rw[jno id e] at g1
   rw[h2 id λi hi=>Z6 e i hi] at g3'
   intro hx
   rcases ex.wu b hx with q|q|q
   ·exact hst.apart id s b o g1 g2 g3' g4 q
   ·exact nown id s b e g1 g2 q
   ·have:=hst.xu g1 g2;omega
 ·cases e:back ρ H0'.length id with
  | some i =>
   obtain⟨k1,rfl⟩:=xy e
   exact .inr ⟨i,k1,rfl⟩
  | none =>
   rw[jno id e] at hid
   exact .inl hid
 ·refine⟨ex.os,ex.tape,ex.output,ex.size,λb hb hn=>ex.block b hb λho=>?_,ex.frozen,hle,ex.grow,λb ⟨id,s,hs,hb⟩=>?_,λb hb=>?_⟩
  ·obtain⟨i,s,_,k2,k3⟩:=own0 b ho
   exact hn ⟨ρ i,s,k2,k3⟩
  ·cases e:back ρ H0'.length id with
   | some i =>
    obtain⟨k1,rfl⟩:=xy e
    rw[jat i k1] at hs
    refine(ex.x7 b ⟨i,s,hs,hb⟩).imp_left λq=>?_
    obtain⟨k,s',_,k2,k3⟩:=own0 b q
    exact⟨ρ k,s',k2,k3⟩
   | none =>
    rw[jno id e] at hs
    exact .inl ⟨id,s,hs,hb⟩
  ·rcases ex.wu b hb with q|q|q
   ·exact .inl q
   ·obtain⟨k,s',_,k2,k3⟩:=own0 b q
    exact .inr (.inl ⟨ρ k,s',k2,k3⟩)
   ·exact .inr (.inr q)
end
end
section
open Go.RowKit
section
variable {P:Program} {seq:Bool} {o:Oper} {env:Env} {H:List zf} {K:Jk}
theorem zxw {src dst:TypeId} {k0 k:IntKind} {x:Operand} (hs:P.underlying src=some (.int k0)) (hd:P.underlying dst=some (.int k)) (ho:o.op=.convert src dst x) (h:step P seq (.conv k x) env H K):Sound P o env H K:=by
 simp only[step,yN] at h
 split at h
 ·rename_i q n e
  refine zJ (qR _ _ _ h) λJ F w a G _ hops _=>⟨_,?_,rfl⟩
  have k1:=hops x (by simp[ho,Op.operands])
  rw[e] at k1
  simp only[rep] at k1
  simp[execOp,ho,k1,convert,underlying,program,Sem.run,hs,hd,Conv.intToInt,pure]
 ·exact h.elim
theorem zxb {src dst e:TypeId} {x:Operand} (hs:P.underlying src=some (.slice e)) (hd:P.underlying dst=some .string) (he:P.underlying e=some (.int .u8)) (ho:o.op=.convert src dst x) (h:step P seq (.zyE x) env H K):Sound P o env H K:=by
 simp only[step,yN] at h
 obtain⟨ys,rd,⟨ns,rfl,hK⟩,hy⟩:=zgt h
 refine zJ hK λJ F w a G hok hops hrd=>?_
 obtain⟨A,c,us,q1,⟨r1,_,r3⟩,q3⟩:=hy J F w G _ hok hrd (hops x (by simp[ho,Op.operands]))
 have hus:us=ns.map (Value.int .u8):=by
  apply List.ext_getElem?
  intro j
  rw[List.getElem?_map]
  by_cases hj:j<ns.length
  ·obtain⟨u,p1,_,p3⟩:=(r3 j [.sc (.int .u8 ns[j])] (by rw[List.getElem?_map,List.getElem?_eq_getElem hj];rfl)).2 0 _ rfl
   simp only[rep] at p3
   subst p3
   rw[Nat.mul_one,Nat.add_zero] at p1
   rw[p1,List.getElem?_eq_getElem hj];rfl
  ·rw[List.getElem?_eq_none (by rw[r1];simpa using hj),List.getElem?_eq_none (by omega)];rfl
 rw[List.length_map] at q1
 refine⟨_,?_,rfl⟩
 have key:(convert src dst (a.eval x)).run P w=.ok (.string (ns.foldl (λr n=>r.push (UInt8.ofNat n.toNat)) ByteArray.empty)) w:=by
  rw[q1,run_convert_bytes_string w src dst e A _ c hs he hd]
  rcases q3 with⟨rfl,q⟩|⟨ad,rfl,q⟩
  ·have:ns=[]:=by simpa using q
   subst this
   simp[Conv.bytesToString,pure,Sem.run]
  ·refine run_bytesToString w ad _ c ns ?_
   have:=run_loadCells_list (P:=P) w ad us q
   rwa [hus,List.length_map] at this
 simp only[execOp,ho,Sem.run_bind,key,Result.andThen_ok,pure,Sem.run]
theorem zB1 {args:Array Operand} {ts:Array TypeId} {x y:Operand} (ha:args.toList=[x,y]) (ho:o.op=.call { callee:=.builtin .max,args:=args,argTypes:=ts }) (h:step P seq (.mx true x y) env H K):Sound P o env H K:=by
 obtain⟨args⟩:=args
 simp only at ha
 subst ha
 simp only[step,yN] at h
 split at h
 ·rename_i k n e1
  split at h
  ·rename_i k' m e2
   refine zJ h λJ F w a G _ hops _=>⟨_,?_,rfl⟩
   have k1:=hops x (by simp[ho,Op.operands,Call.operands])
   have k2:=hops y (by simp[ho,Op.operands,Call.operands])
   rw[e1] at k1
   rw[e2] at k2
   simp only[rep] at k1 k2
   have e:(if m>n then m else n)=max n m:=by omega
   simp only[execOp,ho,resolve,invoke,builtin,Sem.run_bind,Sem.run,pure,Result.andThen_ok,List.map_toArray,List.map_cons,List.map_nil,k1,k2]
   have hr:=Go.run_max_int2 (P:=P) w ts o.type k k' n m
   rw[e] at hr
   rw[hr]
   rfl
  ·exact h.elim
 ·exact h.elim
theorem zAN {args:Array Operand} {ts:Array TypeId} {x y:Operand} (ha:args.toList=[x,y]) (ho:o.op=.call { callee:=.builtin .min,args:=args,argTypes:=ts }) (h:step P seq (.mx false x y) env H K):Sound P o env H K:=by
 obtain⟨args⟩:=args
 simp only at ha
 subst ha
 simp only[step,yN] at h
 split at h
 ·rename_i k n e1
  split at h
  ·rename_i k' m e2
   refine zJ h λJ F w a G _ hops _=>⟨_,?_,rfl⟩
   have k1:=hops x (by simp[ho,Op.operands,Call.operands])
   have k2:=hops y (by simp[ho,Op.operands,Call.operands])
   rw[e1] at k1
   rw[e2] at k2
   simp only[rep] at k1 k2
   have e:(if m<n then m else n)=min n m:=by omega
   simp only[execOp,ho,resolve,invoke,builtin,Sem.run_bind,Sem.run,pure,Result.andThen_ok,List.map_toArray,List.map_cons,List.map_nil,k1,k2]
   have hr:=Go.run_min_int2 (P:=P) w ts o.type k k' n m
   rw[e] at hr
   rw[hr]
   rfl
  ·exact h.elim
 ·exact h.elim
theorem zjl {J:yX} {F:Nat→Prop} {w:World}:∀(cs:List D) (vs:List Value),ZZ cs=true→yf J F w cs vs→vs=cs.map scV
 | [],vs,_,h=>by simp only[yf] at h;simp[h]
 | d::r,vs,h,k=>by
  simp only[yf] at k
  obtain⟨v,us,rfl,h1,h2⟩:=k
  simp only[ZZ] at h
  cases d with
  | sc u =>
   simp only[isScalar] at h
   simp only[rep] at h1
   subst h1
   rw[List.map_cons,←zjl r us h h2]
   rfl
  | _=>simp[isScalar] at h
theorem ze1 {d:D} {K':Value→Prop} (h:zsI d K'):∃key,K' key∧∀(J:yX) (F:Nat→Prop) (w:World) (v:Value),rep J F w d v→v=key:=by
 unfold zsI at h
 split at h
 ·rename_i u
  exact⟨u,h,λJ F w v hv=>by simpa only[rep] using hv⟩
 ·rename_i cs
  refine⟨_,h.2,λJ F w v hv=>?_⟩
  simp only[rep] at hv
  obtain⟨vs,rfl,k⟩:=hv
  rw[zjl cs vs h.1 k]
 ·exact h.elim
theorem zt4 {t kt:TypeId} (ho:o.op=.makeMap t none) (h:step P seq (.zf2 kt) env H K):Sound P o env H K:=by
 simp only[step,vY] at h
 refine Xq h λJ F w a G hok hops hrd hn=>?_
 obtain⟨h1,h2⟩:=hok.zss H.length hn ⟨true,0,some ⟨w.heap.size,0,none⟩,1,1,1⟩ (.wc true (uQ P kt λ_=>none)) (.map #[] 0) rfl
  ⟨rfl,w.heap.size,#[],0,rfl,heap_alloc_new w _,by simp,by simp,by simp⟩
 refine⟨.map (some w.heap.size),_,_,F,?_,?_,h1,h2,λi hi=>by simp[hi]⟩
 ·simp only[execOp,ho,Option.map_none,Sem.run_bind,run_makeMap,Result.andThen_ok]
  rfl
 ·simp only[rep]
  exact⟨_,w.heap.size,by simp;rfl,rfl,rfl,rfl⟩
theorem zqj {J:yX} {F:Nat→Prop} {w:World} {G:Nat→Option zf} (h:yZ J F w G) {id:Nat} {v:Value} {m:Bool} {I:Array MapEntry→Prop} (h1:rep J F w (.mp id) v) (h3:G id=some (.wc m I)) :
  ∃s b es clock,J id=some s∧s.row=true∧s.ad=some ⟨b,0,none⟩∧v=.map (some b)∧w.heap[b]? = some (.map es clock)∧I es:=by
 simp only[rep] at h1
 obtain⟨s,b,q1,q2,q3,rfl⟩:=h1
 obtain⟨o,k1,k2⟩:=h.obj id s q1
 rw[h3] at k1
 cases k1
 obtain⟨_,b',es,clock,p1,p2,p3⟩:=k2
 rw[q3] at p1
 cases p1
 exact⟨s,b,es,clock,q1,q2,q3,rfl,p2,p3⟩
theorem zyW {t kt e:TypeId} {z:Value} {m x:Operand} (ht:P.underlying t=some (.map kt e)) (hz:(P.info? e).bind (·.zero)=some z) (hz1:yx z=true) (ho:o.op=.lookup t m x true) (h:step P seq (.look kt z m x) env H K):Sound P o env H K:=by
 simp only[step,yN] at h
 split at h
 ·rename_i id e1
  obtain⟨ob,h1,h2⟩:=(yM _ _ _).1 h
  split at h2
  ·rename_i mm I
   obtain⟨key,⟨f,rfl,Kd,⟨l,hl⟩,hS,hN⟩,hkey⟩:=ze1 h2
   have go:∀(ok:Bool) (v:Value),(∀(J:yX) (F:Nat→Prop) (w:World) (a:Act) (b:Nat) (es:Array MapEntry) (clock:Nat),w.heap[b]? = some (.map es clock)→uQ P kt f es→(Instr.lookup t (.map (some b)) key true).run P w=.ok (.tuple #[v,.bool ok]) w) →
     K (.yO [.sc v,.sc (.bool ok)]) H [id] []→Sound P o env H K:=λok v hrun hK=>by
    refine zJ hK λJ F w a G hok hops hrd=>?_
    have k1:=hops m (by simp[ho,Op.operands])
    have k2:=hkey J F w _ (hops x (by simp[ho,Op.operands]))
    rw[e1] at k1
    obtain⟨s,b,es,clock,q1,q2,q3,q4,q5,q6⟩:=zqj hok k1 (by rw[hrd id (by simp)];exact h1)
    refine⟨.tuple #[v,.bool ok],?_,?_⟩
    ·simp[execOp,ho,q4,k2,hrun J F w a b es clock q5 q6,Sem.run,pure]
    ·simp only[rep]
     exact⟨[v,.bool ok],rfl,by simp only[yf];exact⟨v,[.bool ok],rfl,by simp only[rep],.bool ok,[],rfl,by simp only[rep],rfl⟩⟩
   cases hf:f key with
   | some v =>
    refine go true v (λJ F w a b es clock hb hI=>?_) (hS v hf)
    obtain⟨i1,i2,i3⟩:=hI
    rcases Kd.find w hl es.toList i1 with⟨g1,g2⟩|⟨j,e0,g1,g2,g3⟩
    ·obtain⟨e0,g3,g4⟩:=i3 key v hf
     exact absurd g4 (g2 e0 g3)
    ·have:=i2 e0 (List.mem_of_getElem? g2)
     rw[g3,hf] at this
     cases this
     simp[Instr.lookup,run_underlying ht,MapKept.run_getObj_map hb,Kd.check w _ hl,g1,Result.andThen]
   | none =>
    refine go false z (λJ F w a b es clock hb hI=>?_) (hN hf)
    obtain⟨i1,i2,i3⟩:=hI
    rcases Kd.find w hl es.toList i1 with⟨g1,g2⟩|⟨j,e0,g1,g2,g3⟩
    ·simp[Instr.lookup,run_underlying ht,MapKept.run_getObj_map hb,Kd.check w _ hl,g1,Yi hz,Result.andThen]
    ·have:=i2 e0 (List.mem_of_getElem? g2)
     rw[g3,hf] at this
     cases this
  ·exact h2.elim
 ·exact h.elim
theorem zts {t kt e:TypeId} {m x:Operand} (ht:P.underlying t=some (.map kt e)) (ho:o.op=.lookup t m x false) (h:step P seq (.znd kt m x) env H K):Sound P o env H K:=by
 simp only[step,yN] at h
 split at h
 ·rename_i id e1
  obtain⟨ob,h1,h2⟩:=(yM _ _ _).1 h
  split at h2
  ·rename_i mm I
   obtain⟨key,⟨f,rfl,Kd,⟨l,hl⟩,v,hf,hK⟩,hkey⟩:=ze1 h2
   refine zJ hK λJ F w a G hok hops hrd=>?_
   have k1:=hops m (by simp[ho,Op.operands])
   have k2:=hkey J F w _ (hops x (by simp[ho,Op.operands]))
   rw[e1] at k1
   obtain⟨s,b,es,clock,q1,q2,q3,q4,hb,hI⟩:=zqj hok k1 (by rw[hrd id (by simp)];exact h1)
   have hrun:(Instr.lookup t (.map (some b)) key false).run P w=.ok v w:=by
    obtain⟨i1,i2,i3⟩:=hI
    rcases Kd.find w hl es.toList i1 with⟨g1,g2⟩|⟨j,e0,g1,g2,g3⟩
    ·obtain⟨e0,g3,g4⟩:=i3 key v hf
     exact absurd g4 (g2 e0 g3)
    ·have:=i2 e0 (List.mem_of_getElem? g2)
     rw[g3,hf] at this
     cases this
     simp[Instr.lookup,run_underlying ht,MapKept.run_getObj_map hb,Kd.check w _ hl,g1,Result.andThen]
   refine⟨v,?_,by simp only[rep]⟩
   simp[execOp,ho,q4,k2,hrun,Sem.run,pure]
  ·exact h2.elim
 ·exact h.elim
theorem zxO {t kt e:TypeId} {m x v:Operand} (ht:P.underlying t=some (.map kt e)) (ho:o.op=.mapUpdate t m x v) (h:step P seq (.zlJ kt m x v) env H K):Sound P o env H K:=by
 simp only[step,yN] at h
 split at h
 ·rename_i id e1
  obtain⟨ob,h1,h2⟩:=(yM _ _ _).1 h
  split at h2
  ·rename_i I
   obtain⟨key,h3,hkey⟩:=ze1 h2
   split at h3
   ·rename_i u e2
    obtain⟨f,rfl,Kd,⟨l,hl⟩,hf,h4⟩:=h3
    obtain⟨h5,h6⟩:=(uk _ _ _ _).1 h4
    refine za3 h5 h6 λJ F w a G hok hops hG=>?_
    have k1:=hops m (by simp[ho,Op.operands])
    have k2:=hkey J F w _ (hops x (by simp[ho,Op.operands]))
    have k3:=hops v (by simp[ho,Op.operands])
    rw[e1] at k1
    rw[e2] at k3
    simp only[rep] at k3
    obtain⟨s,b,es,clock,q1,q2,q3,q4,q5,i1,i2,i3⟩:=zqj hok k1 (hG.trans h1)
    have hown:s.u6=some b:=by simp[Site.u6,q2,q3]
    have hnF:¬F b:=hok.apart id s b _ q1 hown (hG.trans h1) rfl
    have hnk:∀e∈es.toList,e.key≠key:=λe he q=>by
     have:=i2 e he
     rw[q,hf] at this
     cases this
    have hfind:(Instr.findKey kt key es.toList).run P w=.ok none w:=by
     rcases Kd.find w hl es.toList i1 with⟨g1,_⟩|⟨j,e0,_,g2,g3⟩
     ·exact g1
     ·exact absurd g3 (hnk e0 (List.mem_of_getElem? g2))
    have hrun:(Instr.mapUpdate t (.map (some b)) key u).run P w=.ok () { w with heap:=w.heap.setIfInBounds b (.map (es.push { key,val:=u,born:=clock }) (clock+1)) }:=by
     simp[Instr.mapUpdate,run_underlying ht,MapKept.run_getObj_map q5,Kd.check w false hl,hfind,MapKept.run_setObj_map _ q5,Result.andThen]
    have hother:∀i,i≠b→(w.heap.setIfInBounds b (.map (es.push { key,val:=u,born:=clock }) (clock+1)))[i]? = w.heap[i]?:=λi hi=>(MapKept.heap_set q5).2 i hi
    have hFw:∀z,F z→(w.heap.setIfInBounds b (.map (es.push { key,val:=u,born:=clock }) (clock+1)))[z]? = w.heap[z]?:=λz hzF=>hother z λe=>hnF (e▸hzF)
    refine⟨.skip,{ w with heap:=w.heap.setIfInBounds b (.map (es.push { key,val:=u,born:=clock }) (clock+1)) },?_,.inr rfl,rfl,?_,⟨rfl,rfl,rfl,by simp,λx hx hn=>hother x λe=>hn ⟨id,s,q1,by rw[e];exact hown⟩,hFw,yX.le_refl J,λ_ h=>h,λx hx=>.inl hx,λx hx=>.inl hx⟩⟩
    ·simp only[execOp,ho,q4,k2,k3,hrun,Sem.run_bind,Result.andThen_ok]
     rfl
    ·refine hok.update id s _ (λi=>by split;· rename_i e;rw[e];exact q1
                                      ·rfl) (λ_=>rfl) (yX.le_refl J) hFw (by simp) (λi s' b' hne hi hb=>hother b' λe=>hne (hok.one i id s' s b' hi q1 hb (e▸hown))) (λb' hb=>.inr ⟨s,q1,hb⟩) (λi s' b' hi hb=>hok.xu hi hb) (λb' hb _=>by rw[hown] at hb;cases hb;exact hnF) ?_
     refine⟨q2,b,_,_,q3,(MapKept.heap_set q5).1,?_,?_,?_⟩
     ·intro e he
      rw[Array.toList_push,List.mem_append,List.mem_singleton] at he
      rcases he with he|rfl
      ·exact i1 e he
      ·exact⟨l,hl⟩
     ·intro e he
      rw[Array.toList_push,List.mem_append,List.mem_singleton] at he
      unfold Q9
      rcases he with he|rfl
      ·rw[if_neg (hnk e he)];exact i2 e he
      ·rw[if_pos rfl]
     ·intro k' v' hk'
      unfold Q9 at hk'
      rw[Array.toList_push]
      split at hk'
      ·rename_i e;cases hk'
       exact⟨_,List.mem_append_right _ (List.mem_singleton.2 rfl),e.symm⟩
      ·obtain⟨e,g1,g2⟩:=i3 k' v' hk'
       exact⟨e,List.mem_append_left _ g1,g2⟩
   ·exact h3.elim
  ·exact h2.elim
 ·exact h.elim
end
end
section
open Go.RowKit
def zwJ (P:Program) (o:Oper) (env:Env) (H:List zf) (d:D) (H2:List zf):Prop :=
 H.length≤H2.length∧∀(J:yX) (F:Nat→Prop) (w:World) (a:Act),yZ J F w (λi=>H[i]?)→(∀id,J id≠none→id<H.length)→(∀x∈o.op.operands,rep J F w (xi env x) (a.eval x)) →
  ∀(K:Act→World→Prop) (Q:Exit→Act→World→Prop),
   (∀v w' J' F',rep J' F' w' d v→yZ J' F' w' (λi=>H2[i]?)→Ext J F w J' F' w'→(∀id,J' id≠none→id<H2.length)→K (a.put o.dst v) w')→o.wp P a w K Q
theorem OpS.seq {P:Program} {o:Oper} {env:Env} {rd wr:List Nat} {H:List zf} {d:D} {H2:List zf} (h:OpS P o env rd wr H d H2):zwJ P o env H d H2:=by
 refine⟨h.len,λJ F w a hok hdom hops K Q hK=>h.run J F w a _ hok hops (λ_ _=>rfl) (λid hl _=>?_) K Q λv w' J' F' h1 h2 h3 h4=>?_⟩
 ·cases e:J id with
  | none=>rfl
  | some s=>have:=hdom id (by rw[e];simp);omega
 ·refine hK v w' J' F' h1 ?_ h3 λid hid=>?_
  ·have:Jy (λi=>H[i]?) wr H2=λi=>H2[i]?:=by
    funext i
    unfold Jy
    split
    ·rfl
    ·rename_i hi;exact(h.frame i hi).symm
   rwa [this] at h2
  ·rcases Nat.lt_or_ge id H2.length with hl|hl
   ·exact hl
   ·have hw:id ∉ wr:=λhw=>by have:=h.lt id hw;omega
    have hJ:J id=none:=by
     cases e:J id with
     | none=>rfl
     | some s=>have:=hdom id (by rw[e];simp);have:=h.len;omega
    exact absurd (h4 id hJ hw) hid
theorem yZ.za8 {J:yX} {F F':Nat→Prop} {w w':World} {G:Nat→Option zf} (h:yZ J F w G) (hb:∀b,b<w.heap.size→w'.heap[b]? = w.heap[b]?) (hsz:w.heap.size≤w'.heap.size) (hF:∀b,F b→F' b) (hback:∀b,F' b→F b∨w.heap.size≤b) (hlt:∀b,F' b→b<w'.heap.size):yZ J F' w' G where
 obj id s hi:=by
  obtain⟨o,h1,h2⟩:=h.obj id s hi
  exact⟨o,h1,xX (yX.le_refl J) hF (λb hx=>hb b (h.lt b hx)) (λb hx=>hb b (h.xu hi hx)) h2⟩
 one:=h.one
 apart id s b o hi hs hg hm hx:=by
  rcases hback b hx with q|q
  ·exact h.apart id s b o hi hs hg hm q
  ·have:=h.xu hi hs;omega
 lt:=h.lt.mono hF (λb hx=>hb b (h.lt b hx)) hlt
theorem ZK (b:Nat):¬Zs vV b:=λ⟨_,_,h,_⟩=>by cases h
theorem JY (J:yX):vV.le J:=λ_ _ h=>by cases h
theorem Ext.zsl {J:yX} {F F':Nat→Prop} {w w':World} {G:Nat→Option zf} (hok:yZ J F w G) (h:Ext vV F w vV F' w'):Ext J F w J F' w' :=
 ⟨h.os,h.tape,h.output,h.size,λb hb _=>h.block b hb (ZK b),h.frozen,yX.le_refl J,h.grow,λb hb=>.inl hb,λb hb=>(h.wu b hb).imp_right λq=>.inr (q.resolve_left (ZK b))⟩
section
variable {J:yX} {F:Nat→Prop} {w:World} {H:List zf} {G:Nat→Option zf}
mutual
theorem VH (hok:yZ J F w G) (hG:∀(id:Nat) (o:zf),H[id]? = some o→G id=some o):∀(d e:D) (v:Value),Deep H d e→rep J F w d v→rep J (λb=>F b∨Zs J b) w e v
 | d,_,v,.refl _,h=>yT (yX.le_refl J) (λ_ h=>.inl h) (λ_ _=>rfl) d v h
 | _,_,v,.xO _,_=>by simp only[rep]
 | _,_,v,.none zH,h=>by
  simp only[rep] at h ⊢
  exact⟨none,0,0,h,rfl,Nat.le_refl _,.inl rfl⟩
 | _,_,v,.loc id off m cs ds h k,hv=>by
  simp only[rep] at hv ⊢
  obtain⟨s,b,h1,h2,h3,rfl⟩:=hv
  have hc:=qF (zr7 hok h1 h3 (hG _ _ h)) off
  refine⟨b,off,rfl,.inr ⟨id,s,h1,by simp[Site.u6,h2,h3]⟩,?_⟩
  rw[Nat.zero_add] at hc
  exact YR hok hG _ _ b off k hc
 | _,_,v,.own id zY lo hi zH m xs ys h k,hv=>by
  simp only[rep] at hv ⊢
  obtain⟨s,A,n,c,h1,rfl,h2,h3⟩:=hv
  obtain⟨p1,p2,p3,p4,p5,p6⟩:=QJ hok h1 (hG _ _ h)
  obtain⟨t1,t2,t3,rfl,rfl,t6⟩:=h3 p2.symm
  have hl:ys.length=hi-lo:=by
   rw[←zc6 _ _ k];simp;omega
  refine⟨A,_,_,rfl,hl.symm,by omega,?_⟩
  rcases t6 with t6|⟨b,o,t6,rfl⟩
  ·exact .inl (by omega)
  ·rcases p6 with p6|⟨b',o',vals,te,e,q1,q2,q3,q4⟩
   ·exact .inl (by omega)
   ·rw[t6] at e;cases e
    by_cases hz:s.cap=0
    ·exact .inl (by omega)
    ·refine .inr ⟨b,_,rfl,.inr ⟨id,s,h1,by simp[Site.u6,hz,t6]⟩,?_⟩
     rw[p3]
     exact Ut hok hG _ _ b zH _ k (vX q3 lo hi)
 | _,_,v,.fn f a b c e h k,hv=>by
  simp only[rep] at hv ⊢
  obtain⟨vs,us,rfl,h2,h3⟩:=hv
  exact⟨vs,us,rfl,vU hok hG _ _ vs h h2,vU hok hG _ _ us k h3⟩
 | _,_,v,.ifc t d e h,hv=>by
  simp only[rep] at hv ⊢
  obtain⟨u,rfl,h2⟩:=hv
  exact⟨u,rfl,VH hok hG _ _ u h h2⟩
 | _,_,v,.agg a b h,hv=>by
  simp only[rep] at hv ⊢
  obtain⟨vs,rfl,h2⟩:=hv
  exact⟨vs,rfl,vU hok hG _ _ vs h h2⟩
 | _,_,v,.yO a b h,hv=>by
  simp only[rep] at hv ⊢
  obtain⟨vs,rfl,h2⟩:=hv
  exact⟨vs,rfl,vU hok hG _ _ vs h h2⟩
theorem vU (hok:yZ J F w G) (hG:∀(id:Nat) (o:zf),H[id]? = some o→G id=some o):∀(d e:List D) (v:List Value),wP H d e→yf J F w d v→yf J (λb=>F b∨Zs J b) w e v
 | _,_,v,.nil,h=>by simp only[yf] at h ⊢;exact h
 | _,_,v,.cons d e a b h k,hv=>by
  simp only[yf] at hv ⊢
  obtain⟨u,us,rfl,h2,h3⟩:=hv
  exact⟨u,us,rfl,VH hok hG _ _ u h h2,vU hok hG _ _ us k h3⟩
theorem YR (hok:yZ J F w G) (hG:∀(id:Nat) (o:zf),H[id]? = some o→G id=some o):∀(d e:List D) (b o:Nat),wP H d e→zS J F w b d o→zS J (λb=>F b∨Zs J b) w b e o
 | _,_,b,o,.nil,h=>by simp only[zS]
 | _,_,b,o,.cons d e x y h k,hv=>by
  simp only[zS] at hv ⊢
  obtain⟨⟨u,h1,h2,h3⟩,h4⟩:=hv
  exact⟨⟨u,h1,h2,VH hok hG _ _ u h h3⟩,YR hok hG _ _ b (o+1) k h4⟩
theorem Ut (hok:yZ J F w G) (hG:∀(id:Nat) (o:zf),H[id]? = some o→G id=some o):∀(d e:List (List D)) (b zH o:Nat),vA H d e→yk J F w b zH d o→yk J (λb=>F b∨Zs J b) w b zH e o
 | _,_,b,zH,o,.nil,h=>by simp only[yk]
 | _,_,b,zH,o,.cons d e x y h k,hv=>by
  simp only[yk] at hv ⊢
  obtain⟨h1,h2,h3⟩:=hv
  exact⟨by rw[←zgd _ _ h];exact h1,YR hok hG _ _ b o h h2,Ut hok hG _ _ b zH (o+zH) k h3⟩
theorem zgd:∀(d e:List D),wP H d e→d.length=e.length
 | _,_,.nil=>rfl
 | _,_,.cons d e a b _ k=>by simp[zgd a b k]
theorem zc6:∀(d e:List (List D)),vA H d e→d.length=e.length
 | _,_,.nil=>rfl
 | _,_,.cons d e a b _ k=>by simp[zc6 a b k]
end
theorem Wu {J':yX} {F':Nat→Prop} {w':World}:∀(ds:List D) (vs:List Value),ZZ ds=true→yf J F w ds vs→yf J' F' w' ds vs
 | [],vs,_,h=>by simp only[yf] at h ⊢;exact h
 | d::r,vs,hs,h=>by
  simp only[ZZ] at hs
  simp only[yf] at h ⊢
  obtain⟨v,us,rfl,h2,h3⟩:=h
  cases e:isScalar d with
  | false=>rw[e] at hs;cases hs
  | true =>
   rw[e] at hs
   refine⟨v,us,rfl,?_,Wu r us hs h3⟩
   cases d<;>simp[isScalar] at e
   simpa only[rep] using h2
theorem zoL {J':yX} {F':Nat→Prop} {w':World} {d:D} {v:Value} (hb:zjf d=true) (h:rep J F w d v):rep J' F' w' d v:=by
 cases d<;>simp[zjf] at hb
 case sc=>simpa only[rep] using h
 case agg cs=>simp only[rep] at h ⊢;obtain⟨vs,h1,h2⟩:=h;exact⟨vs,h1,Wu cs vs hb h2⟩
 case yO cs=>simp only[rep] at h ⊢;obtain⟨vs,h1,h2⟩:=h;exact⟨vs,h1,Wu cs vs hb h2⟩
end
section
variable {P:Program} {seq:Bool} {o:Oper} {env:Env} {H:List zf} {K:Jk}
theorem XD {f:FuncId} {vs:Array Value} {a:Act} {w:World} {K:Act→World→Prop} {Q:Exit→Act→World→Prop} {R:Ending→World→Prop} (hrun:(execOp a.eval o).run P w=.ok (.enter f vs) w) (hc:Calls P f vs w R)
  (hR:∀e w',R e w'→∃v,e=.returned v∧K (a.put o.dst v) w'):o.wp P a w K Q:=by
 unfold Oper.wp
 rw[hrun,Oper.upon_enter]
 exact hc.mono λe w' h=>by
  obtain⟨v,rfl,hk⟩:=hR e w' h
  exact hk
def ZH (P:Program) (o:Oper) (env:Env) (H:List zf) (K:Jk):Prop :=
 ∀(J:yX) (F:Nat→Prop) (w:World) (a:Act),yZ J F w (λi=>H[i]?)→(∀id,J id≠none→id<H.length)→(∀x∈o.op.operands,rep J F w (xi env x) (a.eval x)) →
  ∀(K2:Act→World→Prop) (Q:Exit→Act→World→Prop),
   (∀d H2 rd wr v w' J' F',K d H2 rd wr→rep J' F' w' d v→yZ J' F' w' (λi=>H2[i]?)→Ext J F w J' F' w'→(∀id,J' id≠none→id<H2.length)→K2 (a.put o.dst v) w')→o.wp P a w K2 Q
theorem zbP {d:D} {H2:List zf} {rd wr:List Nat} (h:zwJ P o env H d H2) (hK:K d H2 rd wr):ZH P o env H K:=λJ F w a hok hdom hops K2 Q hK2 =>
 h.2 J F w a hok hdom hops K2 Q λv w' J' F' h1 h2 h3 h4=>hK2 d H2 rd wr v w' J' F' hK h1 h2 h3 h4
theorem zob (h:Sound P o env H K):ZH P o env H K:=let⟨_,_,_,_,h1,h2⟩:=h;zbP h1.seq h2
theorem vi:∀H:List zf,Wg H=H.map zf.frozen
 | []=>rfl
 | o::r=>by simp only[Wg,List.map_cons,vi r]
theorem zeq {f:FuncId} {args:List D} {vals:Act→List Value} (hrun:∀(a:Act) (w:World),zd9 P f→(∀(J:yX) (F:Nat→Prop),(∀x∈o.op.operands,rep J F w (xi env x) (a.eval x))→(execOp a.eval o).run P w=.ok (.enter f (vals a).toArray) w))
  (hargs:∀(J:yX) (F:Nat→Prop) (w:World) (a:Act),(∀x∈o.op.operands,rep J F w (xi env x) (a.eval x))→yf J F w args (vals a)) (h:zrc P seq f args H K) :
  Sound P o env H K∨(seq=true∧ZH P o env H K):=by
 rcases h with⟨d,⟨hf,hp⟩,hK⟩|⟨args',d,hd,⟨hf,hp⟩,hb,hK⟩|⟨hs,d,H2,⟨hf,hl,hp⟩,hK⟩|⟨d,H2,hu,huo,hA,hK⟩|⟨d,H2,L,hA,hK⟩|⟨hs,args',d,hd,⟨hf,hp⟩,hK⟩|⟨d,L,hA,hK⟩
 ·refine .inl ⟨d,H,[],[],⟨λ_ _=>rfl,Nat.le_refl _,(λ_ h=>by cases h),λJ F w a G hok hops _ _ K Q hK=>?_⟩,hK⟩
  refine XD (hrun a w hf J F hops) (hp J F w _ hok.lt (hargs J F w a hops)) λe w' hR=>?_
  obtain⟨v,F',rfl,h1,h2,h3⟩:=hR
  refine⟨v,rfl,hK v w' J F' (yT (JY J) (λ_ h=>h) (λ_ _=>rfl) _ _ h2) ?_ (Ext.zsl hok h3) λ_ h _=>h⟩
  rw[VJ]
  exact hok.za8 (λb hb=>h3.block b hb (ZK b)) h3.size h3.grow (λb hb=>(h3.wu b hb).imp_right λq=>q.resolve_left (ZK b)) h1
 ·refine .inl ⟨d,H,List.range H.length,[],⟨λ_ _=>rfl,Nat.le_refl _,(λ_ h=>by cases h),λJ F w a G hok hops hrd _ K Q hK=>?_⟩,hK⟩
  have hG:∀(id:Nat) (o:zf),H[id]? = some o→G id=some o:=λid o h=>by
   rw[hrd id (.inl ?_)]
   ·exact h
   ·rw[List.mem_range]
    rcases Nat.lt_or_ge id H.length with hl|hl
    ·exact hl
    ·rw[List.getElem?_eq_none hl] at h;cases h
  have hlt:∀b,F b∨Zs J b→b<w.heap.size:=λb hb=>hb.elim (hok.lt b) λ⟨i,s,hi,hs⟩=>hok.xu hi hs
  refine XD (hrun a w hf J F hops) (hp J _ w _ (hok.lt.mono (λ_ h=>.inl h) (λ_ _=>rfl) hlt) (vU hok hG _ _ _ hd (hargs J F w a hops))) λe w' hR=>?_
  obtain⟨v,F',rfl,h1,h2,h3⟩:=hR
  have hblk:∀b,b<w.heap.size→w'.heap[b]? = w.heap[b]?:=λb hb=>h3.block b hb (ZK b)
  refine⟨v,rfl,hK v w' J F (zoL hb h2) ?_ ⟨h3.os,h3.tape,h3.output,h3.size,λb hb _=>hblk b hb,λb hb=>hblk b (hok.lt b hb),yX.le_refl J,λ_ h=>h,λb hb=>.inl hb,λb hb=>.inl hb⟩ λ_ h _=>h⟩
  rw[VJ]
  exact hok.za8 hblk h3.size (λ_ h=>h) (λb hb=>.inl hb) (λb hb=>Nat.lt_of_lt_of_le (hok.lt b hb) h3.size)
 ·refine .inr ⟨hs,zbP (d:=d) (H2:=H2) (rd:=[]) (wr:=[]) ⟨hl,λJ F w a hok hdom hops K Q hK=>?_⟩ hK⟩
  refine XD (hrun a w hf J F hops) (hp J F w _ hok hdom (hargs J F w a hops)) λe w' hR=>?_
  obtain⟨v,J',F',rfl,h1,h2,h3,h4⟩:=hR
  exact⟨v,rfl,hK v w' J' F' h3 h1 h4 h2⟩
 ·refine .inl ⟨d,H2,zhp H2.length,zhp H2.length,⟨λid hid=>?_,hA.len,λid hid=>(YB id _).1 hid,λJ F w a G hok hops hrd hnone K Q hK=>?_⟩,hK⟩
  ·have h1:¬id<H2.length:=λh=>hid ((YB id _).2 h)
   have:=hA.len
   rw[List.getElem?_eq_none (by omega),List.getElem?_eq_none (by omega)]
  ·have core:=QV (G:=G) (G':=Jy G (zhp H2.length) H2) (λi=>i) hA (λi j _ _ h=>h) hok (λi o ho=>by
    rw[zcP,hrd i (.inl ((YB i _).2 (Nat.lt_of_lt_of_le (ua ho) hA.len)))]
    exact ho) (λi h1 h2=>hnone i h1 ((YB i _).2 h2)) (by rw[Yj];exact hargs J F w a hops) (λi o ho=>by
    rw[zcP]
    unfold Jy
    rw[if_pos ((YB i _).2 (ua ho))]
    exact ho) (λj hj=>by
    unfold Jy
    rw[if_neg λh=>hj j ((YB j _).1 h) rfl]) hu (qT huo)
   refine XD (hrun a w hA.ok J F hops) core λe w' hR=>?_
   obtain⟨v,J',F',rfl,h1,h2,h3,h4⟩:=hR
   rw[zhg] at h3
   refine⟨v,rfl,hK v w' J' F' h3 h1 h4 λid hid hw=>?_⟩
   cases e:J' id with
   | none=>rfl
   | some s =>
    rcases h2 id (by rw[e];simp) with q|⟨i,q1,q2⟩
    ·exact absurd hid q
    ·subst q2
     exact absurd ((YB i _).2 q1) hw
 ·refine .inl ⟨d,H2,L,L,⟨λid hid=>hA.frame id hid,hA.len,λid hid=>hA.lt id hid,λJ F w a G hok hops hrd hnone K Q hK=>?_⟩,hK⟩
  refine XD (hrun a w hA.ok J F hops) (hA.run J F w _ G hok (λid hid=>hrd id (.inl hid)) (λid hid h=>hnone id h hid) (hargs J F w a hops)) λe w' hR=>?_
  obtain⟨v,J',F',rfl,h1,h2,h3,h4⟩:=hR
  refine⟨v,rfl,hK v w' J' F' h3 h1 h4 λid hid hw=>?_⟩
  cases e:J' id with
  | none=>rfl
  | some s =>
   rcases h2 id (by rw[e];simp) with q|q
   ·exact absurd hid q
   ·exact absurd q hw
 ·refine .inr ⟨hs,λJ F w a hok hdom hops K2 Q hK2=>?_⟩
  have hlt:∀b,F b∨Zs J b→b<w.heap.size:=λb hb=>hb.elim (hok.lt b) λ⟨i,s,hi,hs⟩=>hok.xu hi hs
  refine XD (hrun a w hf J F hops) (hp J (λb=>F b∨Zs J b) w _ (hok.lt.mono (λ_ h=>.inl h) (λ_ _=>rfl) hlt) (vU hok (λ_ _ h=>h) _ _ _ hd (hargs J F w a hops))) λe w' hR=>?_
  obtain⟨v,F',rfl,h1,h2,h3⟩:=hR
  have hblk:∀b,b<w.heap.size→w'.heap[b]? = w.heap[b]?:=λb hb=>h3.block b hb (ZK b)
  refine⟨v,rfl,hK2 d _ [] [] v w' J F' hK (yT (JY J) (λ_ h=>h) (λ_ _=>rfl) _ _ h2) ⟨λi s hs=>?_,hok.one,λi s b o g1 g2 g3 g4=>?_,hok.lt.mono (λb hb=>h3.grow b (.inl hb)) (λb hb=>hblk b (hok.lt b hb)) h1⟩ ?_ λid hid=>?_⟩
  ·obtain⟨o,q1,q2⟩:=hok.obj i s hs
   refine⟨o.frozen,?_,?_⟩
   ·rw[vi,List.getElem?_map,q1];rfl
   ·have q3:=xX (J':=J) (F':=F') (w':=w') (yX.le_refl J) (λb hb=>h3.grow b (.inl hb)) (λb hb=>hblk b (hok.lt b hb)) (λb hb=>hblk b (hok.xu hs hb)) q2
    cases o with
    | row m cs =>
     obtain⟨k1,k2,k3,k4,k5,b,vals,te,t1,t2,t3,t4,t5⟩:=q3
     exact⟨k1,k2,k3,k4,k5,b,vals,te,t1,t2,t3,t4,λ_=>h3.grow b (.inr ⟨i,s,hs,by simp[Site.u6,k1,t1]⟩)⟩
    | vec m v e xs =>
     obtain⟨k1,k2,k3,k4,k5,k6⟩:=q3
     refine⟨k1,k2,k3,k4,k5,?_⟩
     by_cases hz:s.cap=0
     ·exact .inl hz
     ·rcases k6 with k6|⟨b,o,vals,te,t1,t2,t3,t4,t5⟩
      ·exact .inl k6
      ·exact .inr ⟨b,o,vals,te,t1,t2,t3,t4,λ_=>h3.grow b (.inr ⟨i,s,hs,by simp[Site.u6,k1,hz,t1]⟩)⟩
    | wc m I=>exact q3
  ·exfalso
   rw[vi,List.getElem?_map] at g3
   cases e:H[i]? with
   | none=>rw[e] at g3;cases g3
   | some x =>
    rw[e] at g3
    cases x<;>cases g3<;>cases g4
  ·exact⟨h3.os,h3.tape,h3.output,h3.size,λb hb _=>hblk b hb,λb hb=>hblk b (hok.lt b hb),yX.le_refl J,λb hb=>h3.grow b (.inl hb),λb hb=>.inl hb,λb hb=>by
    rcases h3.wu b hb with q|q|q
    ·rcases q with q|q
     ·exact .inl q
     ·exact .inr (.inl q)
    ·exact absurd q (ZK b)
    ·exact .inr (.inr q)⟩
  ·have:=hdom id hid
   rw[vi,List.length_map]
   exact this
 ·refine .inl ⟨d,H,L,[],⟨λ_ _=>rfl,Nat.le_refl _,(λ_ h=>by cases h),λJ F w a G hok hops hrd _ K Q hK=>?_⟩,hK⟩
  refine XD (hrun a w hA.ok J F hops) (hA.run J F w _ G hok (λid hid=>hrd id (.inl hid)) (hargs J F w a hops)) λe w' hR=>?_
  obtain⟨v,J',F',rfl,h1,h2,h3,h4⟩:=hR
  refine⟨v,rfl,hK v w' J' F' h3 (by rw[VJ];exact h1) h4 λid hid _=>?_⟩
  cases e:J' id with
  | none=>rfl
  | some s=>exact absurd hid (h2 id (by rw[e];simp))
theorem zeQ {J:yX} {F:Nat→Prop} {w:World} {a:Act}:∀(xs:List Operand),(∀x∈xs,rep J F w (xi env x) (a.eval x))→yf J F w (xs.map (xi env)) (xs.map a.eval)
 | [],_=>by simp only[List.map_nil,yf]
 | x::r,h=>by
  simp only[List.map_cons,yf]
  exact⟨_,_,rfl,h x (by simp),zeQ r λy hy=>h y (by simp[hy])⟩
theorem JR {f:FuncId} {args:Array Value} {w:World} (h:zd9 P f):(callFunc f args).run P w=.ok (.enter f args) w:=by
 obtain⟨fn,h1,h2,h3⟩:=h
 simp only[beq_eq_false_iff_ne,ne_eq] at h2
 simp[callFunc,program,Sem.run,h1,h2,pure]
 intro hb
 simp[hb] at h3
theorem zzt {f:FuncId} {args:Array Operand} {ts:Array TypeId} (ho:o.op=.call { callee:=.value (.func f),args,argTypes:=ts }) (h:step P seq (.call f args.toList) env H K) :
  Sound P o env H K∨(seq=true∧ZH P o env H K):=by
 simp only[step,zcU] at h
 refine zeq (vals:=λa=>args.toList.map a.eval) (λa w hf J F hops=>?_) (λJ F w a hops=>zeQ _ λx hx=>hops x ?_) h
 ·have e1:args.map a.eval=(args.toList.map a.eval).toArray:=by apply Array.ext';simp
  simp[execOp,ho,resolve,Deferred.ofValue,Act.eval,invoke,JR hf,Sem.run,pure,e1]
 ·simp[ho,Op.operands,Call.operands]
  exact .inr (by simpa using hx)
theorem zs6 {x:Operand} {args:Array Operand} {ts:Array TypeId} (ho:o.op=.call { callee:=.value x,args,argTypes:=ts }) (h:step P seq (.vu x args.toList) env H K) :
  Sound P o env H K∨(seq=true∧ZH P o env H K):=by
 simp only[step,yN,zcU] at h
 split at h
 ·rename_i f first cap e
  have hval:∀(J:yX) (F:Nat→Prop) (w:World) (a:Act),(∀x∈o.op.operands,rep J F w (xi env x) (a.eval x))→∃vs us,a.eval x=.func (.func f) vs.toArray us.toArray∧yf J F w first vs∧yf J F w cap us:=λJ F w a hops=>by
   have:=hops x (by simp[ho,Op.operands,Call.operands])
   rw[e] at this
   simpa only[rep] using this
  refine zeq (vals:=λa=>match a.eval x with
   | .func _ vs us=>vs.toList++args.toList.map a.eval++us.toList
   | _=>[]) (λa w hf J F hops=>?_) (λJ F w a hops=>?_) h
  ·obtain⟨vs,us,e1,_,_⟩:=hval J F w a hops
   simp only[e1]
   simp only[execOp,ho,resolve,e1,Deferred.ofValue,pure,Sem.run_bind,Sem.run,Result.andThen_ok,invoke,JR hf]
   congr 2
   apply Array.ext'
   simp
  ·obtain⟨vs,us,e1,e2,e3⟩:=hval J F w a hops
   simp only[e1]
   refine Yo (Yo (by simpa using e2) (zeQ _ λy hy=>hops y ?_)) (by simpa using e3)
   simp[ho,Op.operands,Call.operands]
   exact .inr (by simpa using hy)
 ·exact h.elim
theorem zr0 {t u e e':TypeId} {args:Array Operand} {ts:Array TypeId} {x y:Operand} {z:Value} (ha:args.toList=[x,y]) (hts:ts.toList=[t,u]) (ht:P.underlying t=some (.slice e)) (hu:P.underlying u=some (.slice e')) (hz:(P.info? e).bind (·.zero)=some z) (hzs:z.cells.size=P.cellsOf e) (hpos:0<P.cellsOf e) (hbp:0<P.bytesOf e)
  (ho:o.op=.call { callee:=.builtin .append,args,argTypes:=ts }) (h:step P seq (.append (P.cellsOf e) (P.bytesOf e) x y) env H K):Sound P o env H K:=by
 have ea:args=#[x,y]:=Array.ext' (by simpa using ha)
 have et:ts=#[t,u]:=Array.ext' (by simpa using hts)
 subst ea et
 simp only[step,yN] at h
 obtain⟨ys,rd,h,hy⟩:=zgt h
 split at h
 ·rename_i e1
  obtain⟨h1,h2⟩:=h
  rw[vY] at h2
  exact zhz ht hu hz hzs hpos hbp rfl ho e1 hy h1 h2
 ·rename_i id zY lo hi e1
  obtain⟨ob,h1,h2⟩:=(yM _ _ _).1 h
  split at h2
  ·rename_i ver' esz' zs
   obtain⟨hv,h2⟩:=h2
   subst hv
   obtain⟨he,h3,h4⟩:=(wg _ _ _).1 h2
   subst he
   obtain⟨_,h5⟩:=(uk _ _ _ _).1 h4
   exact zhC ht hu hz hzs hpos hbp rfl ho e1 h1 hy h3 h5
  ·exact h2.elim
 ·exact h.elim
end
end
end
end Go.Proofs.YtoehflejhaakpaaGreatDoor
