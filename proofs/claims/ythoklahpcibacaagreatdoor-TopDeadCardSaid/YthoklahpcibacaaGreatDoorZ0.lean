/-
  Parts of a proof, joined. No statement is proved here.
-/
import Derived.WalkKit
import Derived.Below
import Derived.Lib.Hide
import Derived.Laws.MakeOwn
import Derived.Laws.Append
import Derived.Deep.AppendSrc
import Derived.Maps.Keyed
import Derived.Laws.BytesString
import Derived.Carry
namespace Go.Proofs.YthoklahpcibacaaGreatDoor
set_option linter.unusedSimpArgs false
set_option linter.unusedVariables false
set_option maxRecDepth 100000
section
section
open Go.RowKit
theorem oo:(∀{α:Type} [BEq α] [LawfulBEq α] {a b:α},(a != b)=true↔a≠b)∧(∀{α:Type} (a b:α),(a≠b)=¬a=b)∧(∀{α:Type} [BEq α] [LawfulBEq α] {a b:α},(a != b)=false↔a=b) ∧
  (∀{α:Type} [BEq α] [LawfulBEq α] {a b:α},(a==b)=true↔a=b)∧(∀{α:Type} [BEq α] [LawfulBEq α] {a b:α},(a==b)=false↔a≠b)∧(∀{p:Prop} [Decidable p],(decide p=true)=p)∧(∀{p:Prop} [Decidable p],decide p=false↔¬p) ∧
  (∀{α β:Type} {as:List α} (f:α→β),(List.map f as).length=as.length)∧(∀b:Bool,(¬b=true)=(b=false))∧(∀b:Bool,(¬b=false)=(b=true))∧(∀a b:Bool,((a&&b)=true)=(a=true∧b=true))∧(∀a b:Bool,((a||b)=true)=(a=true∨b=true)) ∧
  (∀{x y:Bool},(x&&y)=false↔x=false∨y=false)∧(∀{x y:Bool},(x||y)=false↔x=false∧y=false)∧(∀b:Bool,((!b)=true)=(b=false))∧(∀b:Bool,((!b)=false)=(b=true))∧(!true)=false∧(!false)=true ∧
  (∀{a b:Bool},(!a)=b↔a=!b)∧(¬True)=False∧(¬False)=True∧(∀b:Bool,(true||b)=true)∧(∀b:Bool,(false||b)=b)∧(∀b:Bool,(b||true)=true)∧(∀b:Bool,(b||false)=b)∧(∀b:Bool,(true&&b)=b)∧(∀b:Bool,(b&&true)=b) ∧
  (∀b:Bool,(false&&b)=false)∧(∀b:Bool,(b&&false)=false)∧(∀p:Prop,(True∧p)=p)∧(∀p:Prop,(p∧True)=p)∧(∀p:Prop,(p∨False)=p)∧(∀p:Prop,(False∨p)=p)∧(∀p:Prop,(True∨p)=True)∧(∀p:Prop,(p∨True)=True) ∧
  (∀p:Prop,(False∧p)=False)∧(∀p:Prop,(p∧False)=False)∧(true=false)=False∧(false=true)=False :=
 ⟨bne_iff_ne,ne_eq,bne_eq_false_iff_eq,beq_iff_eq,beq_eq_false_iff_ne,decide_eq_true_eq,decide_eq_false_iff_not,List.length_map,Bool.not_eq_true,Bool.not_eq_false,Bool.and_eq_true,Bool.or_eq_true,Bool.and_eq_false_iff,Bool.or_eq_false_iff,Bool.not_eq_true',Bool.not_eq_false',Bool.not_true,Bool.not_false,
  Bool.not_eq_eq_eq_not,not_true_eq_false,not_false_eq_true,Bool.true_or,Bool.false_or,Bool.or_true,Bool.or_false,Bool.true_and,Bool.and_true,Bool.false_and,Bool.and_false,true_and,and_true,or_false,false_or,true_or,or_true,false_and,and_false,Bool.true_eq_false,Bool.false_eq_true⟩
theorem ll:(∀{α β:Type} {as:List α} (f:α→β),(List.map f as).length=as.length)∧(∀{α:Type} {a:α} {as:List α},(a::as).length=as.length+1)∧(∀{α:Type},([]:List α).length=0)∧(∀{α:Type} {as bs:List α},(as++bs).length=as.length+bs.length) ∧
  (∀{α:Type} {i:Nat} {l:List α},(l.take i).length=min i l.length)∧(∀{α:Type} {i:Nat} {l:List α},(l.drop i).length=l.length-i)∧(∀{α:Type} {l:List α},l.drop 0=l)∧(∀{α:Type} {a:α} {as:List α} {i:Nat},(a::as).take (i+1)=a::as.take i)∧(∀{α:Type} {l:List α},l.take 0=[]) :=
 ⟨List.length_map,List.length_cons,List.length_nil,List.length_append,List.length_take,List.length_drop,List.drop_zero,List.take_succ_cons,List.take_zero⟩
inductive D where
 | xt
 | sc (v:Value)
 | loc (id off:Nat)
 | elt (id zW i off:Nat)
 | xk (cs:List D)
 | xj (zF:Nat) (xs:List (List D))
 | own (id zW lo hi:Nat)
 | fn (f:Fn) (first cap:List D)
 | ifc (t:TypeId) (d:D)
 | agg (cs:List D)
 | yI (cs:List D)
 | mp (id:Nat)
 | gv (g:Nat)
 deriving Inhabited
inductive zf where
 | row (m:Bool) (cs:List D)
 | vec (m:Bool) (zW zF:Nat) (xs:List (List D))
 | xL (m:Bool) (I:Array MapEntry→Prop)
 deriving Inhabited
structure Site where
 row:Bool
 zW:Nat
 ad:Option Addr
 zF:Nat
 cap:Nat
 len:Nat
def Site.uB (s:Site):Option Nat:=if s.row=false∧s.cap=0 then none else s.ad.map (·.block)
abbrev yK:=Nat→Option Site
def yl:Value→Bool
 | .agg _|.tuple _=>false
 | _=>true
section
variable (J:yK) (F:Nat→Prop) (w:World)
mutual
def rep:D→Value→Prop
 | .xt,_=>True
 | .sc u,v=>v=u
 | .loc id off,v=>∃s b,J id=some s∧s.row=true∧s.ad=some ⟨b,0,none⟩∧v=.pointer (some ⟨b,off,none⟩)
 | .elt id zW i off,v=>∃s a,J id=some s∧v=.pointer (some a)∧zW≤s.zW∧(zW=s.zW→∃b o,s.row=false∧s.ad=some ⟨b,o,none⟩∧i<s.len∧a=⟨b,o+i*s.zF+off,none⟩)
 | .xk cs,v=>∃b o,v=.pointer (some ⟨b,o,none⟩)∧F b∧zN b cs o
 | .xj zF xs,v=>∃A n c,v=.slice A n c∧n=xs.length∧n≤c∧(n=0∨∃b o,A=some ⟨b,o,none⟩∧F b∧yd b zF xs o)
 | .own id zW lo hi,v=>∃s A n c,J id=some s∧v=.slice A n c∧zW≤s.zW∧(zW=s.zW→s.row=false∧lo≤hi∧hi≤s.len∧n=hi-lo∧c=s.cap-lo∧(s.cap=lo∨∃b o,s.ad=some ⟨b,o,none⟩∧A=some ⟨b,o+lo*s.zF,none⟩))
 | .fn f first cap,v=>∃vs us,v=.func f vs.toArray us.toArray∧zY first vs∧zY cap us
 | .ifc t d,v=>∃u,v=.iface t u∧rep d u
 | .agg cs,v=>∃vs,v=.agg vs.toArray∧zY cs vs
 | .yI cs,v=>∃vs,v=.tuple vs.toArray∧zY cs vs
 | .mp id,v=>∃s b,J id=some s∧s.row=true∧s.ad=some ⟨b,0,none⟩∧v=.map (some b)
 | .gv g,v=>F g∧w.cell? ⟨g,0,none⟩=some v∧yl v=true
def zY:List D→List Value→Prop
 | [],vs=>vs=[]
 | d::ds,vs=>∃v us,vs=v::us∧rep d v∧zY ds us
def zN (b:Nat):List D→Nat→Prop
 | [],_=>True
 | c::r,o=>(∃u,w.cell? ⟨b,o,none⟩=some u∧yl u=true∧rep c u)∧zN b r (o+1)
def yd (b zF:Nat):List (List D)→Nat→Prop
 | [],_=>True
 | x::r,o=>x.length=zF∧zN b x o∧yd b zF r (o+zF)
end
end
def yK.le (J J':yK):Prop:=∀id s,J id=some s→∃s',J' id=some s'∧s.zW≤s'.zW∧(s.zW=s'.zW∨s.row=true→s'=s)
theorem yK.le_refl (J:yK):J.le J:=λ_ s h=>⟨s,h,Nat.le_refl _,λ_=>rfl⟩
theorem yK.le_trans {J J' J'':yK} (h:J.le J') (k:J'.le J''):J.le J'':=λid s e=>by
 obtain⟨s1,e1,l1,q1⟩:=h id s e
 obtain⟨s2,e2,l2,q2⟩:=k id s1 e1
 refine⟨s2,e2,Nat.le_trans l1 l2,λq=>?_⟩
 rcases q with q|q
 ·rw[q2 (.inl (by omega)),q1 (.inl (by omega))]
 ·have h1:=q1 (.inr q)
  subst h1
  exact q2 (.inr q)
theorem vE {w w':World} {b:Nat} (h:w'.heap[b]? = w.heap[b]?) (o:Nat):w'.cell? ⟨b,o,none⟩=w.cell? ⟨b,o,none⟩:=by
 simp only[World.cell?,h]
section
variable {J J':yK} {F F':Nat→Prop} {w w':World}
mutual
theorem yE (hJ:J.le J') (hF:∀b,F b→F' b) (hw:∀b,F b→w'.heap[b]? = w.heap[b]?):∀(d:D) (v:Value),rep J F w d v→rep J' F' w' d v
 | .xt,v,_=>by simp only[rep]
 | .sc u,v,h=>by simpa only[rep] using h
 | .loc id off,v,h=>by
  simp only[rep] at h ⊢
  obtain⟨s,b,h1,h2,h3,h4⟩:=h
  obtain⟨s',e,_,q⟩:=hJ id s h1
  rw[q (.inr h2)] at e
  exact⟨s,b,e,h2,h3,h4⟩
 | .elt id zW i off,v,h=>by
  simp only[rep] at h ⊢
  obtain⟨s,a,h1,h4,h2,h3⟩:=h
  obtain⟨s',e,l,q⟩:=hJ id s h1
  refine⟨s',a,e,h4,by omega,λq'=>?_⟩
  rw[q (.inl (by omega))]
  exact h3 (by omega)
 | .xk cs,v,h=>by
  simp only[rep] at h ⊢
  obtain⟨b,o,h1,h2,h3⟩:=h
  exact⟨b,o,h1,hF b h2,uR hJ hF hw b (vE (hw b h2)) cs o h3⟩
 | .xj zF xs,v,h=>by
  simp only[rep] at h ⊢
  obtain⟨A,n,c,h1,h2,hc,h3⟩:=h
  refine⟨A,n,c,h1,h2,hc,h3.imp id λ⟨b,o,h4,h5,h6⟩=>⟨b,o,h4,hF b h5,YL hJ hF hw b zF (vE (hw b h5)) xs o h6⟩⟩
 | .own id zW lo hi,v,h=>by
  simp only[rep] at h ⊢
  obtain⟨s,A,n,c,h1,h4,h2,h3⟩:=h
  obtain⟨s',e,l,q⟩:=hJ id s h1
  refine⟨s',A,n,c,e,h4,by omega,λq'=>?_⟩
  rw[q (.inl (by omega))]
  exact h3 (by omega)
 | .fn f first cap,v,h=>by
  simp only[rep] at h ⊢
  obtain⟨vs,us,h1,h2,h3⟩:=h
  exact⟨vs,us,h1,ZC hJ hF hw first vs h2,ZC hJ hF hw cap us h3⟩
 | .ifc t d,v,h=>by
  simp only[rep] at h ⊢
  obtain⟨u,h1,h2⟩:=h
  exact⟨u,h1,yE hJ hF hw d u h2⟩
 | .agg cs,v,h=>by
  simp only[rep] at h ⊢
  obtain⟨vs,h1,h2⟩:=h
  exact⟨vs,h1,ZC hJ hF hw cs vs h2⟩
 | .yI cs,v,h=>by
  simp only[rep] at h ⊢
  obtain⟨vs,h1,h2⟩:=h
  exact⟨vs,h1,ZC hJ hF hw cs vs h2⟩
 | .gv g,v,h=>by
  simp only[rep] at h ⊢
  exact⟨hF g h.1,(vE (hw g h.1) 0).trans h.2.1,h.2.2⟩
 | .mp id,v,h=>by
  simp only[rep] at h ⊢
  obtain⟨s,b,h1,h2,h3,h4⟩:=h
  obtain⟨s',e,_,q⟩:=hJ id s h1
  rw[q (.inr h2)] at e
  exact⟨s,b,e,h2,h3,h4⟩
theorem ZC (hJ:J.le J') (hF:∀b,F b→F' b) (hw:∀b,F b→w'.heap[b]? = w.heap[b]?):∀(ds:List D) (vs:List Value),zY J F w ds vs→zY J' F' w' ds vs
 | [],vs,h=>by simpa only[zY] using h
 | d::ds,vs,h=>by
  simp only[zY] at h ⊢
  obtain⟨v,us,h1,h2,h3⟩:=h
  exact⟨v,us,h1,yE hJ hF hw d v h2,ZC hJ hF hw ds us h3⟩
theorem uR (hJ:J.le J') (hF:∀b,F b→F' b) (hw:∀b,F b→w'.heap[b]? = w.heap[b]?) (b:Nat) (hb:∀o,w'.cell? ⟨b,o,none⟩=w.cell? ⟨b,o,none⟩):∀(ds:List D) (o:Nat),zN J F w b ds o→zN J' F' w' b ds o
 | [],o,h=>by simp only[zN]
 | c::r,o,h=>by
  simp only[zN] at h ⊢
  obtain⟨⟨u,h1,h0,h2⟩,h3⟩:=h
  exact⟨⟨u,by rw[hb];exact h1,h0,yE hJ hF hw c u h2⟩,uR hJ hF hw b hb r (o+1) h3⟩
theorem YL (hJ:J.le J') (hF:∀b,F b→F' b) (hw:∀b,F b→w'.heap[b]? = w.heap[b]?) (b zF:Nat) (hb:∀o,w'.cell? ⟨b,o,none⟩=w.cell? ⟨b,o,none⟩):∀(xs:List (List D)) (o:Nat),yd J F w b zF xs o→yd J' F' w' b zF xs o
 | [],o,h=>by simp only[yd]
 | x::r,o,h=>by
  simp only[yd] at h ⊢
  obtain⟨h1,h2,h3⟩:=h
  exact⟨h1,uR hJ hF hw b hb x o h2,YL hJ hF hw b zF hb r (o+zF) h3⟩
end
theorem xl {b:Nat}:∀(cs:List D) (o j:Nat) (c:D),cs[j]? = some c→zN J F w b cs o→∃u,w.cell? ⟨b,o+j,none⟩=some u∧yl u=true∧rep J F w c u
 | [],_,_,_,h,_=>by simp at h
 | c::r,o,0,_,h,k=>by
  simp only[zN] at k
  simp at h;subst h
  exact k.1
 | c::r,o,j+1,d,h,k=>by
  simp only[zN] at k
  have:=xl r (o+1) j d (by simpa using h) k.2
  rwa [show o+1+j=o+(j+1) by omega] at this
theorem wy {b zF:Nat}:∀(xs:List (List D)) (o j:Nat) (x:List D),xs[j]? = some x→yd J F w b zF xs o→x.length=zF∧zN J F w b x (o+j*zF)
 | [],_,_,_,h,_=>by simp at h
 | x::r,o,0,_,h,k=>by
  simp only[yd] at k
  simp at h;subst h
  exact⟨k.1,by simpa using k.2.1⟩
 | x::r,o,j+1,d,h,k=>by
  simp only[yd] at k
  have:=wy r (o+zF) j d (by simpa using h) k.2.2
  rwa [show o+zF+j*zF=o+(j+1)*zF by rw[Nat.add_mul];omega] at this
theorem xg {b:Nat}:∀(cs:List D) (o:Nat),(∀(j:Nat) (c:D),cs[j]? = some c→∃u,w.cell? ⟨b,o+j,none⟩=some u∧yl u=true∧rep J F w c u)→zN J F w b cs o
 | [],_,_=>by simp only[zN]
 | c::r,o,h=>by
  simp only[zN]
  refine⟨by simpa using h 0 c rfl,xg r (o+1) λj d hd=>?_⟩
  have:=h (j+1) d (by simpa using hd)
  rwa [show o+(j+1)=o+1+j by omega] at this
theorem wX {b zF:Nat}:∀(xs:List (List D)) (o:Nat),(∀(j:Nat) (x:List D),xs[j]? = some x→x.length=zF∧zN J F w b x (o+j*zF))→yd J F w b zF xs o
 | [],_,_=>by simp only[yd]
 | x::r,o,h=>by
  simp only[yd]
  refine⟨(h 0 x rfl).1,by simpa using (h 0 x rfl).2,wX r (o+zF) λj d hd=>?_⟩
  have:=h (j+1) d (by simpa using hd)
  rwa [show o+(j+1)*zF=o+zF+j*zF by rw[Nat.add_mul];omega] at this
theorem xh:∀(ds:List D) (vs:List Value),zY J F w ds vs→vs.length=ds.length
 | [],vs,h=>by simp only[zY] at h;simp[h]
 | d::ds,vs,h=>by
  simp only[zY] at h
  obtain⟨v,us,rfl,_,h3⟩:=h
  simp[xh ds us h3]
theorem vl:∀(ds:List D) (vs:List Value) (j:Nat) (d:D),ds[j]? = some d→zY J F w ds vs→∃v,vs[j]? = some v∧rep J F w d v
 | [],_,_,_,h,_=>by simp at h
 | d::ds,vs,0,_,h,k=>by
  simp only[zY] at k
  obtain⟨v,us,rfl,h2,_⟩:=k
  simp at h;subst h
  exact⟨v,rfl,h2⟩
 | d::ds,vs,j+1,e,h,k=>by
  simp only[zY] at k
  obtain⟨v,us,rfl,_,h3⟩:=k
  simpa using vl ds us j e (by simpa using h) h3
theorem J9:∀(ds:List D) (vs:List Value),vs.length=ds.length→(∀(j:Nat) (d:D) (v:Value),ds[j]? = some d→vs[j]? = some v→rep J F w d v)→zY J F w ds vs
 | [],vs,h,_=>by simp only[zY];exact List.length_eq_zero_iff.1 h
 | d::ds,[],h,_=>by simp at h
 | d::ds,v::vs,h,k=>by
  simp only[zY]
  exact⟨v,vs,rfl,k 0 d v rfl rfl,J9 ds vs (by simpa using h) λj e u he hu=>k (j+1) e u (by simpa using he) (by simpa using hu)⟩
theorem Ym {a b:List D}:∀{va vb:List Value},zY J F w a va→zY J F w b vb→zY J F w (a++b) (va++vb):=by
 induction a with
 | nil=>intro va vb h k;simp only[zY] at h;subst h;simpa using k
 | cons d ds ih =>
  intro va vb h k
  simp only[zY] at h
  obtain⟨v,us,rfl,h2,h3⟩:=h
  simp only[List.cons_append,zY]
  exact⟨v,us++vb,rfl,h2,ih h3 k⟩
end
def zf.mut:zf→Bool|.row m _=>m|.vec m _ _ _=>m|.xL m _=>m
def Xi:List (Nat × List D):=[]
def zjz:List (Nat × Nat × ByteArray):=[]
structure FOK (F:Nat→Prop) (w:World):Prop where
 lt:∀b,F b→b<w.heap.size
 gl:∀g cs,(g,cs)∈Xi→F g∧zN (λ_=>none) F w g cs 0
 se:∀g t s,(g,t,s)∈zjz→F g∧∃b o vals te,w.cell? ⟨g,0,none⟩=some (.iface t (.pointer (some ⟨b,o,none⟩)))∧F b∧w.heap[b]? = some (.cells vals te (0,0))∧w.cell? ⟨b,o,none⟩=some (.string s)
instance {F:Nat→Prop} {w:World}:CoeFun (FOK F w) λ_=>∀b,F b→b<w.heap.size:=⟨FOK.lt⟩
theorem FOK.mono {F F':Nat→Prop} {w w':World} (h:FOK F w) (hF:∀b,F b→F' b) (hw:∀b,F b→w'.heap[b]? = w.heap[b]?) (hlt:∀b,F' b→b<w'.heap.size):FOK F' w' where
 lt:=hlt
 se g t s hg:=by
  obtain⟨h1,b,o,vals,te,h2,h3,h4,h5⟩:=h.se g t s hg
  exact⟨hF g h1,b,o,vals,te,(vE (hw g h1) 0).trans h2,hF b h3,(hw b h3).trans h4,(vE (hw b h3) o).trans h5⟩
 gl g cs hg:=by
  obtain⟨h1,h2⟩:=h.gl g cs hg
  have k:=yE (J:=λ_=>none) (J':=λ_=>none) (yK.le_refl _) hF hw (.xk cs) (.pointer (some ⟨g,0,none⟩)) (by simp only[rep];exact⟨g,0,rfl,h1,h2⟩)
  simp only[rep] at k
  obtain⟨b,o,e,k1,k2⟩:=k
  cases e
  exact⟨k1,k2⟩
theorem FOK.rep {F:Nat→Prop} {w:World} (h:FOK F w) (J:yK) {g:Nat} {cs:List D} (hg:(g,cs)∈Xi):rep J F w (.xk cs) (.pointer (some ⟨g,0,none⟩)):=by
 obtain⟨h1,h2⟩:=h.gl g cs hg
 exact yE (J:=λ_=>none) (J':=J) (λ_ _ q=>by cases q) (λ_ q=>q) (λ_ _=>rfl) (.xk cs) (.pointer (some ⟨g,0,none⟩)) (by simp only[_root_.Go.Proofs.YthoklahpcibacaaGreatDoor.rep];exact⟨g,0,rfl,h1,h2⟩)
section
variable (J:yK) (F:Nat→Prop) (w:World)
def Yl (s:Site):zf→Prop
 | .row m cs=>s.row=true∧s.zW=0∧s.zF=1∧s.len=cs.length∧s.cap=cs.length∧∃b vals te,s.ad=some ⟨b,0,none⟩∧w.heap[b]? = some (.cells vals te (0,0))∧vals.size=cs.length∧zN J F w b cs 0∧(m=false→F b)
 | .vec m zW zF xs=>s.row=false∧s.zW=zW∧s.zF=zF∧s.len=xs.length∧s.len≤s.cap∧(s.cap=0∨∃b o vals te,s.ad=some ⟨b,o,none⟩∧w.heap[b]? = some (.cells vals te (0,0))∧o+s.cap*zF≤vals.size∧yd J F w b zF xs o∧(m=false→F b))
 | .xL _ I=>s.row=true∧∃b es clock,s.ad=some ⟨b,0,none⟩∧w.heap[b]? = some (.map es clock)∧I es
structure yL (H:Nat→Option zf):Prop where
 obj:∀id s,J id=some s→∃o,H id=some o∧Yl J F w s o
 one:∀id id' s s' b,J id=some s→J id'=some s'→s.uB=some b→s'.uB=some b→id=id'
 apart:∀id s b o,J id=some s→s.uB=some b→H id=some o→o.mut=true→¬F b
 lt:FOK F w
def Zm (b:Nat):Prop:=∃id s,J id=some s∧s.uB=some b
end
structure Ext (J:yK) (F:Nat→Prop) (w:World) (J':yK) (F':Nat→Prop) (w':World):Prop where
 os:w'.os=w.os
 tape:w'.tape=w.tape
 output:w'.output=w.output
 size:w.heap.size≤w'.heap.size
 block:∀b,b<w.heap.size→¬Zm J b→w'.heap[b]? = w.heap[b]?
 frozen:∀b,F b→w'.heap[b]? = w.heap[b]?
 le:J.le J'
 grow:∀b,F b→F' b
 xM:∀b,Zm J' b→Zm J b∨w.heap.size≤b
 we:∀b,F' b→F b∨Zm J b∨w.heap.size≤b
theorem Ext.refl (J:yK) (F:Nat→Prop) (w:World):Ext J F w J F w:=⟨rfl,rfl,rfl,Nat.le_refl _,λ_ _ _=>rfl,λ_ _=>rfl,yK.le_refl J,λ_ h=>h,λ_ h=>.inl h,λ_ h=>.inl h⟩
theorem Ext.trans {J J' J'':yK} {F F' F'':Nat→Prop} {w w' w'':World} (h:Ext J F w J' F' w') (k:Ext J' F' w' J'' F'' w''):Ext J F w J'' F'' w'' where
 os:=k.os.trans h.os
 tape:=k.tape.trans h.tape
 output:=k.output.trans h.output
 size:=Nat.le_trans h.size k.size
 block b hb ho:=by
  have h1:¬Zm J' b:=λh'=>(h.xM b h').elim ho (λh''=>by omega)
  rw[k.block b (by have:=h.size;omega) h1,h.block b hb ho]
 frozen b hb:=(k.frozen b (h.grow b hb)).trans (h.frozen b hb)
 le:=yK.le_trans h.le k.le
 grow b hb:=k.grow b (h.grow b hb)
 xM b hb:=(k.xM b hb).elim (h.xM b) λh'=>.inr (Nat.le_trans h.size h')
 we b hb:=by
  rcases k.we b hb with h1|h1|h1
  ·exact h.we b h1
  ·exact(h.xM b h1).elim (λh2=>.inr (.inl h2)) (λh2=>.inr (.inr h2))
  ·exact .inr (.inr (Nat.le_trans h.size h1))
theorem zcl {J J':yK} {F F':Nat→Prop} {w w':World} (h:Ext J F w J' F' w') {d:D} {v:Value} (k:rep J F w d v):rep J' F' w' d v:=yE h.le h.grow h.frozen d v k
end
section
open Go.RowKit
inductive POp where
 | move (x:Operand)
 | pick (c a b:Operand)
 | alloc (z:List Value)
 | box (x:Operand)
 | build (z:List Value) (parts:List (Nat × Nat × Operand))
 | wh (zF n:Nat) (parts:List Operand)
 | zi (a:Operand)
 | v7 (n:Nat) (a:Operand)
 | store (n:Nat) (a v:Operand)
 | zm (x:Operand)
 | bin (op:BinOp) (x y:Operand)
 | eqb (neq:Bool) (x y:Operand)
 | eqa (neq:Bool) (ks:List Nat) (x y:Operand)
 | zjZ (kind:Nat) (neq:Bool) (x:Operand)
 | un (op:UnOp) (x:Operand)
 | ext (i:Nat) (x:Operand)
 | zv (off:Nat) (x:Operand)
 | field (off n:Nat) (agg:Bool) (x:Operand)
 | zM (zF:Nat) (x i:Operand)
 | zlX (len zF:Nat) (x i:Operand)
 | zqf (x i:Operand)
 | ztx (len zF:Nat) (agg:Bool) (x i:Operand)
 | ZP (f:Fn) (first cap:List Operand)
 | x5 (zF bytes:Nat) (z:List Value) (l c:Operand)
 | slc (zF:Nat) (x:Operand) (lo hi mx:Option Operand)
 | zkW (x:Operand) (lo hi:Option Operand)
 | len (x:Operand)
 | zhF (x:Operand)
 | append (zF bytes:Nat) (x y:Operand)
 | clr (u:Value) (x:Operand)
 | mx (big:Bool) (x y:Operand)
 | call (f:FuncId) (args:List Operand)
 | vI (x:Operand) (args:List Operand)
 | zxl (t:TypeId) (x:Operand)
 | conv (k:IntKind) (x:Operand)
 | zwJ (x:Operand)
 | zfR (kt:TypeId)
 | look (kt:TypeId) (z:Value) (m x:Operand)
 | zme (kt:TypeId) (m x:Operand)
 | zkm (kt:TypeId) (m x v:Operand)
structure ym where
 dst:Option Tmp
 op:POp
 guard:Option (Tmp × Bool)
 mask:Nat
def qm (d s:Nat):ym:=⟨some d,.move (.tmp s),none,0⟩
def qw (d s m:Nat):ym:=⟨some d,.move (.tmp s),none,m⟩
def q (d:Nat) (o:POp):ym:=⟨some d,o,none,0⟩
def qd (d:Nat) (o:POp) (m:Nat):ym:=⟨some d,o,none,m⟩
def qn (o:POp):ym:=⟨none,o,none,0⟩
def qk (o:POp) (m:Nat):ym:=⟨none,o,none,m⟩
inductive PC where
 | skip
 | ops (l:List ym) (draw:Bool)
 | seq (a b:PC)
 | cond (c:Operand) (a b:PC)
 | block (id:Nat) (c:PC)
 | loop (c:PC)
 | exit (id:Nat)
 | ret
 | stop (c:PC)
def PC.bare:PC→PC
 | .seq a b=>.seq a.bare b.bare
 | .cond c a b=>.cond c a.bare b.bare
 | .block id c=>.block id c.bare
 | .loop c=>.loop c.bare
 | .stop c=>c.bare
 | c=>c
abbrev Env:=List (Nat × D)
def lift:Value→D
 | .agg cs=>.agg (cs.toList.map .sc)
 | v=>.sc v
def xy (t:Nat):Env→D
 | []=>.xt
 | (k,d)::r=>match Nat.beq t k with|true=>d|false=>xy t r
def zc6 (g:Nat):List (Nat × List D)→D
 | []=>.sc (.pointer (some ⟨g,0,none⟩))
 | (k,cs)::r=>match Nat.beq g k with|true=>.xk cs|false=>zc6 g r
theorem zjB {J:yK} {F:Nat→Prop} {w:World} (h:FOK F w) (g:Nat):rep J F w (zc6 g Xi) (.pointer (some ⟨g,0,none⟩)):=by
 have key:∀l:List (Nat × List D),(∀x∈l,x∈Xi)→rep J F w (zc6 g l) (.pointer (some ⟨g,0,none⟩)):=λl=>by
  induction l with
  | nil=>intro _;simp only[zc6,rep]
  | cons x r ih =>
   intro hl
   obtain⟨k,cs⟩:=x
   simp only[zc6]
   cases e:Nat.beq g k with
   | true =>
    have:=Nat.eq_of_beq_eq_true e
    subst this
    exact h.rep J (hl _ (by simp))
   | false=>exact ih λy hy=>hl y (by simp[hy])
 exact key _ λ_ h=>h
def y0 (env:Env):Operand→D
 | .tmp t=>xy t env
 | .const v=>lift v
 | .global g=>zc6 g Xi
 | .func f=>.fn (.func f) [] []
def Vd (t:Nat) (K:D→Prop):Env→Prop
 | []=>K .xt
 | (k,d)::r=>match Nat.beq t k with|true=>K d|false=>Vd t K r
def scK:List Value→(List D→Prop)→Prop
 | [],K=>K []
 | v::r,K=>scK r λcs=>K (.sc v::cs)
def Zg (env:Env) (x:Operand) (K:D→Prop):Prop :=
 match x with
 | .tmp t=>Vd t K env
 | .const v=>match v with
  | .agg cs=>scK cs.toList λl=>K (.agg l)
  | v=>K (.sc v)
 | .global g=>K (zc6 g Xi)
 | .func f=>K (.fn (.func f) [] [])
def zlG (env:Env):List Operand→(List D→Prop)→Prop
 | [],K=>K []
 | x::r,K=>Zg env x λd=>zlG env r λds=>K (d::ds)
def atK:List D→Nat→(D→Prop)→Prop
 | [],_,_=>False
 | c::_,0,K=>K c
 | _::r,n+1,K=>atK r n K
def V8:List D→Nat→(List D→Prop)→Prop
 | _,0,K=>K []
 | [],_+1,_=>False
 | c::r,n+1,K=>V8 r n λcs=>K (c::cs)
def Ws:List D→Nat→(List D→Prop)→Prop
 | cs,0,K=>K cs
 | [],_+1,_=>False
 | _::r,n+1,K=>Ws r n K
def Qi:D→Bool
 | .agg _|.yI _|.xt=>false
 | .sc (.agg _)|.sc (.tuple _)=>false
 | _=>true
def za3:List D→Bool
 | []=>true
 | c::r=>match Qi c with|true=>za3 r|false=>false
def zay (d:D) (K:List D→Prop):Prop :=
 match d with
 | .agg cs=>match za3 cs with|true=>K cs|false=>False
 | d=>match Qi d with|true=>K [d]|false=>False
def zaZ:List D→Nat→List D→(List D→Prop)→Prop
 | r,0,[],K=>K r
 | _::r,0,c::cs,K=>zaZ r 0 cs λr'=>K (c::r')
 | [],0,_::_,_=>False
 | [],_+1,_,_=>False
 | x::r,n+1,cs,K=>zaZ r n cs λr'=>K (x::r')
def XA:List zf→Nat→zf→(List zf→Prop)→Prop
 | [],_,_,_=>False
 | _::r,0,o,K=>K (o::r)
 | x::r,n+1,o,K=>XA r n o λr'=>K (x::r')
def Ys:List zf→zf→(List zf→Nat→Prop)→Prop
 | [],o,K=>K [o] 0
 | x::r,o,K=>Ys r o λr' n=>K (x::r') (n+1)
def vk:List zf→Nat→(zf→Prop)→Prop
 | [],_,_=>False
 | o::_,0,K=>K o
 | _::r,n+1,K=>vk r n K
def ifK (c:Bool) (A B:Prop):Prop:=match c with
 | true=>A
 | false=>B
theorem zoM {c:Bool} {A B:Prop} (h:c=true→A) (k:c=false→B):ifK c A B:=by
 cases c
 ·exact k rfl
 ·exact h rfl
def YD (a b:Nat) (A:Prop):Prop:=match Nat.beq a b with
 | true=>A
 | false=>False
abbrev QH:=D→List zf→List Nat→List Nat→Prop
def InR (k:IntKind) (z:Int):Prop:=k.wrap z=z
def VL (k:IntKind) (z:Int) (K:D→Prop):Prop:=(InR k z∧K (.sc (.int k z)))∨∀u,u=k.wrap z→K (.sc (.int k u))
def vj (op:BinOp) (k:IntKind) (x y:Int):Int :=
 let a:=BitVec.ofInt k.bits x
 let b:=BitVec.ofInt k.bits y
 match op with
 | .and=>k.wrap (a &&& b).toNat
 | .or=>k.wrap (a ||| b).toNat
 | .xor=>k.wrap (a ^^^ b).toNat
 | _=>k.wrap (a &&& ~~~b).toNat
def zax:IntKind→Nat
 | .i8=>0|.i16=>1|.i32=>2|.i64=>3|.u8=>4|.u16=>5|.u32=>6|.u64=>7
def zxz (op:BinOp) (x y:D) (K:D→Prop):Prop :=
 match x,y with
 | .sc (.int k a),.sc (.int k' b) =>
  match op with
  | .shl=>0≤b∧VL k (a*2^min b.toNat k.bits) K
  | .shr=>0≤b∧K (.sc (.int k (a.fdiv (2^min b.toNat k.bits))))
  | op=>match Nat.beq (zax k) (zax k') with
   | false=>False
   | true =>
    match op with
    | .add=>VL k (a+b) K
    | .sub=>VL k (a-b) K
    | .mul=>VL k (a*b) K
    | .quo=>b≠0∧VL k (a.tdiv b) K
    | .rem=>b≠0∧K (.sc (.int k (a.tmod b)))
    | .eql=>K (.sc (.bool (a==b)))
    | .neq=>K (.sc (.bool (a != b)))
    | .lss=>K (.sc (.bool (decide (a<b))))
    | .leq=>K (.sc (.bool (decide (a≤b))))
    | .gtr=>K (.sc (.bool (decide (a>b))))
    | .geq=>K (.sc (.bool (decide (a≥b))))
    | .and=>K (.sc (.int k (vj .and k a b)))
    | .or=>K (.sc (.int k (vj .or k a b)))
    | .xor=>K (.sc (.int k (vj .xor k a b)))
    | .andNot=>K (.sc (.int k (vj .andNot k a b)))
    | _=>False
 | .sc (.string a),.sc (.string b) =>
  match op with
  | .add=>(((a.size+b.size:Nat):Int)≤9223372036854775807)∧K (.sc (.string (a++b)))
  | .eql=>K (.sc (.bool (a.toList==b.toList)))
  | .neq=>K (.sc (.bool (!(a.toList==b.toList))))
  | .lss=>K (.sc (.bool (Op.bytesLess a.toList b.toList)))
  | .leq=>K (.sc (.bool (Op.bytesLess a.toList b.toList||a.toList==b.toList)))
  | .gtr=>K (.sc (.bool (!(Op.bytesLess a.toList b.toList||a.toList==b.toList))))
  | .geq=>K (.sc (.bool (!Op.bytesLess a.toList b.toList)))
  | _=>False
 | _,_=>False
def eqbK (neq:Bool) (x y:D) (K:D→Prop):Prop :=
 match x,y with
 | .sc (.bool a),.sc (.bool b)=>match neq with
  | false=>K (.sc (.bool (a==b)))
  | true=>K (.sc (.bool (!(a==b))))
 | _,_=>False
def JK (neq b:Bool):Bool:=match neq with
 | true=>!b
 | false=>b
def zlP (c:Nat) (x y:D) (K:Bool→Prop):Prop :=
 match c,x,y with
 | 0,.sc (.int k a),.sc (.int k' b)=>YD (zax k) (zax k') (K (a==b))
 | 1,.sc (.bool a),.sc (.bool b)=>K (a==b)
 | 2,.sc (.string a),.sc (.string b)=>K (a.toList==b.toList)
 | _,_,_=>False
def zjh:List Nat→List D→List D→(Bool→Prop)→Prop
 | [],[],[],K=>K true
 | c::cs,x::xs,y::ys,K=>zlP c x y λr=>zjh cs xs ys λq=>K (r&&q)
 | _,_,_,_=>False
def zwB (neq:Bool) (ks:List Nat) (x y:D) (K:D→Prop):Prop :=
 match x,y with
 | .agg xs,.agg ys=>zjh ks xs ys λb=>K (.sc (.bool (JK neq b)))
 | _,_=>False
def zen (seq:Bool) (kind:Nat) (neq:Bool) (x:D) (K:D→Prop):Prop :=
 match kind with
 | 0=>match x with
  | .sc (.pointer none)=>K (.sc (.bool (!neq)))
  | .loc ..|.xk ..|.elt ..=>K (.sc (.bool neq))
  | _=>False
 | 1=>match x with
  | .sc .nilIface=>K (.sc (.bool (!neq)))
  | .ifc ..=>K (.sc (.bool neq))
  | _=>False
 | 2=>match x with
  | .sc .nilFunc=>K (.sc (.bool (!neq)))
  | .fn ..=>K (.sc (.bool neq))
  | _=>False
 | 3=>match x with
  | .sc (.slice none 0 0)=>K (.sc (.bool (!neq)))
  | .xj _ xs=>seq=true∧∀b:Bool,(b=true→xs=[])→K (.sc (.bool (JK neq b)))
  | _=>False
 | _=>False
def unK (op:UnOp) (x:D) (K:D→Prop):Prop :=
 match op,x with
 | .not,.sc (.bool b)=>K (.sc (.bool (!b)))
 | .neg,.sc (.int k n)=>VL k (0-n) K
 | _,_=>False
def zed (env:Env) (x:Option Operand) (dflt:Nat) (K:Nat→Prop):Prop :=
 match x with
 | none=>K dflt
 | some x=>Zg env x λd=>match d with
  | .sc (.int _ i)=>0≤i∧K i.toNat
  | _=>False
def zhv (env:Env):List (Nat × Nat × Operand)→List D→(List D→Prop)→Prop
 | [],cs,K=>K cs
 | (off,n,x)::r,cs,K=>Zg env x λd=>zay d λxs=>YD n xs.length (zaZ cs off xs λcs'=>zhv env r cs' K)
def zmg (env:Env) (zF:Nat):List Operand→(List (List D)→Prop)→Prop
 | [],K=>K []
 | x::r,K=>Zg env x λd=>zay d λxs=>YD zF xs.length (zmg env zF r λrows=>K (xs::rows))
def zet (P : Program) (f : FuncId) : Prop := ∃ fn, P.funcs[f]? = some fn ∧ (fn.name == "runtime.NumGoroutine") = false ∧ fn.body.isNone = false
structure yB (P:Program) (f:FuncId) (args:List D) (H:List zf) (d:D) (H2:List zf):Prop where
 ok:zet P f
 len:H.length≤H2.length
 run:∀(J:yK) (F:Nat→Prop) (w:World) (vs:List Value),yL J F w (λi=>H[i]?)→(∀id,J id≠none→id<H.length)→zY J F w args vs →
  Calls P f vs.toArray w λe w'=>∃v J' F',e=.returned v∧yL J' F' w' (λi=>H2[i]?)∧(∀id,J' id≠none→id<H2.length)∧rep J' F' w' d v∧Ext J F w J' F' w'
structure Zk (P:Program) (f:FuncId) (args:List D) (H:List zf) (d:D) (H2:List zf) (L:List Nat):Prop where
 ok:zet P f
 len:H.length≤H2.length
 frame:∀id,id ∉ L→H2[id]? = H[id]?
 lt:∀id∈L,id<H2.length
 run:∀(J:yK) (F:Nat→Prop) (w:World) (vs:List Value) (G:Nat→Option zf),yL J F w G→(∀id∈L,G id=H[id]?)→(∀id∈L,H.length≤id→J id=none)→zY J F w args vs →
  Calls P f vs.toArray w λe w'=>∃v J' F',e=.returned v∧yL J' F' w' (λid=>if id∈L then H2[id]? else G id)∧(∀id,J' id≠none→J id≠none∨id∈L)∧rep J' F' w' d v∧Ext J F w J' F' w'
structure zge (P:Program) (f:FuncId) (args:List D) (H:List zf) (d:D) (L:List Nat):Prop where
 ok:zet P f
 run:∀(J:yK) (F:Nat→Prop) (w:World) (vs:List Value) (G:Nat→Option zf),yL J F w G→(∀id∈L,G id=H[id]?)→zY J F w args vs →
  Calls P f vs.toArray w λe w'=>∃v J' F',e=.returned v∧yL J' F' w' G∧(∀id,J' id≠none→J id≠none)∧rep J' F' w' d v∧Ext J F w J' F' w'
def vt:yK:=λ_=>none
structure zu (P:Program) (f:FuncId) (args:List D) (d:D):Prop where
 ok:zet P f
 run:∀(J:yK) (F:Nat→Prop) (w:World) (vs:List Value),FOK F w→zY J F w args vs →
  Calls P f vs.toArray w λe w'=>∃v F',e=.returned v∧(∀b,F' b→b<w'.heap.size)∧rep vt F' w' d v∧Ext vt F w vt F' w'
mutual
inductive Deep (H:List zf):D→D→Prop
 | refl (d:D):Deep H d d
 | xt (d:D):Deep H d .xt
 | none (zF:Nat):Deep H (.sc (.slice none 0 0)) (.xj zF [])
 | loc (id off:Nat) (m:Bool) (cs ds:List D) (h:H[id]? = some (.row m cs)) (k:vJ H (cs.drop off) ds):Deep H (.loc id off) (.xk ds)
 | own (id zW lo hi zF:Nat) (m:Bool) (xs ys:List (List D)) (h:H[id]? = some (.vec m zW zF xs)) (k:uz H ((xs.take hi).drop lo) ys):Deep H (.own id zW lo hi) (.xj zF ys)
 | fn (f:Fn) (a b c e:List D) (h:vJ H a b) (k:vJ H c e):Deep H (.fn f a c) (.fn f b e)
 | ifc (t:TypeId) (d e:D) (h:Deep H d e):Deep H (.ifc t d) (.ifc t e)
 | agg (a b:List D) (h:vJ H a b):Deep H (.agg a) (.agg b)
 | yI (a b:List D) (h:vJ H a b):Deep H (.yI a) (.yI b)
inductive vJ (H:List zf):List D→List D→Prop
 | nil:vJ H [] []
 | cons (d e:D) (a b:List D) (h:Deep H d e) (k:vJ H a b):vJ H (d::a) (e::b)
inductive uz (H:List zf):List (List D)→List (List D)→Prop
 | nil:uz H [] []
 | cons (x y:List D) (a b:List (List D)) (h:vJ H x y) (k:uz H a b):uz H (x::a) (y::b)
end
def isScalar:D→Bool
 | .sc _=>true
 | _=>false
def ZJ:List D→Bool
 | []=>true
 | d::r=>match isScalar d with|true=>ZJ r|false=>false
def zie:D→Bool
 | .sc _=>true
 | .yI ds|.agg ds=>ZJ ds
 | _=>false
mutual
def zp (m:Nat):D→Prop
 | .xt|.sc _|.gv _=>True
 | .loc id _|.elt id _ _ _|.own id _ _ _|.mp id=>id<m
 | .xk cs|.agg cs|.yI cs=>zl m cs
 | .xj _ xs=>zD m xs
 | .fn _ a b=>zl m a∧zl m b
 | .ifc _ d=>zp m d
def zl (m:Nat):List D→Prop
 | []=>True
 | d::r=>zp m d∧zl m r
def zD (m:Nat):List (List D)→Prop
 | []=>True
 | d::r=>zl m d∧zD m r
end
def zf.under (m:Nat):zf→Prop
 | .row _ cs=>zl m cs
 | .vec _ _ _ xs=>zD m xs
 | .xL _ _=>True
def wq (m:Nat):List zf→Prop
 | []=>True
 | o::r=>o.under m∧wq m r
def zhh:Nat→List Nat
 | 0=>[]
 | n+1=>n::zhh n
def zf.frozen:zf→zf
 | .row _ cs=>.row false cs
 | .vec _ v e xs=>.vec false v e xs
 | .xL _ I=>.xL false I
def W3:List zf→List zf
 | []=>[]
 | o::r=>o.frozen::W3 r
def zqx (P:Program) (seq:Bool) (f:FuncId) (args:List D) (H:List zf) (K:QH):Prop :=
 (∃d,zu P f args d∧K d H [] [])∨(∃args' d,vJ H args args'∧zu P f args' d∧zie d=true∧K d H (List.range H.length) []) ∨
  (seq=true∧∃d H2,yB P f args H d H2∧K d H2 [] []) ∨
  (∃d H2,zl H.length args∧wq H.length H∧yB P f args H d H2∧K d H2 (zhh H2.length) (zhh H2.length)) ∨
  (∃d H2 L,Zk P f args H d H2 L∧K d H2 L L) ∨
  (seq=true∧∃args' d,vJ H args args'∧zu P f args' d∧K d (W3 H) [] []) ∨
  (∃d L,zge P f args H d L∧K d H L [])
def y5 (k:Nat) (bytes:Nat) (m:Nat):Prop:=(k+m)*bytes≤140737488355328
def zr2 (H:List zf) (zF:Nat) (dy:D) (K:List (List D)→List Nat→Prop):Prop :=
 match dy with
 | .xj esz' ys=>YD zF esz' (K ys [])
 | .own id zW lo hi=>vk H id λo=>match o with
  | .vec _ ver' esz' zs=>zW=ver'∧YD zF esz' (K ((zs.take hi).drop lo) [id])
  | _=>False
 | .sc (.slice none 0 0)=>K [] []
 | _=>False
def uA (P:Program) (kt:TypeId) (f:Value→Option Value):Array MapEntry→Prop:=λes =>
 (∀e∈es.toList,∃l,keyOf P kt e.key=some l)∧(∀e∈es.toList,f e.key=some e.val)∧∀key v,f key=some v→∃e∈es.toList,e.key=key
noncomputable def QZ (f:Value→Option Value) (key v:Value):Value→Option Value:=λk=>open Classical in if k=key then some v else f k
def scV:D→Value
 | .sc v=>v
 | _=>undef
def zpx (d:D) (K:Value→Prop):Prop:=match d with
 | .sc v=>K v
 | .agg cs=>ZJ cs=true∧K (.agg (cs.map scV).toArray)
 | _=>False
def step (P:Program) (seq:Bool) (p:POp) (env:Env) (H:List zf) (K:QH):Prop :=
 match p with
 | .move x=>Zg env x λd=>K d H [] []
 | .pick c a b=>Zg env c λdc=>match dc with
  | .sc (.bool t)=>ifK t (Zg env a λd=>K d H [] []) (Zg env b λd=>K d H [] [])
  | _=>False
 | .alloc z=>scK z λcs=>Ys H (.row true cs) λH' id=>K (.loc id 0) H' [] [id]
 | .box x=>Zg env x λd=>zay d λcs=>Ys H (.row true cs) λH' id=>K (.loc id 0) H' [] [id]
 | .build z parts=>scK z λzs=>zhv env parts zs λcs=>K (.agg cs) H [] []
 | .wh zF n parts=>zmg env zF parts λrows=>YD n rows.length (Ys H (.vec true 0 zF rows) λH' id=>K (.own id 0 0 n) H' [] [id])
 | .zi a=>Zg env a λd=>match d with
  | .loc id off=>vk H id λo=>match o with
   | .row _ cs=>atK cs off λc=>K c H [id] []
   | _=>False
  | .xk cs=>atK cs 0 λc=>K c H [] []
  | .elt id zW i off=>vk H id λo=>match o with
   | .vec _ ver' _ xs=>zW=ver'∧∃row,xs[i]? = some row∧atK row off λc=>K c H [id] []
   | _=>False
  | _=>False
 | .v7 n a=>Zg env a λd=>match d with
  | .loc id off=>vk H id λo=>match o with
   | .row _ cs=>Ws cs off λr=>V8 r n λc=>K (.agg c) H [id] []
   | _=>False
  | .xk cs=>V8 cs n λc=>K (.agg c) H [] []
  | .elt id zW i off=>vk H id λo=>match o with
   | .vec _ ver' _ xs=>zW=ver'∧∃row,xs[i]? = some row∧Ws row off λr=>V8 r n λc=>K (.agg c) H [id] []
   | _=>False
  | _=>False
 | .store n a x=>Zg env a λd=>Zg env x λdx=>zay dx λxs=>YD n xs.length (match d with
  | .loc id off=>vk H id λo=>match o with
   | .row true cs=>zaZ cs off xs λcs'=>XA H id (.row true cs') λH'=>K (.sc undef) H' [] [id]
   | _=>False
  | .elt id zW i off=>vk H id λo=>match o with
   | .vec true ver' zF ys=>zW=ver'∧∃row,ys[i]? = some row∧zaZ row off xs λrow'=>XA H id (.vec true ver' zF (ys.set i row')) λH'=>K (.sc undef) H' [] [id]
   | _=>False
  | _=>False)
 | .zm x=>Zg env x λd=>match d with
  | .loc ..|.xk ..|.elt ..|.fn (.func _) ..=>K d H [] []
  | _=>False
 | .bin op x y=>Zg env x λdx=>Zg env y λdy=>zxz op dx dy λd=>K d H [] []
 | .eqb neq x y=>Zg env x λdx=>Zg env y λdy=>eqbK neq dx dy λd=>K d H [] []
 | .eqa neq ks x y=>Zg env x λdx=>Zg env y λdy=>zwB neq ks dx dy λd=>K d H [] []
 | .zjZ kind neq x=>Zg env x λdx=>zen seq kind neq dx λd=>K d H [] []
 | .un op x=>Zg env x λdx=>unK op dx λd=>K d H [] []
 | .ext i x=>Zg env x λd=>match d with
  | .yI cs=>atK cs i λc=>K c H [] []
  | _=>False
 | .zv off x=>Zg env x λd=>match d with
  | .loc id o=>K (.loc id (o+off)) H [] []
  | .elt id zW i o=>K (.elt id zW i (o+off)) H [] []
  | .xk cs=>Ws cs off λr=>K (.xk r) H [] []
  | _=>False
 | .field off n agg x=>Zg env x λd=>match d with
  | .agg cs=>match agg with
   | true=>Ws cs off λr=>V8 r n λc=>K (.agg c) H [] []
   | false=>atK cs off λc=>K c H [] []
  | _=>False
 | .zM zF x i=>Zg env x λdx=>Zg env i λdi=>match di with
  | .sc (.int _ z)=>match dx with
   | .xj esz' xs=>YD zF esz' (0≤z∧∃row,xs[z.toNat]? = some row∧K (.xk row) H [] [])
   | .own id zW lo hi=>vk H id λo=>match o with
    | .vec _ ver' esz' _=>zW=ver'∧YD zF esz' (0≤z∧z<(hi-lo:Nat)∧K (.elt id zW (lo+z.toNat) 0) H [id] [])
    | _=>False
   | _=>False
  | _=>False
 | .zlX len zF x i=>Zg env x λdx=>Zg env i λdi=>match di with
  | .sc (.int _ z)=>0≤z∧z<(len:Nat)∧match dx with
   | .loc id o=>K (.loc id (o+z.toNat * zF)) H [] []
   | .elt id zW i o=>K (.elt id zW i (o+z.toNat * zF)) H [] []
   | .xk cs=>Ws cs (z.toNat * zF) λr=>K (.xk r) H [] []
   | _=>False
  | _=>False
 | .ztx len zF agg x i=>Zg env x λdx=>Zg env i λdi=>match di with
  | .sc (.int _ z)=>match dx with
   | .agg cs=>0≤z∧z<(len:Nat)∧match agg with
    | true=>Ws cs (z.toNat * zF) λr=>V8 r zF λc=>K (.agg c) H [] []
    | false=>∃c,cs[z.toNat * zF]? = some c∧K c H [] []
   | _=>False
  | _=>False
 | .zqf x i=>Zg env x λdx=>Zg env i λdi=>match dx,di with
  | .sc (.string s),.sc (.int _ z)=>0≤z∧∃b,s[z.toNat]? = some b∧K (.sc (.int .u8 b.toNat)) H [] []
  | _,_=>False
 | .ZP f first cap=>zlG env first λds=>zlG env cap λcs=>K (.fn f ds cs) H [] []
 | .x5 zF bytes z l c=>Zg env l λdl=>Zg env c λdc=>match dl,dc with
  | .sc (.int .i64 nl),.sc (.int .i64 nc)=>0≤nl∧nl≤nc∧nc*bytes≤140737488355328 ∧
   Ys H (.vec true 0 zF (List.replicate nl.toNat (z.map .sc))) λH' id=>K (.own id 0 0 nl.toNat) H' [] [id]
  | _,_=>False
 | .slc zF x lo hi mx=>Zg env x λdx=>match dx,mx with
  | .xj esz' xs,none=>YD zF esz' (zed env hi xs.length λh=>zed env lo 0 λl=>l≤h∧h≤xs.length∧K (.xj esz' ((xs.take h).drop l)) H [] [])
  | .xj esz' xs,some m=>match hi with
   | none=>False
   | some hi'=>YD zF esz' (zed env (some hi') 0 λh=>zed env lo 0 λl=>zed env (some m) 0 λmm=>l≤h∧h≤mm∧mm≤xs.length∧K (.xj esz' ((xs.take h).drop l)) H [] [])
  | .own id zW a b,none=>vk H id λo=>match o with
   | .vec _ ver' esz' _=>zW=ver'∧YD zF esz' (zed env hi (b-a) λh=>zed env lo 0 λl=>l≤h∧h≤b-a∧K (.own id zW (a+l) (a+h)) H [id] [])
   | _=>False
  | _,_=>False
 | .zkW x lo hi=>Zg env x λdx=>match dx with
  | .sc (.string s)=>zed env hi s.size λh=>zed env lo 0 λl=>l≤h∧h≤s.size∧K (.sc (.string (s.extract l h))) H [] []
  | _=>False
 | .len x=>Zg env x λdx=>match dx with
  | .xj _ xs=>K (.sc (.int .i64 xs.length)) H [] []
  | .own id zW lo hi=>vk H id λo=>match o with
   | .vec _ ver' _ _=>zW=ver'∧K (.sc (.int .i64 (hi-lo:Nat))) H [id] []
   | _=>False
  | .sc (.slice none 0 0)=>K (.sc (.int .i64 0)) H [] []
  | _=>False
 | .zhF x=>Zg env x λdx=>match dx with
  | .sc (.string s)=>K (.sc (.int .i64 s.size)) H [] []
  | _=>False
 | .append zF bytes x y=>Zg env x λdx=>Zg env y λdy=>zr2 H zF dy λys rd =>
  match dx with
   | .sc (.slice none 0 0)=>y5 0 bytes ys.length∧Ys H (.vec true 0 zF ys) λH' id=>K (.own id 0 0 ys.length) H' rd [id]
   | .own id zW lo hi=>vk H id λo=>match o with
    | .vec true ver' esz' zs=>zW=ver'∧YD zF esz' (y5 (hi-lo) bytes ys.length ∧
     XA H id (.vec true (zW+1) zF ((zs.take hi).drop lo++ys)) λH'=>K (.own id (zW+1) 0 (hi-lo+ys.length)) H' rd [id])
    | _=>False
   | _=>False
 | .clr u x=>Zg env x λdx=>match dx with
  | .own id zW lo hi=>vk H id λo=>match o with
   | .vec true ver' zF zs=>zW=ver'∧YD zF 1 (XA H id (.vec true zW 1 (zs.take lo++List.replicate (hi-lo) [.sc u]++zs.drop hi)) λH'=>K (.yI []) H' [] [id])
   | _=>False
  | _=>False
 | .mx big x y=>Zg env x λdx=>Zg env y λdy=>match dx with
  | .sc (.int k n)=>match dy with
   | .sc (.int _ m)=>match big with
    | true=>K (.sc (.int k (max n m))) H [] []
    | false=>K (.sc (.int k (min n m))) H [] []
   | _=>False
  | _=>False
 | .call f args=>zlG env args λds=>zqx P seq f ds H K
 | .vI x args=>Zg env x λdx=>match dx with
  | .fn (.func f) first cap=>zlG env args λds=>zqx P seq f (first++ds++cap) H K
  | _=>False
 | .zxl t x=>Zg env x λd=>K (.ifc t d) H [] []
 | .conv k x=>Zg env x λd=>match d with
  | .sc (.int _ n)=>VL k n λd=>K d H [] []
  | _=>False
 | .zwJ x=>Zg env x λdx=>zr2 H 1 dx λys rd=>∃ns:List Int,ys=(ns.map λn=>[.sc (.int .u8 n)])∧K (.sc (.string (ns.foldl (λr n=>r.push (UInt8.ofNat n.toNat)) ByteArray.empty))) H rd []
 | .zfR kt=>Ys H (.xL true (uA P kt λ_=>none)) λH' id=>K (.mp id) H' [] [id]
 | .look kt z m x=>Zg env m λdm=>Zg env x λdx=>match dm with
  | .mp id=>vk H id λo=>match o with
   | .xL _ I=>zpx dx λkey=>∃f,I=uA P kt f∧Maps.Keyed P kt∧(∃l,keyOf P kt key=some l)∧(∀v,f key=some v→K (.yI [.sc v,.sc (.bool true)]) H [id] [])∧(f key=none→K (.yI [.sc z,.sc (.bool false)]) H [id] [])
   | _=>False
  | _=>False
 | .zme kt m x=>Zg env m λdm=>Zg env x λdx=>match dm with
  | .mp id=>vk H id λo=>match o with
   | .xL _ I=>zpx dx λkey=>∃f,I=uA P kt f∧Maps.Keyed P kt∧(∃l,keyOf P kt key=some l)∧∃v,f key=some v∧K (.sc v) H [id] []
   | _=>False
  | _=>False
 | .zkm kt m x v=>Zg env m λdm=>Zg env x λdx=>Zg env v λdv=>match dm with
  | .mp id=>vk H id λo=>match o with
   | .xL true I=>zpx dx λkey=>match dv with
    | .sc u=>∃f,I=uA P kt f∧Maps.Keyed P kt∧(∃l,keyOf P kt key=some l)∧f key=none∧XA H id (.xL true (uA P kt (QZ f key u))) λH'=>K (.sc undef) H' [] [id]
    | _=>False
   | _=>False
  | _=>False
def wW (P:Program):List ym→Env→List zf→(Env→List zf→Prop)→Prop
 | [],env,H,K=>K env H
 | o::r,env,H,K =>
  match o.guard with
  | none=>step P true o.op env H λd H' _ _=>match o.dst with
   | some t=>wW P r ((t,d)::env) H' K
   | none=>wW P r env H' K
  | some (t,b)=>Vd t (λg=>match g with
   | .sc (.bool c)=>match b with
    | true=>ifK c
     (step P true o.op env H λd H' _ _=>match o.dst with
      | some u=>wW P r ((u,d)::env) H' K
      | none=>wW P r env H' K)
     (match o.dst with
      | some u=>wW P r ((u,.sc undef)::env) H K
      | none=>wW P r env H K)
    | false=>ifK c
     (match o.dst with
      | some u=>wW P r ((u,.sc undef)::env) H K
      | none=>wW P r env H K)
     (step P true o.op env H λd H' _ _=>match o.dst with
      | some u=>wW P r ((u,d)::env) H' K
      | none=>wW P r env H' K)
   | .sc (.tuple _)=>match o.dst with
    | some u=>wW P r ((u,.sc undef)::env) H K
    | none=>wW P r env H K
   | _=>False) env
def WY (p:POp) (env:Env):Option (Nat × Nat):=match p with
 | .zi a=>match y0 env a with
  | .loc id k=>some (id,k)
  | _=>none
 | _=>none
abbrev Trace:=List ((List Nat × List Nat) × (Option (Nat × Nat) × D × List zf))
def WT (P:Program):List ym→Env→List zf→(Env→List zf→Trace→Prop)→Prop
 | [],env,H,K=>K env H []
 | o::r,env,H,K =>
  match o.guard with
  | none=>step P false o.op env H λd H' rd wr=>match o.dst with
   | some t=>WT P r ((t,d)::env) H' λe h tr=>K e h (((rd,wr),(WY o.op env,d,H'))::tr)
   | none=>WT P r env H' λe h tr=>K e h (((rd,wr),(WY o.op env,d,H'))::tr)
  | some (t,b)=>Vd t (λg=>match g with
   | .sc (.bool c)=>match b with
    | true=>ifK c
     (step P false o.op env H λd H' rd wr=>match o.dst with
      | some u=>WT P r ((u,d)::env) H' λe h tr=>K e h (((rd,wr),(none,d,H'))::tr)
      | none=>WT P r env H' λe h tr=>K e h (((rd,wr),(none,d,H'))::tr))
     (match o.dst with
      | some u=>WT P r ((u,.sc undef)::env) H λe h tr=>K e h ((([],[]),(none,.sc undef,H))::tr)
      | none=>WT P r env H λe h tr=>K e h ((([],[]),(none,.sc undef,H))::tr))
    | false=>ifK c
     (match o.dst with
      | some u=>WT P r ((u,.sc undef)::env) H λe h tr=>K e h ((([],[]),(none,.sc undef,H))::tr)
      | none=>WT P r env H λe h tr=>K e h ((([],[]),(none,.sc undef,H))::tr))
     (step P false o.op env H λd H' rd wr=>match o.dst with
      | some u=>WT P r ((u,d)::env) H' λe h tr=>K e h (((rd,wr),(none,d,H'))::tr)
      | none=>WT P r env H' λe h tr=>K e h (((rd,wr),(none,d,H'))::tr))
   | .sc (.tuple _)=>match o.dst with
    | some u=>WT P r ((u,.sc undef)::env) H λe h tr=>K e h ((([],[]),(none,.sc undef,H))::tr)
    | none=>WT P r env H λe h tr=>K e h ((([],[]),(none,.sc undef,H))::tr)
   | _=>False) env
def za7 (x:Nat):List Nat→Bool
 | []=>false
 | y::r=>match Nat.beq x y with|true=>true|false=>za7 x r
def meets:List Nat→List Nat→Bool
 | [],_=>false
 | x::r,l=>match za7 x l with|true=>true|false=>meets r l
def V6 (a b:List Nat × List Nat):Bool:=meets a.2 b.1||meets a.2 b.2||meets b.2 a.1
def Qc (m i:Nat):Bool:=match Nat.beq ((m/2^i)%2) 1 with|true=>true|false=>false
def UC (m:Nat) (b:List Nat × List Nat):Nat→List (List Nat × List Nat)→Bool
 | _,[]=>true
 | i,a::r=>match (Qc m i||!V6 a b) with|true=>UC m b (i+1) r|false=>false
def zf3 (pre:List (List Nat × List Nat)):List ym→Trace→Bool
 | o::r,(b,_)::tr=>match UC o.mask b 0 pre with|true=>zf3 (pre++[b]) r tr|false=>false
 | _,_=>true
def zaA (pre:List (List Nat × List Nat)):List ym→Trace→Bool
 | o::r,(b,(q,_))::tr=>match UC o.mask b 0 pre with
  | true=>match q with
   | some _=>zaA (pre++[([],b.2)]) r tr
   | none=>zaA (pre++[b]) r tr
  | false=>false
 | _,_=>true
def zvp (H:List zf) (id k:Nat) (d:D) (K:Prop):Prop:=vk H id λo=>match o with
 | .row _ cs=>atK cs k λc=>c=d∧K
 | _=>False
def zcL (m:Nat) (wr:List Nat) (H:List zf) (K:Prop):List (Nat × (Nat × Nat) × D)→Prop
 | []=>K
 | (i,(id,k),d)::r=>match (Qc m i||!za7 id wr) with
  | true=>zcL m wr H K r
  | false=>zvp H id k d (zcL m wr H K r)
def zaC (K:Prop):Nat→List (Nat × (Nat × Nat) × D)→List ym→Trace→Prop
 | i,ws,o::r,(b,(q,d,H))::tr=>zcL o.mask b.2 H (match q with
  | some l=>zaC K (i+1) (ws++[(i,l,d)]) r tr
  | none=>zaC K (i+1) ws r tr) ws
 | _,_,_,_=>K
def zch (P:Program) (l:List ym) (env:Env) (H:List zf) (K:Env→List zf→Prop):Prop:=WT P l env H λe h tr=>match zf3 [] l tr with
 | true=>K e h
 | false=>match zaA [] l tr with
  | true=>zaC (K e h) 0 [] l tr
  | false=>False
end
section
open Go.RowKit
def zwQ (P:Program) (t:TypeId):Bool:=match P.underlying t with|some (.int _)=>true|_=>false
def zwA (P:Program) (t:TypeId):Bool:=match P.underlying t with|some .string=>true|_=>false
def zce (P:Program) (t:TypeId):Bool:=match P.underlying t with|some .bool=>true|_=>false
def W8 (P:Program) (t:TypeId) (y:Operand):Option Nat :=
 match P.underlying t,y with
 | some (.pointer _),.const (.pointer none)=>some 0
 | some (.interface _),.const .nilIface=>some 1
 | some (.func _ _ _),.const .nilFunc=>some 2
 | some (.slice _),.const (.slice none 0 0)=>some 3
 | _,_=>none
def za9 (P:Program) (t:TypeId):Option Nat:=match P.underlying t with
 | some (.int _)=>some 0
 | some .bool=>some 1
 | some .string=>some 2
 | _=>none
def zdV (P:Program):Nat→List Field→Option (List Nat)
 | _,[]=>some []
 | i, f :: r => if f.name ≠ "_" ∧ f.offset = i then match za9 P f.type, zdV P (i + 1) r with
  | some c,some cs=>some (c::cs)
  | _,_=>none
  else none
def zg7 (P:Program) (t:TypeId):Option (List Nat):=match P.underlying t with
 | some (.struct fs)=>if P.stoodInHeld t=false∧P.eqGuardType P.depth t=false then zdV P 0 fs.toList else none
 | some (.array n e)=>if P.eqGuardType P.depth t=false∧P.cellsOf e=1∧(P.info? e).isSome=true then (za9 P e).map (List.replicate n ·) else none
 | _=>none
def vA (place:Nat→Option (Nat × Nat)):List (Nat × Operand)→Option (List (Nat × Nat × Operand))
 | []=>some []
 | (i,x)::r=>match place i,vA place r with
  | some (off,n),some l=>some ((off,n,x)::l)
  | _,_=>none
def YK:Nat→List (Nat × Operand)→Option (List Operand)
 | _,[]=>some []
 | k,(i,x)::r=>if i=k then (YK (k+1) r).map (x::·) else none
def xZ (z:Value):Nat→Nat→List (Nat × Operand)→Option (List Operand)
 | _,0,[]=>some []
 | _,0,_::_=>none
 | k,m+1,[]=>(xZ z (k+1) m []).map (.const z::·)
 | k,m+1,(i,x)::r=>if i=k then (xZ z (k+1) m r).map (x::·) else (xZ z (k+1) m ((i,x)::r)).map (.const z::·)
def UZ (P:Program) (t:TypeId):Option Bool:=match P.underlying t with
 | some (.struct _)|some (.array _ _)=>some true
 | some _=>some false
 | none=>none
def cop (P:Program) (o:Oper):Option POp :=
 match o.op with
 | .move x|.assign x=>some (.move x)
 | .pick c a b=>some (.pick c a b)
 | .alloc t=>match (P.info? t).bind (·.zero) with
  | some z=>if z.cells.toList.all yl then some (.alloc z.cells.toList) else none
  | none=>none
 | .box _ x=>some (.box x)
 | .build t parts=>match (P.info? t).bind (·.zero),P.underlying t with
  | some z,some (.struct fs)=>match fs.toList.mapM (λf=>(P.info? f.type).map λi=>(f.offset,i.size)) with
   | some places=>(vA (places.toArray[·]?) parts.toList).map (.build z.cells.toList)
   | none=>none
  | some z,some (.array _ e)=>match P.info? e with
   | some ie=>(vA (λi=>some (i*ie.size,ie.size)) parts.toList).map (.build z.cells.toList)
   | none=>none
  | _,_=>none
 | .buildSlice t n parts=>match P.underlying t with
  | some (.slice e)=>match (P.info? e).bind (·.zero) with
   | some z=>if n*P.cellsOf e≤16777216∧0<P.cellsOf e then match YK 0 parts.toList with
    | some xs=>some (.wh (P.cellsOf e) n xs)
    | none=>(xZ z 0 n parts.toList).map (.wh (P.cellsOf e) n)
    else none
   | none=>none
  | _=>none
 | .load t a=>match UZ P t with
  | some true=>some (.v7 (P.cellsOf t) a)
  | some false=>some (.zi a)
  | none=>none
 | .store t a v=>if P.cellsOf t=0 then none else some (.store (P.cellsOf t) a v)
 | .nilCheck x=>some (.zm x)
 | .binOp op t x y _ =>
  if zwQ P t||zwA P t then some (.bin op x y)
  else match op with
   | .eql=>if zce P t then some (.eqb false x y) else match zg7 P t with
    | some ks=>some (.eqa false ks x y)
    | none=>(W8 P t y).map (.zjZ · false x)
   | .neq=>if zce P t then some (.eqb true x y) else match zg7 P t with
    | some ks=>some (.eqa true ks x y)
    | none=>(W8 P t y).map (.zjZ · true x)
   | _=>none
 | .unOp op _ x=>some (.un op x)
 | .extract x i=>some (.ext i x)
 | .fieldAddr s x f=>match P.underlying s with
  | some (.struct fs)=>match fs[f]? with
   | some fd=>if P.cellsOf fd.type=0 then none else some (.zv fd.offset x)
   | none=>none
  | _=>none
 | .field s x f=>match P.underlying s with
  | some (.struct fs)=>match fs[f]? with
   | some fd=>match UZ P fd.type with
    | some ag=>some (.field fd.offset (P.cellsOf fd.type) ag x)
    | none=>none
   | none=>none
  | _=>none
 | .indexAddr t x i=>match P.underlying t with
  | some (.slice e)=>if P.cellsOf e=0 then none else some (.zM (P.cellsOf e) x i)
  | some (.array n e)=>if P.cellsOf e=0 then none else some (.zlX n (P.cellsOf e) x i)
  | _=>none
 | .index t x i=>match P.underlying t with
  | some .string=>some (.zqf x i)
  | some (.array n e)=>match UZ P e with
   | some ag=>some (.ztx n (P.cellsOf e) ag x i)
   | none=>none
  | _=>none
 | .makeFunc f first cap=>some (.ZP f first.toList cap.toList)
 | .makeSlice t l c=>match P.underlying t with
  | some (.slice e)=>match (P.info? e).bind (·.zero) with
   | some z=>if z.cells.size=P.cellsOf e∧0<P.cellsOf e∧0<P.bytesOf e∧z.cells.toList.all yl=true then some (.x5 (P.cellsOf e) (P.bytesOf e) z.cells.toList l c) else none
   | none=>none
  | _=>none
 | .slice t x lo hi mx=>match P.underlying t with
  | some (.slice e)=>if 0<P.cellsOf e then some (.slc (P.cellsOf e) x lo hi mx) else none
  | some .string=>match mx with
   | none=>some (.zkW x lo hi)
   | some _=>none
  | _=>none
 | .call { callee:=.builtin .len,args,argTypes }=>match args.toList,argTypes.toList with
  | [x],[t]=>match P.underlying t with
   | some (.slice _)=>some (.len x)
   | some .string=>some (.zhF x)
   | _=>none
  | _,_=>none
 | .call { callee:=.builtin .append,args,argTypes }=>match args.toList,argTypes.toList with
  | [x,y],[t,u]=>match P.underlying t,P.underlying u with
   | some (.slice e),some (.slice _)=>match (P.info? e).bind (·.zero) with
    | some z=>if z.cells.size=P.cellsOf e∧0<P.cellsOf e∧0<P.bytesOf e then some (.append (P.cellsOf e) (P.bytesOf e) x y) else none
    | none=>none
   | _,_=>none
  | _,_=>none
 | .call { callee:=.builtin .clear,args,argTypes }=>match args.toList,argTypes.toList with
  | [x],[t]=>match P.underlying t with
   | some (.slice e)=>match (P.info? e).bind (·.zero) with
    | some z=>match z.cells.toList with
     | [u]=>if P.cellsOf e=1∧yl u=true then some (.clr u x) else none
     | _=>none
    | none=>none
   | _=>none
  | _,_=>none
 | .call { callee:=.builtin .max,args,.. }=>match args.toList with
  | [x,y]=>some (.mx true x y)
  | _=>none
 | .call { callee:=.builtin .min,args,.. }=>match args.toList with
  | [x,y]=>some (.mx false x y)
  | _=>none
 | .call { callee:=.value (.func f),args,.. }=>match P.funcs[f]? with
  | some fn => if fn.name == "runtime.NumGoroutine" || fn.body.isNone then none else some (.call f args.toList)
  | none=>none
 | .call { callee:=.value x,args,.. }=>some (.vI x args.toList)
 | .convert src dst x=>match P.underlying src,P.underlying dst with
  | some (.int _),some (.int k)=>some (.conv k x)
  | some (.slice e),some .string=>match P.underlying e with
   | some (.int .u8)=>some (.zwJ x)
   | _=>none
  | _,_=>none
 | .makeMap t none=>match P.underlying t with
  | some (.map k _)=>some (.zfR k)
  | _=>none
 | .lookup t m x true=>match P.underlying t with
  | some (.map k e)=>match (P.info? e).bind (·.zero) with
   | some z=>if yl z=true then some (.look k z m x) else none
   | none=>none
  | _=>none
 | .lookup t m x false=>match P.underlying t with
  | some (.map k _)=>some (.zme k m x)
  | _=>none
 | .mapUpdate t m x v=>match P.underlying t with
  | some (.map k _)=>some (.zkm k m x v)
  | _=>none
 | .makeInterface t x=>match P.underlying t with
  | some (.interface _)=>none
  | some _=>some (.zxl t x)
  | none=>none
 | _=>none
def zrF (n:Nat) (o:Oper):Bool:=match o.dst with
 | some d=>decide (d<n)
 | none=>true
def vV (o:Oper):List Nat:=(o.after.toList.filter (Region.binds .any)).map (·.on)
def V0 (ms:List Nat):List Nat→Nat
 | []=>0
 | i::r=>2^i ||| ms.getD i 0 ||| V0 ms r
def uH:List Nat→List Oper→List Nat
 | acc,[]=>acc
 | acc,o::r=>uH (acc++[V0 acc (vV o)]) r
def UM (ops:Array Oper) (m:Nat) (o:Oper):Nat→List Oper→Bool
 | _,[]=>true
 | i,x::r=>(m.testBit i||x.apart ops o)&&UM ops m o (i+1) r
def zdX (ops:Array Oper) (ms:List Nat):List Oper→List Oper→Bool
 | _,[]=>true
 | pre,o::r=>(vV o).all (·<pre.length)&&UM ops (ms.getD pre.length 0) o 0 pre&&zdX ops ms (pre++[o]) r
def zrh (P:Program) (n:Nat) (ops:Array Oper) (mask:Nat) (o:Oper):Option ym :=
 match zrF n o,cop P o,o.guard with
 | true,some p,none=>some ⟨o.dst,p,none,mask⟩
 | true,some p,some (j,b)=>match (ops[j]?).bind (·.dst) with
  | some t=>some ⟨o.dst,p,some (t,b),mask⟩
  | none=>none
 | _,_,_=>none
def qt (P:Program) (n:Nat) (ops:Array Oper):List Nat→List Oper→Option (List ym)
 | _,[]=>some []
 | ms,o::r=>match zrh P n ops (ms.headD 0) o,qt P n ops ms.tail r with
  | some p,some l=>some (p::l)
  | _,_=>none
def Jj (P:Program) (n:Nat) (ops:Array Oper) (draw:Bool):Option (List ym) :=
 match draw with
 | false=>qt P n ops [] ops.toList
 | true=>match P.follows .mixedOrders&&zdX ops (uH [] ops.toList) [] ops.toList with
  | true=>qt P n ops (uH [] ops.toList) ops.toList
  | false=>none
def comp (P:Program) (n:Nat):Code→Option PC
 | .skip=>some .skip
 | .region _ ops draw=>(Jj P n ops draw).map (.ops · draw)
 | .seq a b=>match comp P n a,comp P n b with
  | some x,some y=>some (.seq x y)
  | _,_=>none
 | .cond c a b=>match comp P n a,comp P n b with
  | some x,some y=>some (.cond c x y)
  | _,_=>none
 | .block id c=>(comp P n c).map (.block id)
 | .loop c=>(comp P n c).map .loop
 | .exit id=>some (.exit id)
 | .ret=>some .ret
 | _=>none
structure wD (n:Nat) (J:yK) (F:Nat→Prop) (env:Env) (H:List zf) (a:Act) (w:World):Prop where
 defers:a.defers=[]
 size:a.tmps.size=n
 tmps:∀t,rep J F w (xy t env) (a.tmps.getD t undef)
 ok:yL J F w (λi=>H[i]?)
 dom:∀id,J id≠none→id<H.length
abbrev qj:=Exit→Env→List zf→Prop
@[irreducible] def PWp (P:Program) (n:Nat) (p:PC) (Q:qj) (env:Env) (H:List zf):Prop :=
 ∀c,comp P n c=some p.bare→∀(J:yK) (F:Nat→Prop) (a:Act) (w:World),wD n J F env H a w →
  c.wp P (λe a' w'=>∃env' H' J' F',Q e env' H'∧wD n J' F' env' H' a' w'∧Ext J F w J' F' w') a w
def pw (P:Program) (n:Nat):PC→qj→Env→List zf→Prop
 | .skip,Q,env,H=>Q .normal env H
 | .ops l d,Q,env,H=>match d with
  | false=>wW P l env H λenv H=>Q .normal env H
  | true=>zch P l env H λenv H=>Q .normal env H
 | .seq a b,Q,env,H=>pw P n a (λe env H=>match e with
  | .normal=>pw P n b Q env H
  | e=>Q e env H) env H
 | .cond c a b,Q,env,H=>Zg env c λd=>match d with
  | .sc (.bool t)=>ifK t (pw P n a Q env H) (pw P n b Q env H)
  | _=>False
 | .block id c,Q,env,H=>pw P n c (λe env H=>match e with
  | .exit id'=>match Nat.beq id' id with
   | true=>Q .normal env H
   | false=>Q (.exit id') env H
  | e=>Q e env H) env H
 | .loop c,Q,env,H=>PWp P n (.loop c) Q env H
 | .exit id,Q,env,H=>Q (.exit id) env H
 | .ret,Q,env,H=>Q .ret env H
 | .stop c,Q,env,H=>PWp P n c Q env H
def St.le (n:Nat) (env:Env) (H:List zf) (env':Env) (H':List zf):Prop:=∀J F a w,wD n J F env H a w→∃J' F',wD n J' F' env' H' a w∧Ext J F w J' F' w
def Vh (env:Env):Env→Prop
 | []=>True
 | (t,d)::r=>xy t env=d∧Vh env r
def zz6 {ι:Type} (n:Nat) (Q:qj) (E:ι→Env) (O:ι→List zf) (G:ι→Prop) (m:ι→Nat) (k:Nat):qj
 | .normal,env,H=>∃j,G j∧m j<k∧St.le n env H (E j) (O j)
 | e,env,H=>Q e env H
inductive RV where
 | tmp (t:Nat)
 | agg (t n:Nat)
 | one (t:Nat)
def crv (P:Program):ResultVar→Option RV
 | .tmp t=>some (.tmp t)
 | .cell t ty=>match UZ P ty with
  | some true=>some (.agg t (P.cellsOf ty))
  | some false=>some (.one t)
  | none=>none
def zk8 (P:Program):List ResultVar→Option (List RV)
 | []=>some []
 | r::l=>match crv P r,zk8 P l with
  | some x,some y=>some (x::y)
  | _,_=>none
structure zz (P:Program) (f:FuncId) (n:Nat) (rs:List RV) (p:PC):Prop where
 out : ∃ fn, P.funcs[f]? = some fn ∧ fn.ntmps = n ∧ (fn.name == "runtime.NumGoroutine") = false ∧ zk8 P fn.results.toList = some rs ∧ fn.body.bind (comp P n) = some p.bare
def uQ (env:Env) (H:List zf):List RV→(List D→Prop)→Prop
 | [],K=>K []
 | .tmp t::r,K=>Vd t (λd=>uQ env H r λds=>K (d::ds)) env
 | .agg t n::r,K=>Vd t (λd=>match d with
  | .loc id off=>vk H id λo=>match o with
   | .row _ cs=>Ws cs off λcs'=>V8 cs' n λc=>uQ env H r λds=>K (.agg c::ds)
   | _=>False
  | _=>False) env
 | .one t::r,K=>Vd t (λd=>match d with
  | .loc id off=>vk H id λo=>match o with
   | .row _ cs=>atK cs off λc=>uQ env H r λds=>K (c::ds)
   | _=>False
  | _=>False) env
def zus (rs:List RV) (R:D→List zf→Prop):qj
 | .normal,env,H|.ret,env,H=>uQ env H rs λds=>match ds with
  | [d]=>R d H
  | ds=>R (.yI ds) H
 | _,_,_=>False
def params:Nat→List D→Env
 | _,[]=>[]
 | k,d::r=>(k,d)::params (k+1) r
mutual
def Pure:D→Prop
 | .xt|.sc _|.gv _=>True
 | .loc ..|.elt ..|.own ..|.mp ..=>False
 | .xk cs|.agg cs|.yI cs=>ze cs
 | .xj _ xs=>yv xs
 | .fn _ a b=>ze a∧ze b
 | .ifc _ d=>Pure d
def ze:List D→Prop
 | []=>True
 | d::r=>Pure d∧ze r
def yv:List (List D)→Prop
 | []=>True
 | d::r=>ze d∧yv r
end
end
section
open Go.RowKit
def Q1 (G:Nat→Option zf) (wr:List Nat) (H2:List zf):Nat→Option zf:=λid=>if id∈wr then H2[id]? else G id
theorem W1 (G:Nat→Option zf) (H2:List zf):Q1 G [] H2=G:=by funext id;simp[Q1]
structure OpS (P:Program) (o:Oper) (env:Env) (rd wr:List Nat) (H:List zf) (d:D) (H2:List zf):Prop where
 frame:∀id,id ∉ wr→H2[id]? = H[id]?
 len:H.length≤H2.length
 lt:∀id∈wr,id<H2.length
 run:∀(J:yK) (F:Nat→Prop) (w:World) (a:Act) (G:Nat→Option zf),yL J F w G→(∀x∈o.op.operands,rep J F w (y0 env x) (a.eval x)) →
  (∀id,id∈rd∨id∈wr→G id=H[id]?)→(∀id,H.length≤id→id∈wr→J id=none) →
  ∀(K:Act→World→Prop) (Q:Exit→Act→World→Prop),
   (∀v w' J' F',rep J' F' w' d v→yL J' F' w' (Q1 G wr H2)→Ext J F w J' F' w'→(∀id,J id=none→id ∉ wr→J' id=none)→K (a.put o.dst v) w')→o.wp P a w K Q
theorem OpS.value {P:Program} {o:Oper} {env:Env} {rd:List Nat} {H:List zf} {d:D}
  (h:∀(J:yK) (F:Nat→Prop) (w:World) (a:Act) (G:Nat→Option zf),yL J F w G→(∀x∈o.op.operands,rep J F w (y0 env x) (a.eval x)) →
   (∀id∈rd,G id=H[id]?)→∃v,(execOp a.eval o).run P w=.ok (.value v) w∧rep J F w d v):OpS P o env rd [] H d H where
 frame _ _:=rfl
 len:=Nat.le_refl _
 lt _ h:=by cases h
 run J F w a G hok hops hrd _ K Q hK:=by
  obtain⟨v,h1,h2⟩:=h J F w a G hok hops λid hid=>hrd id (.inl hid)
  unfold Oper.wp
  rw[h1,Oper.upon_value]
  exact hK v w J F h2 (by rw[W1];exact hok) (Ext.refl _ _ _) λ_ h _=>h
theorem Yo (t:Nat) (K:D→Prop):∀env,Vd t K env=K (xy t env)
 | []=>rfl
 | (k,d)::r=>by
  simp only[Vd,xy]
  cases Nat.beq t k
  ·exact Yo t K r
  ·rfl
theorem zht:∀(l:List Value) (K:List D→Prop),scK l K=K (l.map .sc)
 | [],K=>rfl
 | v::r,K=>by simp only[scK,zht r,List.map_cons]
theorem yC (env:Env) (x:Operand) (K:D→Prop):Zg env x K=K (y0 env x):=by
 cases x with
 | tmp t=>exact Yo t K env
 | const v=>cases v<;>first|rfl|simp only[Zg,y0,lift,zht]
 | global g=>rfl
 | func f=>rfl
theorem zcp (env:Env):∀(xs:List Operand) (K:List D→Prop),zlG env xs K=K (xs.map (y0 env))
 | [],K=>rfl
 | x::r,K=>by simp only[zlG,yC,zcp env r,List.map_cons]
theorem ZY:∀(cs:List D) (n:Nat) (K:D→Prop),atK cs n K↔∃c,cs[n]? = some c∧K c
 | [],n,K=>by simp[atK]
 | c::r,0,K=>by simp[atK]
 | c::r,n+1,K=>by simp only[atK,List.getElem?_cons_succ];exact ZY r n K
theorem ZS:∀(cs:List D) (n:Nat) (K:List D→Prop),V8 cs n K↔n≤cs.length∧K (cs.take n)
 | cs,0,K=>by simp[V8]
 | [],n+1,K=>by simp[V8]
 | c::r,n+1,K=>by simp only[V8,ZS r n,List.length_cons,List.take_succ_cons,Nat.add_le_add_iff_right]
theorem ZK:∀(cs:List D) (n:Nat) (K:List D→Prop),Ws cs n K↔n≤cs.length∧K (cs.drop n)
 | cs,0,K=>by cases cs<;>simp[Ws]
 | [],n+1,K=>by simp[Ws]
 | c::r,n+1,K=>by simp only[Ws,ZK r n,List.length_cons,List.drop_succ_cons,Nat.add_le_add_iff_right]
theorem yA:∀(H:List zf) (n:Nat) (K:zf→Prop),vk H n K↔∃c,H[n]? = some c∧K c
 | [],n,K=>by simp[vk]
 | c::r,0,K=>by simp[vk]
 | c::r,n+1,K=>by simp only[vk,List.getElem?_cons_succ];exact yA r n K
theorem vP:∀(H:List zf) (n:Nat) (o:zf) (K:List zf→Prop),XA H n o K↔n<H.length∧K (H.set n o)
 | [],n,o,K=>by simp[XA]
 | c::r,0,o,K=>by simp[XA]
 | c::r,n+1,o,K=>by simp only[XA,vP r n,List.length_cons,List.set_cons_succ,Nat.add_lt_add_iff_right]
theorem vy:∀(H:List zf) (o:zf) (K:List zf→Nat→Prop),Ys H o K↔K (H++[o]) H.length
 | [],o,K=>by simp[Ys]
 | c::r,o,K=>by simp only[Ys,vy r,List.length_cons,List.cons_append]
theorem We:∀(r:List D) (n:Nat) (cs:List D) (K:List D→Prop),zaZ r n cs K↔n+cs.length≤r.length∧K (r.take n++cs++r.drop (n+cs.length))
 | [],0,[],K=>by simp[zaZ]
 | [],0,c::cs,K=>by simp[zaZ]
 | [],n+1,cs,K=>by simp[zaZ]
 | x::r,0,[],K=>by simp[zaZ]
 | x::r,0,c::cs,K=>by
  simp only[zaZ,We r 0 cs,List.length_cons,List.take_zero,List.nil_append,Nat.zero_add,List.cons_append,List.drop_succ_cons,Nat.add_le_add_iff_right]
 | x::r,n+1,cs,K=>by
  simp only[zaZ,We r n cs,List.length_cons,List.take_succ_cons,List.cons_append]
  rw[show n+1+cs.length=n+cs.length+1 by omega,List.drop_succ_cons,Nat.add_le_add_iff_right]
theorem xW (a b:Nat) (A:Prop):YD a b A↔a=b∧A:=by
 unfold YD
 cases e:Nat.beq a b
 ·simp only[false_iff,not_and];intro h;subst h;simp at e
 ·simp[Nat.eq_of_beq_eq_true e]
def D.cells:D→List D
 | .agg cs=>cs
 | d=>[d]
def storable (d:D):Bool:=match d with
 | .agg cs=>za3 cs
 | d=>Qi d
theorem W6 (d:D) (K:List D→Prop):zay d K↔storable d=true∧K d.cells:=by
 cases d<;>simp only[zay,storable,D.cells]
 all_goals
  first
  | (generalize e:za3 _=b;cases b<;>simp)
  | (generalize e:Qi _=b;cases b<;>simp)
section
variable {J:yK} {F:Nat→Prop} {w:World}
theorem zd4:∀(cs:List D),za3 cs=true→∀c∈cs,Qi c=true
 | [],_,c,h=>by cases h
 | c::r,h,d,hd=>by
  simp only[za3] at h
  cases e:Qi c with
  | false=>rw[e] at h;cases h
  | true =>
   rw[e] at h
   rcases List.mem_cons.1 hd with rfl|hd
   ·exact e
   ·exact zd4 r h d hd
theorem zdr {c:D} {v:Value} (h:Qi c=true) (k:rep J F w c v):yl v=true:=by
 cases c<;>simp only[rep] at k
 case sc u=>subst k;cases v<;>first|rfl|simp[Qi] at h
 case loc=>obtain⟨_,_,_,_,_,rfl⟩:=k;rfl
 case xk=>obtain⟨_,_,rfl,_⟩:=k;rfl
 case xj=>obtain⟨_,_,_,rfl,_⟩:=k;rfl
 case fn=>obtain⟨_,_,rfl,_⟩:=k;rfl
 case ifc=>obtain⟨_,rfl,_⟩:=k;rfl
 case elt=>obtain⟨_,_,_,rfl,_⟩:=k;rfl
 case own=>obtain⟨_,_,_,_,_,rfl,_⟩:=k;rfl
 case mp=>obtain⟨_,_,_,_,_,rfl⟩:=k;rfl
 case gv=>exact k.2.2
 all_goals simp[Qi] at h
end
theorem qa (k:IntKind) (z:Int) (K:D→Prop) (h:VL k z K):K (.sc (.int k (k.wrap z))):=by
 rcases h with⟨h1,h2⟩|h
 ·unfold InR at h1;rw[h1];exact h2
 ·exact h _ rfl
theorem yf (P:Program) (w:World) (op:BinOp) (t:TypeId) (x y:Operand) (k k':IntKind) (a b:Int):(eqGuard op t x y (.int k a) (.int k' b)).run P w=.ok () w:=by
 cases op<;>simp[eqGuard,pure,Sem.run]
theorem Y7 (P:Program) (w:World) (op:BinOp) (t:TypeId) (x y:Operand) (a b:ByteArray):(eqGuard op t x y (.string a) (.string b)).run P w=.ok () w:=by
 cases op<;>simp[eqGuard,pure,Sem.run]
theorem X7 (P:Program) (w:World) (op:BinOp) (t:TypeId) (x y:Operand) (a b:Bool):(eqGuard op t x y (.bool a) (.bool b)).run P w=.ok () w:=by
 cases op<;>simp[eqGuard,pure,Sem.run]
theorem zdc {k k':IntKind} (h:Nat.beq (zax k) (zax k')=true):k=k':=by
 cases k<;>cases k'<;>first|rfl|cases h
theorem zk5 (op:BinOp) (dx dy:D) (K:D→Prop) (h:zxz op dx dy K) :
  ∃u v r,dx=.sc u∧dy=.sc v∧K (.sc r)∧∀(P:Program) (w:World) (t:TypeId) (x y:Operand),((do eqGuard op t x y u v;binOp op t u v:Sem Value)).run P w=.ok r w:=by
 unfold zxz at h
 split at h
 ·rename_i k a k' b
  split at h
  ·obtain⟨h0,h⟩:=h
   refine⟨_,_,_,rfl,rfl,qa _ _ _ h,λP w t x y=>?_⟩
   simp[yf,binOp,Op.shift,show ¬b<0 by omega,pure,Sem.run]
  ·obtain⟨h0,h⟩:=h
   refine⟨_,_,_,rfl,rfl,h,λP w t x y=>?_⟩
   simp[yf,binOp,Op.shift,show ¬b<0 by omega,pure,Sem.run]
  ·rename_i hn1 hn2
   split at h
   ·exact h.elim
   ·rename_i hk
    have hk:=zdc hk
    subst hk
    cases op<;>simp only at h
    all_goals try exact h.elim
    case add=>exact⟨_,_,_,rfl,rfl,qa _ _ _ h,λP w t x y=>by simp[yf,binOp,Op.intArith,pure,Sem.run]⟩
    case sub=>exact⟨_,_,_,rfl,rfl,qa _ _ _ h,λP w t x y=>by simp[yf,binOp,Op.intArith,pure,Sem.run]⟩
    case mul=>exact⟨_,_,_,rfl,rfl,qa _ _ _ h,λP w t x y=>by simp[yf,binOp,Op.intArith,pure,Sem.run]⟩
    case quo=>exact⟨_,_,_,rfl,rfl,qa _ _ _ h.2,λP w t x y=>by simp[yf,binOp,Op.intDiv,pure,Sem.run,h.1]⟩
    case rem=>exact⟨_,_,_,rfl,rfl,h.2,λP w t x y=>by simp[yf,binOp,Op.intDiv,pure,Sem.run,h.1]⟩
    case eql=>exact⟨_,_,_,rfl,rfl,h,λP w t x y=>by simp[yf,binOp,Op.intCmp,pure,Sem.run]⟩
    case neq=>exact⟨_,_,_,rfl,rfl,h,λP w t x y=>by simp[yf,binOp,Op.intCmp,pure,Sem.run]⟩
    case lss=>exact⟨_,_,_,rfl,rfl,h,λP w t x y=>by simp[yf,binOp,Op.intCmp,pure,Sem.run]⟩
    case leq=>exact⟨_,_,_,rfl,rfl,h,λP w t x y=>by simp[yf,binOp,Op.intCmp,pure,Sem.run]⟩
    case gtr=>exact⟨_,_,_,rfl,rfl,h,λP w t x y=>by simp[yf,binOp,Op.intCmp,pure,Sem.run]⟩
    case geq=>exact⟨_,_,_,rfl,rfl,h,λP w t x y=>by simp[yf,binOp,Op.intCmp,pure,Sem.run]⟩
    case and=>exact⟨_,_,_,rfl,rfl,h,λP w t x y=>by simp[yf,binOp,Op.intBits,pure,Sem.run,vj]⟩
    case or=>exact⟨_,_,_,rfl,rfl,h,λP w t x y=>by simp[yf,binOp,Op.intBits,pure,Sem.run,vj]⟩
    case xor=>exact⟨_,_,_,rfl,rfl,h,λP w t x y=>by simp[yf,binOp,Op.intBits,pure,Sem.run,vj]⟩
    case andNot=>exact⟨_,_,_,rfl,rfl,h,λP w t x y=>by simp[yf,binOp,Op.intBits,pure,Sem.run,vj]⟩
 ·rename_i a b
  cases op<;>simp only at h
  all_goals try exact h.elim
  case add=>exact⟨_,_,_,rfl,rfl,h.2,λP w t x y=>by
   have h1:=h.1
   have h2:(a.size:Int)+(b.size:Int)≤9223372036854775807:=by omega
   simp[Y7,binOp,Op.stringOp,pure,Sem.run,h2]⟩
  all_goals exact⟨_,_,_,rfl,rfl,h,λP w t x y=>by simp[Y7,binOp,Op.stringOp,pure,Sem.run]⟩
 ·exact h.elim
section
variable {P:Program} {seq:Bool} {o:Oper} {env:Env} {H:List zf} {K:QH}
def Sound (P:Program) (o:Oper) (env:Env) (H:List zf) (K:QH):Prop:=∃d H2 rd wr,OpS P o env rd wr H d H2∧K d H2 rd wr
theorem zG {d:D} {rd:List Nat} (hK:K d H rd [])
  (h:∀(J:yK) (F:Nat→Prop) (w:World) (a:Act) (G:Nat→Option zf),yL J F w G→(∀x∈o.op.operands,rep J F w (y0 env x) (a.eval x)) →
   (∀id∈rd,G id=H[id]?)→∃v,(execOp a.eval o).run P w=.ok (.value v) w∧rep J F w d v):Sound P o env H K:=⟨d,H,rd,[],OpS.value h,hK⟩
theorem zp7 {x:Operand} (ho:o.op=.move x∨o.op=.assign x) (h:step P seq (.move x) env H K):Sound P o env H K:=by
 simp only[step,yC] at h
 refine zG h λJ F w a G _ hops _=>⟨a.eval x,?_,?_⟩
 ·rcases ho with e|e<;>simp[execOp,e,pure,Sem.run]
 ·rcases ho with e|e<;>exact hops x (by simp[e,Op.operands])
theorem zqr {A B:Prop}:ifK true A B=A:=rfl
theorem znH {A B:Prop}:ifK false A B=B:=rfl
theorem zxJ {c x y:Operand} (ho:o.op=.pick c x y) (h:step P seq (.pick c x y) env H K):Sound P o env H K:=by
 simp only[step,yC] at h
 cases hc:y0 env c with
 | sc u =>
  cases u with
  | bool t =>
   rw[hc] at h
   cases t with
   | true =>
    simp only[zqr] at h
    refine zG h λJ F w a G _ hops _=>⟨a.eval x,?_,hops x (by simp[ho,Op.operands])⟩
    have h1:=hops c (by simp[ho,Op.operands])
    rw[hc] at h1
    simp only[rep] at h1
    simp[execOp,ho,pure,Sem.run,h1,asBool]
   | false =>
    simp only[znH] at h
    refine zG h λJ F w a G _ hops _=>⟨a.eval y,?_,hops y (by simp[ho,Op.operands])⟩
    have h1:=hops c (by simp[ho,Op.operands])
    rw[hc] at h1
    simp only[rep] at h1
    simp[execOp,ho,pure,Sem.run,h1,asBool]
  | _=>rw[hc] at h;exact h.elim
 | _=>rw[hc] at h;exact h.elim
theorem zqo {x:Operand} (ho:o.op=.nilCheck x) (h:step P seq (.zm x) env H K):Sound P o env H K:=by
 simp only[step,yC] at h
 have key:∀v,(∃a,v=Value.pointer (some a))∨(∃f us vs,v=.func (.func f) us vs)→∀(w:World) (ρ:Operand→Value),ρ x=v→(execOp ρ o).run P w=.ok (.value v) w:=by
  rintro v (⟨a,rfl⟩|⟨f,us,vs,rfl⟩) w ρ e<;>simp[execOp,ho,e,pure,Sem.run]
 cases hx:y0 env x with
 | loc id off =>
  rw[hx] at h
  refine zG h λJ F w a G _ hops _=>?_
  have h1:=hops x (by simp[ho,Op.operands])
  rw[hx] at h1
  refine⟨_,key _ (.inl ?_) w _ rfl,h1⟩
  simp only[rep] at h1
  obtain⟨_,_,_,_,_,e⟩:=h1
  exact⟨_,e⟩
 | elt id zW i off =>
  rw[hx] at h
  refine zG h λJ F w a G _ hops _=>?_
  have h1:=hops x (by simp[ho,Op.operands])
  rw[hx] at h1
  refine⟨_,key _ (.inl ?_) w _ rfl,h1⟩
  simp only[rep] at h1
  obtain⟨_,_,_,e,_⟩:=h1
  exact⟨_,e⟩
 | xk cs =>
  rw[hx] at h
  refine zG h λJ F w a G _ hops _=>?_
  have h1:=hops x (by simp[ho,Op.operands])
  rw[hx] at h1
  refine⟨_,key _ (.inl ?_) w _ rfl,h1⟩
  simp only[rep] at h1
  obtain⟨_,_,e,_⟩:=h1
  exact⟨_,e⟩
 | fn f first cap =>
  rw[hx] at h
  cases f with
  | func f =>
   refine zG h λJ F w a G _ hops _=>?_
   have h1:=hops x (by simp[ho,Op.operands])
   rw[hx] at h1
   refine⟨_,key _ (.inr ?_) w _ rfl,h1⟩
   simp only[rep] at h1
   obtain⟨_,_,e,_⟩:=h1
   exact⟨_,_,_,e⟩
  | _=>exact h.elim
 | _=>rw[hx] at h;exact h.elim
theorem zzV {op:BinOp} {t yt:TypeId} {x y:Operand} (ho:o.op=.binOp op t x y yt) (h:step P seq (.bin op x y) env H K):Sound P o env H K:=by
 simp only[step,yC] at h
 obtain⟨u,v,r,h1,h2,h3,h4⟩:=zk5 _ _ _ _ h
 refine zG h3 λJ F w a G _ hops _=>⟨r,?_,by simp only[rep]⟩
 have k1:=hops x (by simp[ho,Op.operands])
 have k2:=hops y (by simp[ho,Op.operands])
 rw[h1] at k1;rw[h2] at k2
 simp only[rep] at k1 k2
 simp only[execOp,ho,k1,k2]
 have:=h4 P w t x y
 simp only[Sem.run_bind] at this ⊢
 rw[this]
 rfl
theorem run_equal_bool {t:TypeId} (ht:P.underlying t=some .bool) (a b:Bool) (w:World):(Op.equal t (.bool a) (.bool b)).run P w=.ok (a==b) w:=by
 unfold Op.equal
 rw[show Op.maxDepth=9999+1 from rfl]
 unfold Op.equalIn
 simp[underlying,program,Sem.run,ht,pure]
theorem zvk {neq:Bool} {op:BinOp} {t yt:TypeId} {x y:Operand} (hop:op=if neq then .neq else .eql) (ht:P.underlying t=some .bool) (ho:o.op=.binOp op t x y yt) (h:step P seq (.eqb neq x y) env H K):Sound P o env H K:=by
 simp only[step,yC] at h
 unfold eqbK at h
 split at h
 ·rename_i u v e1 e2
  cases neq with
  | false =>
   simp only[Bool.false_eq_true,if_false] at hop
   refine zG h λJ F w a G _ hops _=>⟨_,?_,rfl⟩
   have k1:=hops x (by simp[ho,Op.operands])
   have k2:=hops y (by simp[ho,Op.operands])
   rw[e1] at k1;rw[e2] at k2
   simp only[rep] at k1 k2
   simp[execOp,ho,k1,k2,hop,X7,binOp,run_equal_bool ht,Sem.run,pure]
  | true =>
   simp only[if_true] at hop
   refine zG h λJ F w a G _ hops _=>⟨_,?_,rfl⟩
   have k1:=hops x (by simp[ho,Op.operands])
   have k2:=hops y (by simp[ho,Op.operands])
   rw[e1] at k1;rw[e2] at k2
   simp only[rep] at k1 k2
   simp[execOp,ho,k1,k2,hop,X7,binOp,run_equal_bool ht,Sem.run,pure]
 ·exact h.elim
theorem JZ {c:Nat} {x y:D} {K:Bool→Prop} (h:zlP c x y K) :
  ∃u v b,x=.sc u∧y=.sc v∧K b∧∀(P:Program) (t:TypeId),za9 P t=some c→(∀(us:Array Value) (i:Nat) (w:World) (z:Value),us[i]? = some z→(part t us i).run P w=.ok z w)∧∀d w,(Op.equalIn (d+1) t u v).run P w=.ok b w:=by
 unfold zlP at h
 split at h
 ·rename_i k a k' b
  obtain⟨e1,h2⟩:=(xW _ _ _).1 h
  have e1:k=k':=zdc (by rw[e1];exact Nat.beq_refl _)
  subst e1
  refine⟨_,_,_,rfl,rfl,h2,λP t ht=>?_⟩
  unfold za9 at ht
  split at ht<;>try (cases ht;done)
  rename_i k0 e
  exact⟨λus i w z hz=>by simp[part,isAgg,run_underlying e,hz],λd w=>run_equalIn_int w d t k k0 a b e⟩
 ·refine⟨_,_,_,rfl,rfl,h,λP t ht=>?_⟩
  unfold za9 at ht
  split at ht<;>try (cases ht;done)
  rename_i e
  exact⟨λus i w z hz=>by simp[part,isAgg,run_underlying e,hz],λd w=>run_equalIn_bool' w d t _ _ e⟩
 ·refine⟨_,_,_,rfl,rfl,h,λP t ht=>?_⟩
  unfold za9 at ht
  split at ht<;>try (cases ht;done)
  rename_i e
  exact⟨λus i w z hz=>by simp[part,isAgg,run_underlying e,hz],λd w=>run_equalIn_string w d t _ _ e⟩
 ·exact h.elim
theorem zc0:∀{ks:List Nat} {xs ys:List D} {K:Bool→Prop},zjh ks xs ys K→∃b,K b ∧
  ∀(P:Program) (us vs:Array Value) (J:yK) (F:Nat→Prop) (w0:World) (fs:List Field) (i:Nat),zdV P i fs=some ks →
   zY J F w0 xs (us.toList.drop i)→zY J F w0 ys (vs.toList.drop i)→∀d w,(Op.eqFields (d+1) us vs fs).run P w=.ok b w
 | [],xs,ys,K,h=>by
  cases xs<;>cases ys<;>simp only[zjh] at h
  refine⟨_,h,λP us vs J F w0 fs i hf _ _ d w=>?_⟩
  cases fs with
  | nil=>simp[Op.eqFields,Sem.run,pure]
  | cons f r =>
   simp only[zdV] at hf
   repeat' (split at hf)
   all_goals cases hf
 | c::cs,xs,ys,K,h=>by
  cases xs<;>cases ys<;>simp only[zjh] at h
  rename_i x xs y ys
  obtain⟨u,v,b,rfl,rfl,h,hP⟩:=JZ h
  obtain⟨q,hq,hR⟩:=zc0 h
  refine⟨_,hq,λP us vs J F w0 fs i hf h1 h2 d w=>?_⟩
  cases fs with
  | nil=>cases hf
  | cons f r =>
   simp only[zdV] at hf
   split at hf
   ·rename_i hc
    split at hf
    ·rename_i c' cs' e1 e2
     cases hf
     obtain⟨hp,he⟩:=hP P f.type e1
     simp only[zY,rep] at h1 h2
     obtain⟨u',us',g1,rfl,g2⟩:=h1
     obtain⟨v',vs',g3,rfl,g4⟩:=h2
     have k1:us[i]? = some u':=by
      have:=congrArg (λl=>l[0]?) g1
      simpa using this
     have k2:vs[i]? = some v':=by
      have:=congrArg (λl=>l[0]?) g3
      simpa using this
     have k3:us.toList.drop (i+1)=us':=by
      have:=congrArg List.tail g1
      simpa [List.tail_drop] using this
     have k4:vs.toList.drop (i+1)=vs':=by
      have:=congrArg List.tail g3
      simpa [List.tail_drop] using this
     have hr:=hR P us vs J F w0 r (i+1) e2 (k3▸g2) (k4▸g4) d
     have p1:=hp us i w u' k1
     have p2:=hp vs i w v' k2
     simp only[Op.eqFields,if_pos hc.1,hc.2,Sem.run_bind,p1,p2,Result.andThen_ok,he d w,Sem.run_ite]
     cases b
     ·simp[Sem.run,pure]
     ·simp[hr w]
    ·cases hf
   ·cases hf
theorem zdY {c:Nat}:∀{n:Nat} {xs ys:List D} {K:Bool→Prop},zjh (List.replicate n c) xs ys K→∃b,K b ∧
  ∀(P:Program) (us vs:Array Value) (J:yK) (F:Nat→Prop) (w0:World) (e:TypeId) (i:Nat),za9 P e=some c →
   zY J F w0 xs (us.toList.drop i)→zY J F w0 ys (vs.toList.drop i)→∀d w,(Op.eqItems (d+1) e 1 us vs (List.range' i n)).run P w=.ok b w
 | 0,xs,ys,K,h=>by
  cases xs<;>cases ys<;>simp only[List.replicate,zjh] at h
  exact⟨_,h,λP us vs J F w0 e i hf _ _ d w=>by simp[Op.eqItems,Sem.run,pure]⟩
 | n+1,xs,ys,K,h=>by
  cases xs<;>cases ys<;>simp only[List.replicate,zjh] at h
  rename_i x xs y ys
  obtain⟨u,v,b,rfl,rfl,h,hP⟩:=JZ h
  obtain⟨q,hq,hR⟩:=zdY h
  refine⟨_,hq,λP us vs J F w0 e i hf h1 h2 d w=>?_⟩
  obtain⟨hp,he⟩:=hP P e hf
  simp only[zY,rep] at h1 h2
  obtain⟨u',us',g1,rfl,g2⟩:=h1
  obtain⟨v',vs',g3,rfl,g4⟩:=h2
  have k1:us[i]? = some u':=by
   have:=congrArg (λl=>l[0]?) g1
   simpa using this
  have k2:vs[i]? = some v':=by
   have:=congrArg (λl=>l[0]?) g3
   simpa using this
  have k3:us.toList.drop (i+1)=us':=by
   have:=congrArg List.tail g1
   simpa [List.tail_drop] using this
  have k4:vs.toList.drop (i+1)=vs':=by
   have:=congrArg List.tail g3
   simpa [List.tail_drop] using this
  have hr:=hR P us vs J F w0 e (i+1) hf (k3▸g2) (k4▸g4) d
  have p1:=hp us i w u' k1
  have p2:=hp vs i w v' k2
  simp only[List.range'_succ,Op.eqItems,Nat.mul_one,Sem.run_bind,p1,p2,Result.andThen_ok,he d w,Sem.run_ite]
  cases b
  ·simp[Sem.run,pure]
  ·simp[hr w]
theorem zu5 {neq:Bool} {op:BinOp} {t yt:TypeId} {x y:Operand} {ks:List Nat} (hop:op=if neq then .neq else .eql) (ht:zg7 P t=some ks) (ho:o.op=.binOp op t x y yt) (h:step P seq (.eqa neq ks x y) env H K):Sound P o env H K:=by
 simp only[step,yC] at h
 unfold zg7 at ht
 split at ht
 ·rename_i fs hu
  split at ht
  ·rename_i hg
   unfold zwB at h
   split at h
   ·rename_i xs ys e1 e2
    have hfs:P.fieldsOf t=fs:=by simp[Program.fieldsOf,hu]
    obtain⟨b,hK,hr⟩:=zc0 h
    refine zG hK λJ F w a G _ hops _=>?_
    have k1:=hops x (by simp[ho,Op.operands])
    have k2:=hops y (by simp[ho,Op.operands])
    rw[e1] at k1;rw[e2] at k2
    simp only[rep] at k1 k2
    obtain⟨us,k1,r1⟩:=k1
    obtain⟨vs,k2,r2⟩:=k2
    have hrun:=hr P us.toArray vs.toArray J F w fs.toList 0 ht (by simpa using r1) (by simpa using r2) 9998 w
    have heq:(Op.equalIn 10000 t (.agg us.toArray) (.agg vs.toArray)).run P w=.ok b w:=by
     rw[show(10000:Nat)=9999+1 from rfl,run_equalIn_struct w 9999 t _ _ (by rw[hfs];exact hu) hg.1,hfs]
     exact hrun
    cases neq with
    | false =>
     simp only[Bool.false_eq_true,if_false] at hop
     exact⟨_,by simp[execOp,ho,k1,k2,hop,run_eqGuard_agg w _ t x y _ _ hg.2,run_eql_struct,heq,Sem.run,pure,JK],rfl⟩
    | true =>
     simp only[if_true] at hop
     exact⟨_,by simp[execOp,ho,k1,k2,hop,run_eqGuard_agg w _ t x y _ _ hg.2,run_neq_struct,heq,Sem.run,pure,JK],rfl⟩
   ·exact h.elim
  ·cases ht
 ·rename_i n e hu
  split at ht
  ·rename_i hg
   cases hfc:za9 P e with
   | none=>rw[hfc] at ht;cases ht
   | some c =>
    rw[hfc] at ht
    cases ht
    obtain⟨inf,hi⟩:=Option.isSome_iff_exists.1 hg.2.2
    unfold zwB at h
    split at h
    ·rename_i xs ys e1 e2
     obtain⟨b,hK,hr⟩:=zdY h
     refine zG hK λJ F w a G _ hops _=>?_
     have k1:=hops x (by simp[ho,Op.operands])
     have k2:=hops y (by simp[ho,Op.operands])
     rw[e1] at k1;rw[e2] at k2
     simp only[rep] at k1 k2
     obtain⟨us,k1,r1⟩:=k1
     obtain⟨vs,k2,r2⟩:=k2
     have hrun:=hr P us.toArray vs.toArray J F w e 0 hfc (by simpa using r1) (by simpa using r2) 9998 w
     have heq:(Op.equalIn 10000 t (.agg us.toArray) (.agg vs.toArray)).run P w=.ok b w:=by
      rw[show(10000:Nat)=9999+1 from rfl,run_equalIn_array w 9999 _ _ hu hi,hg.2.1,List.range_eq_range']
      exact hrun
     cases neq with
     | false =>
      simp only[Bool.false_eq_true,if_false] at hop
      exact⟨_,by simp[execOp,ho,k1,k2,hop,run_eqGuard_agg w _ t x y _ _ hg.1,run_eql_struct,heq,Sem.run,pure,JK],rfl⟩
     | true =>
      simp only[if_true] at hop
      exact⟨_,by simp[execOp,ho,k1,k2,hop,run_eqGuard_agg w _ t x y _ _ hg.1,run_neq_struct,heq,Sem.run,pure,JK],rfl⟩
    ·exact h.elim
  ·cases ht
 ·cases ht
theorem s_un {op:UnOp} {t:TypeId} {x:Operand} (ho:o.op=.unOp op t x) (h:step P seq (.un op x) env H K):Sound P o env H K:=by
 simp only[step,yC] at h
 unfold unK at h
 split at h
 ·rename_i b e
  refine zG h λJ F w a G _ hops _=>⟨_,?_,rfl⟩
  have k1:=hops x (by simp[ho,Op.operands])
  rw[e] at k1
  simp only[rep] at k1
  simp[execOp,ho,k1,Op.unary,Sem.run,pure]
 ·rename_i k n e
  refine zG (qa _ _ _ h) λJ F w a G _ hops _=>⟨_,?_,rfl⟩
  have k1:=hops x (by simp[ho,Op.operands])
  rw[e] at k1
  simp only[rep] at k1
  simp[execOp,ho,k1,Op.unary,Op.intArith,Sem.run,pure]
 ·exact h.elim
theorem zy2 {i:Nat} {x:Operand} (ho:o.op=.extract x i) (h:step P seq (.ext i x) env H K):Sound P o env H K:=by
 simp only[step,yC] at h
 split at h
 ·rename_i cs e
  obtain⟨c,h1,h2⟩:=(ZY _ _ _).1 h
  refine zG h2 λJ F w a G _ hops _=>?_
  have k1:=hops x (by simp[ho,Op.operands])
  rw[e] at k1
  simp only[rep] at k1
  obtain⟨vs,k2,k3⟩:=k1
  obtain⟨v,k4,k5⟩:=vl _ _ _ _ h1 k3
  refine⟨v,?_,k5⟩
  simp[execOp,ho,k2,Instr.extract,k4,Sem.run,pure]
 ·exact h.elim
theorem zwF {f:Fn} {first cap:Array Operand} (ho:o.op=.makeFunc f first cap) (h:step P seq (.ZP f first.toList cap.toList) env H K):Sound P o env H K:=by
 simp only[step,zcp] at h
 refine zG h λJ F w a G _ hops _=>⟨.func f (first.map a.eval) (cap.map a.eval),?_,?_⟩
 ·simp[execOp,ho,Instr.makeFunc,Sem.run,pure]
 ·simp only[rep]
  refine⟨first.toList.map a.eval,cap.toList.map a.eval,?_,?_,?_⟩
  ·congr 1<;>(apply Array.ext' ;simp)
  ·refine J9 _ _ (by simp) λj d v hd hv=>?_
   rw[List.getElem?_map] at hd hv
   cases e:first.toList[j]? with
   | none=>rw[e] at hd;cases hd
   | some x =>
    rw[e] at hd hv
    simp only[Option.map_some,Option.some.injEq] at hd hv
    subst hd;subst hv
    exact hops x (by simp[ho,Op.operands];exact .inl (by simpa using List.mem_of_getElem? e))
  ·refine J9 _ _ (by simp) λj d v hd hv=>?_
   rw[List.getElem?_map] at hd hv
   cases e:cap.toList[j]? with
   | none=>rw[e] at hd;cases hd
   | some x =>
    rw[e] at hd hv
    simp only[Option.map_some,Option.some.injEq] at hd hv
    subst hd;subst hv
    exact hops x (by simp[ho,Op.operands];exact .inr (by simpa using List.mem_of_getElem? e))
theorem zx9 {t:TypeId} {x:Operand} (hc:∀ms,P.underlying t≠some (.interface ms)) (hu:P.underlying t≠none) (ho:o.op=.makeInterface t x) (h:step P seq (.zxl t x) env H K):Sound P o env H K:=by
 simp only[step,yC] at h
 refine zG h λJ F w a G _ hops _=>⟨.iface t (a.eval x),?_,?_⟩
 ·cases e:P.underlying t with
  | none=>exact absurd e hu
  | some d =>
   cases d<;>first|exact absurd e (hc _)|simp[execOp,ho,Instr.makeInterface,Sem.run,pure,underlying,program,e]
 ·simp only[rep]
  exact⟨_,rfl,hops x (by simp[ho,Op.operands])⟩
theorem zxV {args:Array Operand} {ts:Array TypeId} {x:Operand} {t:TypeId} (ha:args.toList=[x]) (hts:ts.toList=[t]) (ht:P.underlying t=some .string) (ho:o.op=.call { callee:=.builtin .len,args,argTypes:=ts }) (h:step P seq (.zhF x) env H K):Sound P o env H K:=by
 have ea:args=#[x]:=Array.ext' (by simpa using ha)
 have et:ts=#[t]:=Array.ext' (by simpa using hts)
 subst ea et
 simp only[step,yC] at h
 split at h
 ·rename_i s e
  refine zG h λJ F w a G _ hops _=>⟨_,?_,rfl⟩
  have k1:=hops x (by simp[ho,Op.operands,Call.operands])
  rw[e] at k1
  simp only[rep] at k1
  simp[execOp,ho,resolve,invoke,builtin,Builtin.len_,k1,Sem.run,pure,underlying,program,ht,goInt]
 ·exact h.elim
theorem zym {t:TypeId} {x i:Operand} (ht:P.underlying t=some .string) (ho:o.op=.index t x i) (h:step P seq (.zqf x i) env H K):Sound P o env H K:=by
 simp only[step,yC] at h
 split at h
 ·rename_i s k z e1 e2
  obtain⟨h0,b,hb,h⟩:=h
  refine zG h λJ F w a G _ hops _=>⟨_,?_,rfl⟩
  have k1:=hops x (by simp[ho,Op.operands])
  have k2:=hops i (by simp[ho,Op.operands])
  rw[e1] at k1;rw[e2] at k2
  simp only[rep] at k1 k2
  simp[execOp,ho,Instr.index,asIntOf,k1,k2,Sem.run,pure,underlying,program,ht,h0,hb]
 ·exact h.elim
end
end
section
open Go.RowKit
theorem vW (b o n:Nat):(⟨b,o,none⟩:Addr).add n=⟨b,o+n,none⟩:=by
 unfold Addr.add
 split
 ·rename_i h;subst h;rfl
 ·rfl
section
variable {J:yK} {F:Nat→Prop} {w:World}
theorem X1 {b:Nat} {cs:List D} {o:Nat} (h:zN J F w b cs o) (off n:Nat):zN J F w b ((cs.drop off).take n) (o+off):=by
 refine xg _ _ λj c hc=>?_
 have h1:cs[off+j]? = some c:=by
  rw[List.getElem?_take] at hc
  split at hc
  ·rwa [List.getElem?_drop] at hc
  ·cases hc
 have:=xl cs o (off+j) c h1 h
 rwa [show o+(off+j)=o+off+j by omega] at this
theorem uY {b:Nat} {cs:List D} {o:Nat} (h:zN J F w b cs o) (off:Nat):zN J F w b (cs.drop off) (o+off):=by
 have:=X1 h off (cs.drop off).length
 rwa [List.take_length] at this
theorem ZW {b:Nat}:∀(cs:List D) (o:Nat),zN J F w b cs o→∃vs:List Value,zY J F w cs vs∧(∀j v,vs[j]? = some v→w.cell? ⟨b,o+j,none⟩=some v)∧∀v∈vs,yl v=true
 | [],o,_=>⟨[],by simp only[zY],(λj v h=>by simp at h),(λv h=>by cases h)⟩
 | c::r,o,h=>by
  simp only[zN] at h
  obtain⟨⟨u,h1,h0,h2⟩,h3⟩:=h
  obtain⟨vs,k1,k2,k3⟩:=ZW r (o+1) h3
  refine⟨u::vs,by simp only[zY];exact⟨u,vs,rfl,h2,k1⟩,λj v hv=>?_,λv hv=>(List.mem_cons.1 hv).elim (λe=>e▸h0) (k3 v)⟩
  cases j with
  | zero=>simp at hv;subst hv;exact h1
  | succ j =>
   have:=k2 j v (by simpa using hv)
   rwa [show o+1+j=o+(j+1) by omega] at this
variable {P:Program}
theorem YU {t:TypeId} {b:Bool} (h:UZ P t=some b):(isAgg t).run P w=.ok b w:=by
 unfold UZ at h
 cases e:P.underlying t with
 | none=>rw[e] at h;cases h
 | some d =>
  rw[e] at h
  cases d<;>simp at h<;>subst h<;>simp[isAgg,underlying,program,Sem.run,e,pure]
theorem VH {t:TypeId} {b:Bool} (h:UZ P t=some b):∃i,P.info? t=some i∧i.size=P.cellsOf t:=by
 unfold UZ Program.underlying at h
 cases e:P.info? t with
 | none=>rw[e] at h;cases h
 | some i=>exact⟨i,rfl,by simp[Program.cellsOf,e]⟩
theorem xq {t:TypeId} {i:TypeInfo} (h:P.info? t=some i):(sizeOf t).run P w=.ok i.size w:=by
 simp[sizeOf,typeInfo,program,Sem.run,h,pure]
theorem JV {t:TypeId} (h:UZ P t=some false) {a:Addr} {u:Value} (hc:w.cell? a=some u):(Instr.loadAt t (.pointer (some a))).run P w=.ok u w:=by
 simp[Instr.loadAt,Instr.sureAddr,loadVar,YU h,load,Sem.run,hc,pure]
theorem Jw {t:TypeId} (h:UZ P t=some true) {b o:Nat} {vs:List Value} (hn:vs.length=P.cellsOf t) (hc:∀(j:Nat) (v:Value),vs[j]? = some v→w.cell? ⟨b,o+j,none⟩=some v) :
  (Instr.loadAt t (.pointer (some ⟨b,o,none⟩))).run P w=.ok (.agg vs.toArray) w:=by
 obtain⟨i,h1,h2⟩:=VH h
 have h3:=run_loadCells_list (P:=P) (w:=w) ⟨b,o,none⟩ vs λj v hv=>by rw[vW];exact hc j v hv
 simp[Instr.loadAt,Instr.sureAddr,loadVar,YU h,xq h1,h2,←hn,Sem.run,pure,h3]
theorem zrq {G:Nat→Option zf} (h:yL J F w G) {id:Nat} {s:Site} {b:Nat} {m:Bool} {cs:List D} (h1:J id=some s) (h2:s.ad=some ⟨b,0,none⟩) (h3:G id=some (.row m cs)):zN J F w b cs 0:=by
 obtain⟨o,k1,k2⟩:=h.obj id s h1
 rw[h3] at k1
 cases k1
 obtain⟨_,_,_,_,_,b',_,_,e,_,_,k,_⟩:=k2
 rw[h2] at e
 cases e
 exact k
theorem Qe {G:Nat→Option zf} (h:yL J F w G) {id:Nat} {s:Site} {m:Bool} {zW zF:Nat} {xs:List (List D)} (h1:J id=some s) (h3:G id=some (.vec m zW zF xs)) :
  s.row=false∧s.zW=zW∧s.zF=zF∧s.len=xs.length∧s.len≤s.cap∧(s.cap=0∨∃b o vals te,s.ad=some ⟨b,o,none⟩∧w.heap[b]? = some (.cells vals te (0,0))∧o+s.cap*zF≤vals.size∧yd J F w b zF xs o∧(m=false→F b)):=by
 obtain⟨o,k1,k2⟩:=h.obj id s h1
 rw[h3] at k1
 cases k1
 exact k2
end
section
variable {P:Program} {seq:Bool} {o:Oper} {env:Env} {H:List zf} {K:QH}
def VM (P:Program) (env:Env) (H:List zf) (d:D) (rd:List Nat) (cs:List D):Prop :=
 ∀(J:yK) (F:Nat→Prop) (w:World) (G:Nat→Option zf) (v:Value),yL J F w G→(∀id∈rd,G id=H[id]?)→rep J F w d v→∃b o,v=.pointer (some ⟨b,o,none⟩)∧zN J F w b cs o
theorem Qv {id off:Nat} {m:Bool} {cs:List D} (h:H[id]? = some (.row m cs)):VM P env H (.loc id off) [id] (cs.drop off):=λJ F w G v hok hrd hv=>by
 simp only[rep] at hv
 obtain⟨s,b,h1,h2,h3,rfl⟩:=hv
 have:=uY (zrq hok h1 h3 (by rw[hrd id (by simp)];exact h)) off
 exact⟨b,off,rfl,by simpa using this⟩
theorem zdv {cs:List D}:VM P env H (.xk cs) [] cs:=λJ F w G v hok hrd hv=>by
 simp only[rep] at hv
 obtain⟨b,o,rfl,_,h⟩:=hv
 exact⟨b,o,rfl,h⟩
theorem zcV {id zW i off:Nat} {m:Bool} {zF:Nat} {xs:List (List D)} {row:List D} (h:H[id]? = some (.vec m zW zF xs)) (hr:xs[i]? = some row):VM P env H (.elt id zW i off) [id] (row.drop off):=λJ F w G v hok hrd hv=>by
 simp only[rep] at hv
 obtain⟨s,a,h1,rfl,h2,h3⟩:=hv
 have hG:G id=some (.vec m zW zF xs):=by rw[hrd id (by simp)];exact h
 obtain⟨k1,k2,k3,k4,k5,k6⟩:=Qe hok h1 hG
 obtain⟨b,o,q1,q2,q3,rfl⟩:=h3 k2.symm
 rcases k6 with k6|⟨b',o',vals,te,e,_,_,k,_⟩
 ·omega
 ·rw[q2] at e
  cases e
  obtain⟨r1,r2⟩:=wy xs o i row hr k
  have:=uY r2 off
  rw[k3]
  exact⟨b,_,rfl,this⟩
theorem zaS {t:TypeId} {x:Operand} {rd:List Nat} {cs:List D} {c:D} (ht:UZ P t=some false) (ho:o.op=.load t x) (hp:VM P env H (y0 env x) rd cs) (hc:cs[0]? = some c) (hK:K c H rd []):Sound P o env H K:=by
 refine zG hK λJ F w a G hok hops hrd=>?_
 obtain⟨b,o',e,k⟩:=hp J F w G _ hok hrd (hops x (by simp[ho,Op.operands]))
 obtain⟨u,k1,k2⟩:=xl cs o' 0 c hc k
 rw[Nat.add_zero] at k1
 refine⟨u,?_,k2.2⟩
 simp[execOp,ho,e,JV ht k1,Sem.run,pure]
theorem Qm {t:TypeId} {x:Operand} {rd:List Nat} {cs:List D} (ht:UZ P t=some true) (ho:o.op=.load t x) (hp:VM P env H (y0 env x) rd cs) (hn:P.cellsOf t≤cs.length) (hK:K (.agg (cs.take (P.cellsOf t))) H rd []):Sound P o env H K:=by
 refine zG hK λJ F w a G hok hops hrd=>?_
 obtain⟨b,o',e,k⟩:=hp J F w G _ hok hrd (hops x (by simp[ho,Op.operands]))
 have k1:=X1 k 0 (P.cellsOf t)
 simp only[List.drop_zero,Nat.add_zero] at k1
 obtain⟨vs,k2,k3,_⟩:=ZW _ _ k1
 have hl:vs.length=P.cellsOf t:=by rw[xh _ _ k2,List.length_take];omega
 refine⟨.agg vs.toArray,?_,by simp only[rep];exact⟨vs,rfl,k2⟩⟩
 simp[execOp,ho,e,Jw ht hl k3,Sem.run,pure]
theorem zsQ {t:TypeId} {x:Operand} (ht:UZ P t=some false) (ho:o.op=.load t x) (h:step P seq (.zi x) env H K):Sound P o env H K:=by
 simp only[step,yC] at h
 split at h
 ·rename_i id off e
  obtain⟨ob,h1,h2⟩:=(yA _ _ _).1 h
  split at h2
  ·rename_i m cs
   obtain⟨c,h3,h4⟩:=(ZY _ _ _).1 h2
   exact zaS ht ho (e▸Qv h1) (by rw[List.getElem?_drop];exact h3) h4
  ·exact h2.elim
 ·rename_i cs e
  obtain⟨c,h3,h4⟩:=(ZY _ _ _).1 h
  exact zaS ht ho (e▸zdv) h3 h4
 ·rename_i id zW i off e
  obtain⟨ob,h1,h2⟩:=(yA _ _ _).1 h
  split at h2
  ·rename_i m ver' zF xs
   obtain⟨rfl,row,h3,h4⟩:=h2
   obtain⟨c,h5,h6⟩:=(ZY _ _ _).1 h4
   exact zaS ht ho (e▸zcV h1 h3) (by rw[List.getElem?_drop];exact h5) h6
  ·exact h2.elim
 ·exact h.elim
theorem zsd {t:TypeId} {x:Operand} (ht:UZ P t=some true) (ho:o.op=.load t x) (h:step P seq (.v7 (P.cellsOf t) x) env H K):Sound P o env H K:=by
 simp only[step,yC] at h
 split at h
 ·rename_i id off e
  obtain⟨ob,h1,h2⟩:=(yA _ _ _).1 h
  split at h2
  ·rename_i m cs
   obtain⟨_,h3⟩:=(ZK _ _ _).1 h2
   obtain⟨h4,h5⟩:=(ZS _ _ _).1 h3
   exact Qm ht ho (e▸Qv h1) h4 h5
  ·exact h2.elim
 ·rename_i cs e
  obtain⟨h4,h5⟩:=(ZS _ _ _).1 h
  exact Qm ht ho (e▸zdv) h4 h5
 ·rename_i id zW i off e
  obtain⟨ob,h1,h2⟩:=(yA _ _ _).1 h
  split at h2
  ·rename_i m ver' zF xs
   obtain⟨rfl,row,h3,h4⟩:=h2
   obtain⟨_,h5⟩:=(ZK _ _ _).1 h4
   obtain⟨h6,h7⟩:=(ZS _ _ _).1 h5
   exact Qm ht ho (e▸zcV h1 h3) h6 h7
  ·exact h2.elim
 ·exact h.elim
def zaW (d:D) (off:Nat) (K':D→Prop):Prop:=match d with
 | .loc id o=>K' (.loc id (o+off))
 | .elt id zW i o=>K' (.elt id zW i (o+off))
 | .xk cs=>Ws cs off λr=>K' (.xk r)
 | _=>False
theorem zmQ {d:D} {off:Nat} {K':D→Prop} (h:zaW d off K'):∃d',K' d'∧∀(J:yK) (F:Nat→Prop) (w:World) (v:Value),rep J F w d v→∃a,v=.pointer (some a)∧rep J F w d' (.pointer (some (a.add off))):=by
 unfold zaW at h
 split at h
 ·refine⟨_,h,λJ F w v hv=>?_⟩
  simp only[rep] at hv ⊢
  obtain⟨s,b,h1,h2,h3,rfl⟩:=hv
  exact⟨_,rfl,s,b,h1,h2,h3,by rw[vW]⟩
 ·refine⟨_,h,λJ F w v hv=>?_⟩
  simp only[rep] at hv ⊢
  obtain⟨s,a,h1,rfl,h2,h3⟩:=hv
  refine⟨_,rfl,s,_,h1,rfl,h2,λq=>?_⟩
  obtain⟨b,o,q1,q2,q3,rfl⟩:=h3 q
  exact⟨b,o,q1,q2,q3,by rw[vW,Nat.add_assoc]⟩
 ·rename_i cs
  obtain⟨_,h2⟩:=(ZK _ _ _).1 h
  refine⟨_,h2,λJ F w v hv=>?_⟩
  simp only[rep] at hv ⊢
  obtain⟨b,o,rfl,hF,k⟩:=hv
  exact⟨_,rfl,b,_,by rw[vW],hF,uY k off⟩
 ·exact h.elim
theorem zrZ {s:TypeId} {x:Operand} {f:Nat} {fs:Array Field} {fd:Field} (hs:P.underlying s=some (.struct fs)) (hf:fs[f]? = some fd) (hz:P.cellsOf fd.type≠0) (ho:o.op=.fieldAddr s x f) (h:step P seq (.zv fd.offset x) env H K):Sound P o env H K:=by
 simp only[step,yC] at h
 have h':zaW (y0 env x) fd.offset (λd=>K d H [] []):=by
  unfold zaW;split at h<;>simp_all
 obtain⟨d',hK,hr⟩:=zmQ h'
 refine zG hK λJ F w a G hok hops hrd=>?_
 obtain⟨ad,e,k⟩:=hr J F w _ (hops x (by simp[ho,Op.operands]))
 have hi:∃i,P.info? fd.type=some i∧i.size≠0:=by
  unfold Program.cellsOf at hz
  cases e:P.info? fd.type with
  | none=>simp[e] at hz
  | some i=>exact⟨i,rfl,by simpa [e] using hz⟩
 obtain⟨i,hi1,hi2⟩:=hi
 refine⟨_,?_,k⟩
 simp[execOp,ho,e,Instr.fieldAt,Instr.sureAddr,fieldPlace,xq hi1,hi2,underlying,program,Sem.run,hs,hf,pure]
theorem wv {e:TypeId} (hz:P.cellsOf e≠0):∃i,P.info? e=some i∧i.size=P.cellsOf e:=by
 unfold Program.cellsOf at hz ⊢
 cases e:P.info? e with
 | none=>simp[e] at hz
 | some i=>exact⟨i,rfl,by simp[e]⟩
theorem zsf {t e:TypeId} {x i:Operand} (ht:P.underlying t=some (.slice e)) (hz:P.cellsOf e≠0) (ho:o.op=.indexAddr t x i) (h:step P seq (.zM (P.cellsOf e) x i) env H K):Sound P o env H K:=by
 simp only[step,yC] at h
 obtain⟨ei,hi1,hi2⟩:=wv hz
 have run:∀(w:World) (a:Act) (k:IntKind) (z:Int) (ad:Addr) (n c:Nat),a.eval x=.slice (some ad) n c→a.eval i=.int k z→0≤z→z<n→(execOp a.eval o).run P w=.ok (.value (.pointer (some (ad.add (z.toNat * P.cellsOf e))))) w:=by
  intro w a k z ad n c h1 h2 h3 h4
  simp[execOp,ho,h1,h2,Instr.indexAt,asIntOf,underlying,program,Sem.run,ht,pure,h3,h4,xq hi1,hi2]
 clear hi1 hi2
 generalize hE:P.cellsOf e=ez0 at h run hz
 split at h
 ·rename_i k z ez
  split at h
  ·rename_i esz' xs ex
   obtain⟨h3,h0,row,h1,h2⟩:=(xW _ _ _).1 h
   refine zG h2 λJ F w a G hok hops hrd=>?_
   have k1:=hops x (by simp[ho,Op.operands])
   have k2:=hops i (by simp[ho,Op.operands])
   rw[ex] at k1;rw[ez] at k2
   simp only[rep] at k1 k2
   obtain⟨A,n,c,q1,q2,_,q3⟩:=k1
   have hlt:z.toNat<xs.length:=by
    rcases Nat.lt_or_ge z.toNat xs.length with h|h
    ·exact h
    ·rw[List.getElem?_eq_none h] at h1;cases h1
   rcases q3 with q3|⟨b,o',q4,q5,q6⟩
   ·omega
   ·subst q4
    obtain⟨r1,r2⟩:=wy xs o' z.toNat row h1 q6
    refine⟨_,run w a k z _ n c q1 k2 h0 (by omega),?_⟩
    simp only[rep]
    exact⟨b,_,by rw[vW,h3],q5,r2⟩
  ·rename_i id zW lo hi ex
   obtain⟨ob,h1,h2⟩:=(yA _ _ _).1 h
   split at h2
   ·rename_i m ver' zF xs
    obtain⟨rfl,h2⟩:=h2
    obtain⟨h3,h4,h5,h6⟩:=(xW _ _ _).1 h2
    refine zG h6 λJ F w a G hok hops hrd=>?_
    have k1:=hops x (by simp[ho,Op.operands])
    have k2:=hops i (by simp[ho,Op.operands])
    rw[ex] at k1;rw[ez] at k2
    simp only[rep] at k1 k2
    obtain⟨s,A,n,c,q1,q2,q3,q4⟩:=k1
    have hG:G id=some (.vec m zW zF xs):=by rw[hrd id (by simp)];exact h1
    obtain⟨p1,p2,p3,p4,p5,-⟩:=Qe hok q1 hG
    obtain⟨t1,t2,t3,t4,t5,t6⟩:=q4 p2.symm
    rcases t6 with t6|⟨b,o',t6,t7⟩
    ·omega
    ·subst t7
     refine⟨_,run w a k z _ n c q2 k2 h4 (by omega),?_⟩
     simp only[rep]
     refine⟨s,_,q1,rfl,q3,λ_=>⟨b,o',t1,t6,by omega,?_⟩⟩
     rw[vW,p3,←h3,Nat.add_mul]
     simp only[Addr.mk.injEq,and_true,true_and]
     omega
   ·exact h2.elim
  ·exact h.elim
 ·exact h.elim
theorem zr5 {t e:TypeId} {n:Nat} {x i:Operand} (ht:P.underlying t=some (.array n e)) (hz:P.cellsOf e≠0) (ho:o.op=.indexAddr t x i) (h:step P seq (.zlX n (P.cellsOf e) x i) env H K):Sound P o env H K:=by
 simp only[step,yC] at h
 obtain⟨ei,hi1,hi2⟩:=wv hz
 split at h
 ·rename_i k z ez
  obtain⟨h0,h1,h⟩:=h
  have h':zaW (y0 env x) (z.toNat * P.cellsOf e) (λd=>K d H [] []):=by
   unfold zaW;split at h<;>simp_all
  obtain⟨d',hK,hr⟩:=zmQ h'
  refine zG hK λJ F w a G hok hops hrd=>?_
  obtain⟨ad,e1,k1⟩:=hr J F w _ (hops x (by simp[ho,Op.operands]))
  have k2:=hops i (by simp[ho,Op.operands])
  rw[ez] at k2
  simp only[rep] at k2
  refine⟨_,?_,k1⟩
  simp[execOp,ho,e1,k2,Instr.indexAt,Instr.sureAddr,asIntOf,underlying,program,Sem.run,ht,pure,h0,h1,xq hi1,hi2]
 ·exact h.elim
theorem zzn {args:Array Operand} {ts:Array TypeId} {x:Operand} {t e:TypeId} (ha:args.toList=[x]) (hts:ts.toList=[t]) (ht:P.underlying t=some (.slice e)) (ho:o.op=.call { callee:=.builtin .len,args,argTypes:=ts }) (h:step P seq (.len x) env H K):Sound P o env H K:=by
 have ea:args=#[x]:=Array.ext' (by simpa using ha)
 have et:ts=#[t]:=Array.ext' (by simpa using hts)
 subst ea et
 have run:∀(w:World) (a:Act) (A:Option Addr) (n c:Nat),a.eval x=.slice A n c→(execOp a.eval o).run P w=.ok (.value (.int .i64 n)) w:=by
  intro w a A n c h1
  simp[execOp,ho,resolve,invoke,builtin,Builtin.len_,h1,Sem.run,pure,underlying,program,ht,goInt]
 simp only[step,yC] at h
 split at h
 ·rename_i zF xs e1
  refine zG h λJ F w a G hok hops hrd=>?_
  have k1:=hops x (by simp[ho,Op.operands,Call.operands])
  rw[e1] at k1
  simp only[rep] at k1
  obtain⟨A,n,c,q1,rfl,_⟩:=k1
  exact⟨_,run w a A _ c q1,rfl⟩
 ·rename_i id zW lo hi e1
  obtain⟨ob,h1,h2⟩:=(yA _ _ _).1 h
  split at h2
  ·rename_i m ver' zF xs
   obtain⟨rfl,h2⟩:=h2
   refine zG h2 λJ F w a G hok hops hrd=>?_
   have k1:=hops x (by simp[ho,Op.operands,Call.operands])
   rw[e1] at k1
   simp only[rep] at k1
   obtain⟨s,A,n,c,q1,q2,q3,q4⟩:=k1
   have hG:G id=some (.vec m zW zF xs):=by rw[hrd id (by simp)];exact h1
   obtain⟨p1,p2,_⟩:=Qe hok q1 hG
   obtain⟨_,_,_,rfl,_⟩:=q4 p2.symm
   exact⟨_,run w a A _ c q2,rfl⟩
  ·exact h2.elim
 ·rename_i e1
  refine zG h λJ F w a G hok hops hrd=>?_
  have k1:=hops x (by simp[ho,Op.operands,Call.operands])
  rw[e1] at k1
  simp only[rep] at k1
  exact⟨_,run w a _ 0 0 k1,rfl⟩
 ·exact h.elim
theorem Za {env:Env} {x:Option Operand} {dflt:Nat} {K':Nat→Prop} (h:zed env x dflt K'):∃n,K' n ∧
  ∀(J:yK) (F:Nat→Prop) (w:World) (a:Act),(∀y∈x.toList,rep J F w (y0 env y) (a.eval y))→(x=none∧n=dflt)∨∃y k,x=some y∧a.eval y=.int k n:=by
 unfold zed at h
 cases x with
 | none=>exact⟨dflt,h,λJ F w a _=>.inl ⟨rfl,rfl⟩⟩
 | some y =>
  simp only[yC] at h
  split at h
  ·rename_i k i e
   refine⟨i.toNat,h.2,λJ F w a hy=>.inr ⟨y,k,rfl,?_⟩⟩
   have:=hy y (by simp)
   rw[e] at this
   simp only[rep] at this
   rw[this,Int.toNat_of_nonneg h.1]
  ·exact h.elim
theorem Vp {t e:TypeId} {i:TypeInfo} (ht:P.underlying t=some (.slice e)) (hi:P.info? e=some i) (A:Option Addr) (len cap l h:Nat) (lo hi':Option Value) (w:World)
  (h1:(lo=none∧l=0)∨∃k,lo=some (.int k l)) (h2:(hi'=none∧h=len)∨∃k,hi'=some (.int k h)) (hlh:l≤h) (hc:h≤cap) :
  (Instr.sliceAt t (.slice A len cap) lo hi' none).run P w=.ok (.slice (if cap=l then A else A.map (·.add (l*i.size))) (h-l) (cap-l)) w:=by
 have hb:(Instr.sliceBounds true len cap lo hi' none).run P w=.ok (l,h,cap) w:=by
  rcases h1 with⟨rfl,rfl⟩|⟨k,rfl⟩<;>rcases h2 with⟨rfl,rfl⟩|⟨k',rfl⟩ <;>
   simp[Instr.sliceBounds,Instr.sliceBound,asIntOf,pure,Sem.run,hlh,hc]
 simp[Instr.sliceAt,Instr.slice,underlying,program,Sem.run,ht,pure,hb,xq hi]
theorem vC {J:yK} {F:Nat→Prop} {w:World} {b zF o:Nat} {xs:List (List D)} (h:yd J F w b zF xs o) (l n:Nat):yd J F w b zF ((xs.take n).drop l) (o+l*zF):=by
 refine wX _ _ λj x hx=>?_
 have h1:xs[l+j]? = some x:=by
  rw[List.getElem?_drop,List.getElem?_take] at hx
  split at hx
  ·exact hx
  ·cases hx
 have:=wy xs o (l+j) x h1 h
 rwa [Nat.add_mul,←Nat.add_assoc] at this
theorem zAh {t e:TypeId} {x:Operand} {lo hi mx:Option Operand} (ht:P.underlying t=some (.slice e)) (hz:0<P.cellsOf e) (ho:o.op=.slice t x lo hi mx) (h:step P seq (.slc (P.cellsOf e) x lo hi mx) env H K):Sound P o env H K:=by
 simp only[step,yC] at h
 obtain⟨ei,hi1,hi2⟩:=wv (e:=e) (P:=P) (by omega)
 split at h
 ·rename_i esz' xs e1
  obtain⟨h3,h⟩:=(xW _ _ _).1 h
  obtain⟨n,h,hn⟩:=Za h
  obtain⟨l,⟨h4,h5,h6⟩,hl⟩:=Za h
  refine zG h6 λJ F w a G hok hops hrd=>?_
  have k1:=hops x (by simp[ho,Op.operands])
  rw[e1] at k1
  simp only[rep] at k1
  obtain⟨A,len,c,q1,q2,qc,q3⟩:=k1
  have hn':=hn J F w a λy hy=>hops y (by simp[ho,Op.operands];exact .inr (.inr (by simpa using hy)))
  have hl':=hl J F w a λy hy=>hops y (by simp[ho,Op.operands];exact .inr (.inl (by simpa using hy)))
  refine⟨.slice (if c=l then A else A.map (·.add (l*ei.size))) (n-l) (c-l),?_,?_⟩
  ·have:=Vp (P:=P) ht hi1 A len c l n (lo.map a.eval) (hi.map a.eval) w
    (by rcases hl' with⟨rfl,rfl⟩|⟨y,k,rfl,q⟩
        ·exact .inl ⟨rfl,rfl⟩
        ·exact .inr ⟨k,by simp[q]⟩)
    (by rcases hn' with⟨rfl,rfl⟩|⟨y,k,rfl,q⟩
        ·exact .inl ⟨rfl,q2.symm⟩
        ·exact .inr ⟨k,by simp[q]⟩) h4 (by omega)
   simp[execOp,ho,q1,this,Sem.run,pure]
  ·simp only[rep]
   refine⟨_,_,_,rfl,by simp[List.length_drop,List.length_take];omega,by omega,?_⟩
   rcases q3 with q3|⟨b,o',rfl,q5,q6⟩
   ·exact .inl (by omega)
   ·by_cases hcl:c=l
    ·exact .inl (by omega)
    ·rw[if_neg hcl]
     exact .inr ⟨b,_,by simp only[Option.map_some,vW,hi2,h3],q5,vC q6 l n⟩
 ·rename_i esz' xs m e1
  split at h
  ·exact h.elim
  rename_i hi'
  obtain⟨h3,h⟩:=(xW _ _ _).1 h
  obtain⟨n,h,hn⟩:=Za h
  obtain⟨l,h,hl⟩:=Za h
  obtain⟨mm,⟨h4,h5,h6,h7⟩,hm⟩:=Za h
  refine zG h7 λJ F w a G hok hops hrd=>?_
  have k1:=hops x (by simp[ho,Op.operands])
  rw[e1] at k1
  simp only[rep] at k1
  obtain⟨A,len,c,q1,q2,qc,q3⟩:=k1
  have hn':=hn J F w a λy hy=>hops y (by simp[ho,Op.operands] at hy ⊢;simp[hy])
  have hl':=hl J F w a λy hy=>hops y (by simp[ho,Op.operands] at hy ⊢;simp[hy])
  have hm':=hm J F w a λy hy=>hops y (by simp[ho,Op.operands] at hy ⊢;simp[hy])
  rcases hn' with⟨q,_⟩|⟨y1,kh,q,hv⟩
  ·cases q
  cases q
  rcases hm' with⟨q,_⟩|⟨y2,km,q,mv⟩
  ·cases q
  cases q
  refine⟨.slice (if mm=l then A else A.map (·.add (l*ei.size))) (n-l) (mm-l),?_,?_⟩
  ·have hb:(Instr.sliceBounds true len c (lo.map a.eval) (some (.int kh n)) (some (.int km mm))).run P w=.ok (l,n,mm) w:=by
    have hmc:mm≤c:=by omega
    rcases hl' with⟨rfl,rfl⟩|⟨y,k,rfl,q⟩
    ·simp[Instr.sliceBounds,Instr.sliceBound,asIntOf,pure,Sem.run,h5,hmc]
    ·simp[Instr.sliceBounds,Instr.sliceBound,asIntOf,pure,Sem.run,h4,h5,hmc,q]
   simp[execOp,ho,q1,hv,mv,Instr.sliceAt,Instr.slice,underlying,program,Sem.run,ht,pure,hb,xq hi1]
  ·simp only[rep]
   refine⟨_,_,_,rfl,by simp[List.length_drop,List.length_take];omega,by omega,?_⟩
   rcases q3 with q3|⟨b,o',rfl,q5,q6⟩
   ·exact .inl (by omega)
   ·by_cases hcl:mm=l
    ·exact .inl (by omega)
    ·rw[if_neg hcl]
     exact .inr ⟨b,_,by simp only[Option.map_some,vW,hi2,h3],q5,vC q6 l n⟩
 ·rename_i id zW p q e1
  obtain⟨ob,h1,h2⟩:=(yA _ _ _).1 h
  split at h2
  ·rename_i m ver' zF xs
   obtain⟨rfl,h2⟩:=h2
   obtain⟨h3,h⟩:=(xW _ _ _).1 h2
   obtain⟨n,h,hn⟩:=Za h
   obtain⟨l,⟨h4,h5,h6⟩,hl⟩:=Za h
   refine zG h6 λJ F w a G hok hops hrd=>?_
   have k1:=hops x (by simp[ho,Op.operands])
   rw[e1] at k1
   simp only[rep] at k1
   obtain⟨s,A,len,c,q1,q2,q3,q4⟩:=k1
   have hG:G id=some (.vec m zW zF xs):=by rw[hrd id (by simp)];exact h1
   obtain⟨p1,p2,p3,p4,p5,-⟩:=Qe hok q1 hG
   obtain⟨t1,t2,t3,t4,t5,t6⟩:=q4 p2.symm
   have T6:=Lib.hid t6
   clear t6
   have hn':=hn J F w a λy hy=>hops y (by simp[ho,Op.operands];exact .inr (.inr (by simpa using hy)))
   have hl':=hl J F w a λy hy=>hops y (by simp[ho,Op.operands];exact .inr (.inl (by simpa using hy)))
   refine⟨.slice (if c=l then A else A.map (·.add (l*ei.size))) (n-l) (c-l),?_,?_⟩
   ·have:=Vp (P:=P) ht hi1 A len c l n (lo.map a.eval) (hi.map a.eval) w
     (by rcases hl' with⟨rfl,rfl⟩|⟨y,k,rfl,q⟩
         ·exact .inl ⟨rfl,rfl⟩
         ·exact .inr ⟨k,by simp[q]⟩)
     (by rcases hn' with⟨rfl,rfl⟩|⟨y,k,rfl,q⟩
         ·exact .inl ⟨rfl,by omega⟩
         ·exact .inr ⟨k,by simp[q]⟩) h4 (by omega)
    simp[execOp,ho,q2,this,Sem.run,pure]
   ·simp only[rep]
    refine⟨s,_,_,_,q1,rfl,q3,λ_=>⟨t1,by omega,by omega,by omega,by omega,?_⟩⟩
    by_cases hcl:c=l
    ·exact .inl (by omega)
    ·rcases T6.out with t6|⟨b,o',t6,rfl⟩
     ·exact .inl (by omega)
     ·rw[if_neg hcl]
      refine .inr ⟨b,o',t6,?_⟩
      simp only[Option.map_some,vW,hi2,h3,p3,Nat.add_mul,Nat.add_assoc]
  ·exact h2.elim
 ·exact h.elim
theorem zx2 {t:TypeId} {x:Operand} {lo hi:Option Operand} (ht:P.underlying t=some .string) (ho:o.op=.slice t x lo hi none) (h:step P seq (.zkW x lo hi) env H K):Sound P o env H K:=by
 simp only[step,yC] at h
 split at h
 ·rename_i s e1
  obtain⟨n,h,hn⟩:=Za h
  obtain⟨l,⟨h4,h5,h6⟩,hl⟩:=Za h
  refine zG h6 λJ F w a G hok hops hrd=>?_
  have k1:=hops x (by simp[ho,Op.operands])
  rw[e1] at k1
  simp only[rep] at k1
  have hn':=hn J F w a λy hy=>hops y (by simp[ho,Op.operands];exact .inr (.inr (by simpa using hy)))
  have hl':=hl J F w a λy hy=>hops y (by simp[ho,Op.operands];exact .inr (.inl (by simpa using hy)))
  refine⟨.string (s.extract l n),?_,by simp only[rep]⟩
  have hb:(Instr.sliceBounds false s.size s.size (lo.map a.eval) (hi.map a.eval) none).run P w=.ok (l,n,s.size) w:=by
   rcases hl' with⟨rfl,rfl⟩|⟨y,k,rfl,q⟩<;>rcases hn' with⟨rfl,rfl⟩|⟨y',k',rfl,q'⟩ <;>
    simp[Instr.sliceBounds,Instr.sliceBound,asIntOf,pure,Sem.run, *]
  simp[execOp,ho,k1,Instr.sliceAt,Instr.slice,underlying,program,Sem.run,ht,pure,hb]
 ·exact h.elim
theorem zaQ {J:yK} {F:Nat→Prop} {w:World} {ds:List D} {vs:List Value} (h:zY J F w ds vs) (n:Nat):zY J F w (ds.take n) (vs.take n):=by
 have hl:=xh _ _ h
 refine J9 _ _ (by simp[hl]) λj d v hd hv=>?_
 rw[List.getElem?_take] at hd hv
 split at hd
 ·rename_i hj
  rw[if_pos hj] at hv
  obtain⟨v',h1,h2⟩:=vl _ _ _ _ hd h
  rw[hv] at h1;cases h1
  exact h2
 ·cases hd
theorem zaY {J:yK} {F:Nat→Prop} {w:World} {ds:List D} {vs:List Value} (h:zY J F w ds vs) (n:Nat):zY J F w (ds.drop n) (vs.drop n):=by
 have hl:=xh _ _ h
 refine J9 _ _ (by simp[hl]) λj d v hd hv=>?_
 rw[List.getElem?_drop] at hd hv
 obtain⟨v',h1,h2⟩:=vl _ _ _ _ hd h
 rw[hv] at h1;cases h1
 exact h2
theorem ztd {s:TypeId} {x:Operand} {f:Nat} {fs:Array Field} {fd:Field} {ag:Bool} (hs:P.underlying s=some (.struct fs)) (hf:fs[f]? = some fd) (hag:UZ P fd.type=some ag) (ho:o.op=.field s x f) (h:step P seq (.field fd.offset (P.cellsOf fd.type) ag x) env H K):Sound P o env H K:=by
 simp only[step,yC] at h
 obtain⟨i,hi1,hi2⟩:=VH hag
 split at h
 ·rename_i cs e1
  cases ag with
  | true =>
   simp only at h
   obtain⟨h1,h2⟩:=(ZK _ _ _).1 h
   obtain⟨h3,h4⟩:=(ZS _ _ _).1 h2
   refine zG h4 λJ F w a G hok hops hrd=>?_
   have k1:=hops x (by simp[ho,Op.operands])
   rw[e1] at k1
   simp only[rep] at k1
   obtain⟨vs,q1,q2⟩:=k1
   refine⟨.agg ((vs.drop fd.offset).take (P.cellsOf fd.type)).toArray,?_,by simp only[rep];exact⟨_,rfl,zaQ (zaY q2 _) _⟩⟩
   have e2:vs.toArray.extract fd.offset (fd.offset+P.cellsOf fd.type)=((vs.drop fd.offset).take (P.cellsOf fd.type)).toArray:=by
    apply Array.ext'
    rw[List.extract_toArray]
    simp[List.extract_eq_take_drop]
   simp[execOp,ho,q1,Instr.field,asAgg,part,YU hag,xq hi1,hi2,underlying,program,Sem.run,hs,hf,pure,e2]
  | false =>
   simp only at h
   obtain⟨c,h1,h2⟩:=(ZY _ _ _).1 h
   refine zG h2 λJ F w a G hok hops hrd=>?_
   have k1:=hops x (by simp[ho,Op.operands])
   rw[e1] at k1
   simp only[rep] at k1
   obtain⟨vs,q1,q2⟩:=k1
   obtain⟨v,q3,q4⟩:=vl _ _ _ _ h1 q2
   refine⟨v,?_,q4⟩
   simp[execOp,ho,q1,Instr.field,asAgg,part,YU hag,underlying,program,Sem.run,hs,hf,pure,q3]
 ·exact h.elim
theorem zxu {t e:TypeId} {n:Nat} {x i:Operand} {ag:Bool} (ht:P.underlying t=some (.array n e)) (hag:UZ P e=some ag) (ho:o.op=.index t x i) (h:step P seq (.ztx n (P.cellsOf e) ag x i) env H K):Sound P o env H K:=by
 simp only[step,yC] at h
 obtain⟨ie,hi1,hi2⟩:=VH hag
 split at h
 ·rename_i k z e2
  split at h
  ·rename_i cs e1
   obtain⟨h0,hz,h⟩:=h
   cases ag with
   | true =>
    simp only at h
    obtain⟨h1,h2⟩:=(ZK _ _ _).1 h
    obtain⟨h3,h4⟩:=(ZS _ _ _).1 h2
    refine zG h4 λJ F w a G hok hops hrd=>?_
    have k1:=hops x (by simp[ho,Op.operands])
    have k2:=hops i (by simp[ho,Op.operands])
    rw[e1] at k1
    rw[e2] at k2
    simp only[rep] at k1 k2
    obtain⟨vs,q1,q2⟩:=k1
    refine⟨.agg ((vs.drop (z.toNat * P.cellsOf e)).take (P.cellsOf e)).toArray,?_,by simp only[rep];exact⟨_,rfl,zaQ (zaY q2 _) _⟩⟩
    have e3:vs.toArray.extract (z.toNat * P.cellsOf e) (z.toNat * P.cellsOf e+P.cellsOf e)=((vs.drop (z.toNat * P.cellsOf e)).take (P.cellsOf e)).toArray:=by
     apply Array.ext'
     rw[List.extract_toArray]
     simp[List.extract_eq_take_drop]
    simp[execOp,ho,q1,k2,Instr.index,asIntOf,part,YU hag,xq hi1,hi2,underlying,program,Sem.run,ht,pure,e3,h0,hz]
   | false =>
    simp only at h
    obtain⟨c,h1,h2⟩:=h
    refine zG h2 λJ F w a G hok hops hrd=>?_
    have k1:=hops x (by simp[ho,Op.operands])
    have k2:=hops i (by simp[ho,Op.operands])
    rw[e1] at k1
    rw[e2] at k2
    simp only[rep] at k1 k2
    obtain⟨vs,q1,q2⟩:=k1
    obtain⟨v,q3,q4⟩:=vl _ _ _ _ h1 q2
    refine⟨v,?_,q4⟩
    simp[execOp,ho,q1,k2,Instr.index,asIntOf,part,YU hag,xq hi1,hi2,underlying,program,Sem.run,ht,pure,q3,h0,hz]
  ·exact h.elim
 ·exact h.elim
end
end
section
open Go.RowKit
theorem xE {J J':yK} {F F':Nat→Prop} {w w':World} (hJ:J.le J') (hF:∀b,F b→F' b) (hw:∀b,F b→w'.heap[b]? = w.heap[b]?) {s:Site} {o:zf} (hb:∀b,s.uB=some b→w'.heap[b]? = w.heap[b]?) (h:Yl J F w s o):Yl J' F' w' s o:=by
 cases o with
 | row m cs =>
  obtain⟨h1,h2,h3,h4,h5,b,vals,te,h6,h7,h8,h9,h10⟩:=h
  have hbb:w'.heap[b]? = w.heap[b]?:=hb b (by simp[Site.uB,h1,h6])
  exact⟨h1,h2,h3,h4,h5,b,vals,te,h6,by rw[hbb];exact h7,h8,uR hJ hF hw b (vE hbb) cs 0 h9,λq=>hF b (h10 q)⟩
 | vec m zW zF xs =>
  obtain⟨h1,h2,h3,h4,h5,h6⟩:=h
  refine⟨h1,h2,h3,h4,h5,?_⟩
  by_cases hz:s.cap=0
  ·exact .inl hz
  ·obtain⟨b,o,vals,te,k1,k2,k3,k4,k5⟩:=h6.resolve_left hz
   refine .inr ?_
   have hbb:w'.heap[b]? = w.heap[b]?:=hb b (by simp[Site.uB,hz,k1])
   exact⟨b,o,vals,te,k1,by rw[hbb];exact k2,k3,YL hJ hF hw b zF (vE hbb) xs o k4,λq=>hF b (k5 q)⟩
 | xL m I =>
  obtain⟨h1,b,es,clock,h2,h3,h4⟩:=h
  have hbb:w'.heap[b]? = w.heap[b]?:=hb b (by simp[Site.uB,h1,h2])
  exact⟨h1,b,es,clock,h2,by rw[hbb];exact h3,h4⟩
theorem yL.update {J J':yK} {F:Nat→Prop} {w w':World} {G G':Nat→Option zf} (h:yL J F w G) (id:Nat) (s':Site) (o':zf)
  (hJ':∀i,J' i=if i=id then some s' else J i) (hG:∀i,G' i=if i=id then some o' else G i) (hle:J.le J')
  (hF:∀b,F b→w'.heap[b]? = w.heap[b]?) (hsz:w.heap.size≤w'.heap.size)
  (hold:∀i s b,i≠id→J i=some s→s.uB=some b→w'.heap[b]? = w.heap[b]?)
  (hblk:∀b,s'.uB=some b→w.heap.size≤b∨∃s,J id=some s∧s.uB=some b)
  (hlt:∀i s b,J i=some s→s.uB=some b→b<w.heap.size)
  (hmut:∀b,s'.uB=some b→o'.mut=true→¬F b)
  (hok:Yl J' F w' s' o'):yL J' F w' G' where
 obj i s hi:=by
  rw[hJ'] at hi
  by_cases e:i=id
  ·subst e
   rw[if_pos rfl] at hi
   cases hi
   exact⟨o',by rw[hG,if_pos rfl],hok⟩
  ·rw[if_neg e] at hi
   obtain⟨o,h1,h2⟩:=h.obj i s hi
   exact⟨o,by rw[hG,if_neg e];exact h1,xE hle (λ_ h=>h) hF (λb hb=>hold i s b e hi hb) h2⟩
 one i i' s1 s2 b h1 h2 h3 h4:=by
  rw[hJ'] at h1 h2
  by_cases e:i=id<;>by_cases e':i'=id
  ·rw[e,e']
  ·rw[if_pos e] at h1;rw[if_neg e'] at h2
   cases h1
   rcases hblk b h3 with q|⟨s,q1,q2⟩
   ·have:=hlt i' s2 b h2 h4;omega
   ·rw[e];exact h.one id i' s s2 b q1 h2 q2 h4
  ·rw[if_neg e] at h1;rw[if_pos e'] at h2
   cases h2
   rcases hblk b h4 with q|⟨s,q1,q2⟩
   ·have:=hlt i s1 b h1 h3;omega
   ·rw[e'];exact h.one i id s1 s b h1 q1 h3 q2
  ·rw[if_neg e] at h1;rw[if_neg e'] at h2
   exact h.one i i' s1 s2 b h1 h2 h3 h4
 apart i s b o hi hb hg hm:=by
  rw[hJ'] at hi;rw[hG] at hg
  by_cases e:i=id
  ·rw[if_pos e] at hi hg
   cases hi;cases hg
   exact hmut b hb hm
  ·rw[if_neg e] at hi hg
   exact h.apart i s b o hi hb hg hm
 lt:=h.lt.mono (λ_ q=>q) hF λb hb=>Nat.lt_of_lt_of_le (h.lt b hb) hsz
theorem yL.xd {J:yK} {F:Nat→Prop} {w:World} {G:Nat→Option zf} (h:yL J F w G) {i:Nat} {s:Site} {b:Nat} (hi:J i=some s) (hb:s.uB=some b):b<w.heap.size:=by
 obtain⟨o,h1,h2⟩:=h.obj i s hi
 have key:∀x:Nat,∀ob,w.heap[x]? = some ob→x<w.heap.size:=λx ob hx=>by
  rcases Nat.lt_or_ge x w.heap.size with h|h
  ·exact h
  ·rw[Array.getElem?_eq_none h] at hx;cases hx
 cases o with
 | row m cs =>
  obtain⟨k1,_,_,_,_,b',vals,te,k6,k7,_⟩:=h2
  simp[Site.uB,k1,k6] at hb
  exact hb▸key _ _ k7
 | vec m zW zF xs =>
  obtain⟨k1,_,_,_,_,k6⟩:=h2
  rcases k6 with k6|⟨b',o,vals,te,q1,q2,_⟩
  ·simp[Site.uB,k1,k6] at hb
  ·unfold Site.uB at hb
   split at hb
   ·cases hb
   ·simp[q1] at hb
    exact hb▸key _ _ q2
 | xL m I =>
  obtain⟨k1,b',es,clock,q1,q2,_⟩:=h2
  simp[Site.uB,k1,q1] at hb
  exact hb▸key _ _ q2
theorem wk (w:World) (o:Obj) {b:Nat} (h:b<w.heap.size):(w.alloc o).heap[b]? = w.heap[b]?:=heap_alloc_old w o h
theorem yL.zqY {J:yK} {F:Nat→Prop} {w:World} {G:Nat→Option zf} (h:yL J F w G) (id:Nat) (hid:J id=none) (s':Site) (o':zf) (ob:Obj) (had:s'.ad=some ⟨w.heap.size,0,none⟩)
  (hok:Yl (λi=>if i=id then some s' else J i) F (w.alloc ob) s' o') :
  yL (λi=>if i=id then some s' else J i) F (w.alloc ob) (λi=>if i=id then some o' else G i) ∧
   Ext J F w (λi=>if i=id then some s' else J i) F (w.alloc ob):=by
 have hle:J.le (λi=>if i=id then some s' else J i):=λi s hi=>by
  have e:i≠id:=λe=>by rw[e,hid] at hi;cases hi
  exact⟨s,by simp[e,hi],Nat.le_refl _,λ_=>rfl⟩
 have hbs:∀b,s'.uB=some b→b=w.heap.size:=λb hb=>by
  unfold Site.uB at hb
  split at hb
  ·cases hb
  ·simpa [had] using hb.symm
 refine⟨h.update id s' o' (λ_=>rfl) (λ_=>rfl) hle (λb hb=>wk w _ (h.lt b hb)) (by simp) (λi s b _ hi hb=>wk w _ (h.xd hi hb)) (λb hb=>.inl (by rw[hbs b hb];exact Nat.le_refl _)) (λi s b hi hb=>h.xd hi hb) (λb hb _ hF=>?_) hok,?_⟩
 ·have:=h.lt b hF
  rw[hbs b hb] at this;omega
 ·exact⟨rfl,rfl,rfl,by simp,λb hb _=>wk w _ hb,λb hb=>wk w _ (h.lt b hb),hle,λ_ h=>h,λb ⟨i,s,hi,hb⟩=>by
   dsimp only at hi
   by_cases e:i=id
   ·rw[if_pos e] at hi;cases hi
    exact .inr (by rw[hbs b hb];exact Nat.le_refl _)
   ·rw[if_neg e] at hi
    exact .inl ⟨i,s,hi,hb⟩,λb hb=>.inl hb⟩
theorem yL.alloc {J:yK} {F:Nat→Prop} {w:World} {G:Nat→Option zf} (h:yL J F w G) (id:Nat) (hid:J id=none) (s':Site) (o':zf) (vals:Array Value) (te:TypeId) (had:s'.ad=some ⟨w.heap.size,0,none⟩)
  (hok:Yl (λi=>if i=id then some s' else J i) F (w.alloc (.cells vals te)) s' o') :
  yL (λi=>if i=id then some s' else J i) F (w.alloc (.cells vals te)) (λi=>if i=id then some o' else G i) ∧
   Ext J F w (λi=>if i=id then some s' else J i) F (w.alloc (.cells vals te)):=h.zqY id hid s' o' _ had hok
section
variable {J:yK} {F:Nat→Prop} {w:World}
theorem zhN {J':yK} {cs:List D} {vs:List Value} (te:TypeId) (hJ:J.le J') (hlt:∀b,F b→b<w.heap.size) (h1:∀v∈vs,yl v=true) (h:zY J F w cs vs) :
  zN J' F (w.alloc (.cells vs.toArray te)) w.heap.size cs 0:=by
 have h':zY J' F (w.alloc (.cells vs.toArray te)) cs vs:=ZC hJ (λ_ h=>h) (λb hb=>wk w _ (hlt b hb)) _ _ h
 refine xg _ _ λj c hc=>?_
 obtain⟨v,h3,h2⟩:=vl _ _ _ _ hc h'
 exact⟨v,by simp[h3],h1 v (List.mem_of_getElem? h3),h2⟩
end
theorem zfy {J:yK} {F:Nat→Prop} {w:World} {G:Nat→Option zf} (h:yL J F w G) (id:Nat) (hid:J id=none) {cs:List D} {vs:List Value} (te:TypeId) (h0:∀v∈vs,yl v=true) (hr:zY J F w cs vs) :
  ∃J',yL J' F (w.alloc (.cells vs.toArray te)) (λi=>if i=id then some (.row true cs) else G i)∧Ext J F w J' F (w.alloc (.cells vs.toArray te)) ∧
   (∀i,i≠id→J' i=J i)∧rep J' F (w.alloc (.cells vs.toArray te)) (.loc id 0) (.pointer (some ⟨w.heap.size,0,none⟩)):=by
 have hle:J.le (λi=>if i=id then some ⟨true,0,some ⟨w.heap.size,0,none⟩,1,cs.length,cs.length⟩ else J i):=λi s hi=>by
  have e:i≠id:=λe=>by rw[e,hid] at hi;cases hi
  exact⟨s,by simp[e,hi],Nat.le_refl _,λ_=>rfl⟩
 obtain⟨h1,h2⟩:=h.alloc id hid ⟨true,0,some ⟨w.heap.size,0,none⟩,1,cs.length,cs.length⟩ (.row true cs) vs.toArray te rfl
  ⟨rfl,rfl,rfl,rfl,rfl,w.heap.size,vs.toArray,te,rfl,heap_alloc_new w _,by simp[xh _ _ hr],zhN te hle h.lt h0 hr,λq=>by cases q⟩
 refine⟨_,h1,h2,λi hi=>by simp[hi],?_⟩
 simp only[rep]
 exact⟨_,w.heap.size,by simp;rfl,rfl,rfl,rfl⟩
section
variable {P:Program} {seq:Bool} {o:Oper} {env:Env} {H:List zf} {K:QH}
theorem zb6 (G:Nat→Option zf) (H2:List zf) (id:Nat) (ob:zf) (h:H2[id]? = some ob):Q1 G [id] H2=λi=>if i=id then some ob else G i:=by
 funext i
 simp only[Q1,List.mem_singleton]
 split
 ·rename_i e;rw[e,h]
 ·rfl
theorem YX {ob:zf} {d:D} {rd:List Nat} (hK:K d (H++[ob]) rd [H.length])
  (h:∀(J:yK) (F:Nat→Prop) (w:World) (a:Act) (G:Nat→Option zf),yL J F w G→(∀x∈o.op.operands,rep J F w (y0 env x) (a.eval x))→(∀id∈rd,G id=H[id]?)→J H.length=none →
   ∃v w' J' F',(execOp a.eval o).run P w=.ok (.value v) w'∧rep J' F' w' d v∧yL J' F' w' (λi=>if i=H.length then some ob else G i)∧Ext J F w J' F' w'∧(∀i,i≠H.length→J' i=J i)):Sound P o env H K:=by
 refine⟨d,H++[ob],rd,[H.length],⟨λid hid=>?_,by simp,λid hid=>by simp at hid;simp[hid],λJ F w a G hok hops hrd hnew K Q hK=>?_⟩,hK⟩
 ·simp at hid
  rcases Nat.lt_or_ge id H.length with hl|hl
  ·rw[List.getElem?_append_left hl]
  ·rw[List.getElem?_eq_none (by simp;omega),List.getElem?_eq_none hl]
 ·obtain⟨v,w',J',F',h1,h2,h3,h4,h5⟩:=h J F w a G hok hops (λid hid=>hrd id (.inl hid)) (hnew _ (Nat.le_refl _) (by simp))
  unfold Oper.wp
  rw[h1,Oper.upon_value]
  refine hK v w' J' F' h2 ?_ h4 λid hid hn=>?_
  ·rw[zb6 G _ H.length ob (by simp)];exact h3
  ·rw[h5 id (by simpa using hn)];exact hid
theorem ZV {t:TypeId} {z:Value} {w:World} (h:(P.info? t).bind (·.zero)=some z):(zeroValue t).run P w=.ok z w:=by
 cases e:P.info? t with
 | none=>rw[e] at h;cases h
 | some i =>
  rw[e] at h
  simp at h
  simp[zeroValue,typeInfo,program,Sem.run,e,h,pure]
theorem Up {J:yK} {F:Nat→Prop} {w:World}:∀vs:List Value,zY J F w (vs.map .sc) vs
 | []=>by simp only[List.map_nil,zY]
 | v::r=>by simp only[List.map_cons,zY];exact⟨v,r,rfl,by simp only[rep],Up r⟩
theorem ztN {t:TypeId} {z:Value} (hz:(P.info? t).bind (·.zero)=some z) (hone:z.cells.toList.all yl=true) (ho:o.op=.alloc t) (h:step P seq (.alloc z.cells.toList) env H K):Sound P o env H K:=by
 simp only[step,zht,vy] at h
 refine YX h λJ F w a G hok hops hrd hn=>?_
 obtain⟨J',h1,h2,h3,h4⟩:=zfy hok H.length hn t (λv hv=>List.all_eq_true.1 hone v hv) (Up z.cells.toList)
 refine⟨_,_,J',F,?_,h4,h1,h2,h3⟩
 simp[execOp,ho,Instr.alloc,ZV hz,newVar,newRow,newObj,Sem.run,pure]
theorem YW {J:yK} {F:Nat→Prop} {w:World} {d:D} {v:Value} (hs:storable d=true) (h:rep J F w d v):zY J F w d.cells v.cells.toList∧∀u∈v.cells.toList,yl u=true:=by
 have one:Qi d=true→(∀cs,d≠.agg cs)→zY J F w d.cells v.cells.toList∧∀u∈v.cells.toList,yl u=true:=by
  intro h1 h2
  have h3:=zdr h1 h
  have e1:v.cells=#[v]:=by cases v<;>first|rfl|simp[yl] at h3
  have e2:d.cells=[d]:=by cases d<;>first|rfl|exact absurd rfl (h2 _)
  rw[e1,e2]
  refine⟨by simp only[zY];exact⟨v,[],rfl,h,rfl⟩,λu hu=>?_⟩
  simp at hu;rw[hu];exact h3
 cases d with
 | agg cs =>
  simp only[rep] at h
  obtain⟨vs,rfl,k⟩:=h
  refine⟨by simpa [D.cells,Value.cells] using k,λu hu=>?_⟩
  simp[Value.cells] at hu
  obtain⟨j,hj,e⟩:=List.mem_iff_getElem.1 hu
  have hj':j<cs.length:=by rw[←xh _ _ k];exact hj
  obtain⟨u',q1,q2⟩:=vl _ _ _ _ (List.getElem?_eq_getElem hj') k
  rw[List.getElem?_eq_getElem hj,e] at q1
  cases q1
  exact zdr (zd4 cs hs _ (List.getElem_mem hj')) q2
 | _=>exact one hs (by intro cs h;cases h)
theorem zyZ {t:TypeId} {x:Operand} (ho:o.op=.box t x) (h:step P seq (.box x) env H K):Sound P o env H K:=by
 simp only[step,yC,W6,vy] at h
 obtain⟨h0,h⟩:=h
 refine YX h λJ F w a G hok hops hrd hn=>?_
 obtain⟨k1,k0⟩:=YW h0 (hops x (by simp[ho,Op.operands]))
 obtain⟨J',h1,h2,h3,h4⟩:=zfy hok H.length hn t k0 k1
 refine⟨_,_,J',F,?_,h4,h1,h2,h3⟩
 simp[execOp,ho,Instr.box,newVar,newRow,newObj,Sem.run,pure]
end
end
section
open Go.RowKit
theorem zic (off:Nat):∀(l:List Value) (n:Nat) (cells:Array Value),off+n+l.length≤cells.size →
  ((l.zipIdx n).foldl (λ(cs:Array Value) (p:Value × Nat)=>cs.setIfInBounds (off+p.2) p.1) cells).size=cells.size ∧
  ∀i,((l.zipIdx n).foldl (λ(cs:Array Value) (p:Value × Nat)=>cs.setIfInBounds (off+p.2) p.1) cells)[i]? = if off+n≤i∧i<off+n+l.length then l[i-(off+n)]? else cells[i]?
 | [],n,cells,_=>⟨rfl,λi=>by simp;intro h1 h2;omega⟩
 | c::r,n,cells,h=>by
  simp only[List.zipIdx_cons,List.foldl_cons]
  simp only[List.length_cons] at h
  obtain⟨k1,k2⟩:=zic off r (n+1) (cells.setIfInBounds (off+n) c) (by simp;omega)
  refine⟨by rw[k1];simp,λi=>?_⟩
  rw[k2]
  by_cases h1:i=off+n
  ·subst h1
   rw[if_neg (by omega),if_pos (by simp)]
   simp[Array.getElem?_setIfInBounds,show off+n<cells.size by omega]
  ·by_cases h2:off+(n+1)≤i∧i<off+(n+1)+r.length
   ·rw[if_pos h2,if_pos (by simp;omega),show i-(off+n)=i-(off+(n+1))+1 by omega,List.getElem?_cons_succ]
   ·rw[if_neg h2,if_neg (by simp;omega),Array.getElem?_setIfInBounds_ne (by omega)]
theorem X5 (place:Nat→Option (Nat × Nat)) (cells:Array Value) (i:Nat) (v:Value) (rest:List (Nat × Value)) (off:Nat) (hp:place i=some (off,v.cells.size)) (hb:off+v.cells.size≤cells.size) :
  ∃cells',Instr.fill place cells ((i,v)::rest)=Instr.fill place cells' rest∧cells'.size=cells.size∧∀j,cells'[j]? = if off≤j∧j<off+v.cells.size then v.cells[j-off]? else cells[j]?:=by
 obtain⟨h1,h2⟩:=zic off v.cells.toList 0 cells (by simpa using hb)
 refine⟨(v.cells.toList.zipIdx 0).foldl (λ(cs:Array Value) (p:Value × Nat)=>cs.setIfInBounds (off+p.2) p.1) cells,?_,h1,λj=>by simpa using h2 j⟩
 simp only[Instr.fill,hp]
 rw[if_neg (by simp;omega)]
 congr 1
 rw[←Array.foldl_toList,Array.toList_zipIdx]
theorem YN:∀(l:List (Nat × Operand)) (k:Nat) (xs:List Operand),YK k l=some xs→l=(xs.zipIdx k).map λp=>(p.2,p.1)
 | [],k,xs,h=>by simp[YK] at h;subst h;rfl
 | (i,x)::r,k,xs,h=>by
  simp only[YK] at h
  split at h
  ·rename_i e
   cases e2:YK (k+1) r with
   | none=>rw[e2] at h;cases h
   | some ys =>
    rw[e2] at h
    simp at h
    subst h;subst e
    rw[YN r (i+1) ys e2]
    simp
  ·cases h
theorem zei (zF:Nat):∀(vs:List Value) (k:Nat) (cells:Array Value),(∀v∈vs,v.cells.size=zF)→(k+vs.length)*zF≤cells.size →
  ∃cells',Instr.fill (λi=>some (i*zF,zF)) cells ((vs.zipIdx k).map λp=>(p.2,p.1))=some cells'∧cells'.size=cells.size∧(∀j,j<k*zF→cells'[j]? = cells[j]?) ∧
   ∀i v j c,vs[i]? = some v→v.cells[j]? = some c→cells'[(k+i)*zF+j]? = some c
 | [],k,cells,_,_=>⟨cells,rfl,rfl,λ_ _=>rfl,λi v j c h=>by simp at h⟩
 | v::r,k,cells,hv,hb=>by
  simp only[List.zipIdx_cons,List.map_cons]
  have hs:v.cells.size=zF:=hv v (by simp)
  simp only[List.length_cons] at hb
  have hm:(k+(r.length+1))*zF=k*zF+zF+r.length*zF:=by rw[Nat.add_mul,Nat.add_mul];omega
  obtain⟨c1,e1,e2,e3⟩:=X5 (λi=>some (i*zF,zF)) cells k v ((r.zipIdx (k+1)).map λp=>(p.2,p.1)) (k*zF) (by rw[hs]) (by omega)
  obtain⟨c2,f1,f2,f3,f4⟩:=zei zF r (k+1) c1 (λu hu=>hv u (by simp[hu])) (by rw[e2];rw[show k+1+r.length=k+(r.length+1) by omega];exact hb)
  refine⟨c2,by rw[e1];exact f1,by rw[f2,e2],λj hj=>?_,λi u j c hi hc=>?_⟩
  ·rw[f3 j (by rw[Nat.add_mul];omega),e3,if_neg (by omega)]
  ·cases i with
   | zero =>
    simp at hi;subst hi
    have hj:j<v.cells.size:=by
     rcases Nat.lt_or_ge j v.cells.size with h|h
     ·exact h
     ·rw[Array.getElem?_eq_none h] at hc;cases hc
    rw[Nat.add_zero,f3 _ (by rw[Nat.add_mul];omega),e3,if_pos (by omega),show k*zF+j-k*zF=j by omega]
    exact hc
   | succ i =>
    have:=f4 i u j c (by simpa using hi) hc
    rwa [show k+1+i=k+(i+1) by omega] at this
theorem zaB {J:yK} {F:Nat→Prop} {w:World} {G:Nat→Option zf} (h:yL J F w G) (id:Nat) (hid:J id=none) {zF cap:Nat} {xs:List (List D)} {vals:Array Value} (te:TypeId)
  (hlen:xs.length≤cap) (hsz:cap*zF≤vals.size) (hx:∀(j:Nat) (x:List D),xs[j]? = some x→x.length=zF∧∀(k:Nat) (c:D),x[k]? = some c→∃u,vals[j*zF+k]? = some u∧yl u=true∧rep J F w c u) :
  ∃J',yL J' F (w.alloc (.cells vals te)) (λi=>if i=id then some (.vec true 0 zF xs) else G i)∧Ext J F w J' F (w.alloc (.cells vals te)) ∧
   (∀i,i≠id→J' i=J i)∧rep J' F (w.alloc (.cells vals te)) (.own id 0 0 xs.length) (.slice (some ⟨w.heap.size,0,none⟩) xs.length cap):=by
 have hle:J.le (λi=>if i=id then some ⟨false,0,some ⟨w.heap.size,0,none⟩,zF,cap,xs.length⟩ else J i):=λi s hi=>by
  have e:i≠id:=λe=>by rw[e,hid] at hi;cases hi
  exact⟨s,by simp[e,hi],Nat.le_refl _,λ_=>rfl⟩
 have hrows:yd (λi=>if i=id then some ⟨false,0,some ⟨w.heap.size,0,none⟩,zF,cap,xs.length⟩ else J i) F (w.alloc (.cells vals te)) w.heap.size zF xs 0:=by
  refine wX _ _ λj x hj=>?_
  obtain⟨k1,k2⟩:=hx j x hj
  refine⟨k1,xg _ _ λk c hc=>?_⟩
  obtain⟨u,q1,q0,q2⟩:=k2 k c hc
  exact⟨u,by simp[q1],q0,yE hle (λ_ h=>h) (λb hb=>wk w _ (h.lt b hb)) _ _ q2⟩
 obtain⟨h1,h2⟩:=h.alloc id hid ⟨false,0,some ⟨w.heap.size,0,none⟩,zF,cap,xs.length⟩ (.vec true 0 zF xs) vals te rfl
  ⟨rfl,rfl,rfl,rfl,hlen,.inr ⟨w.heap.size,0,vals,te,rfl,heap_alloc_new w _,by simpa using hsz,hrows,λq=>by cases q⟩⟩
 refine⟨_,h1,h2,λi hi=>by simp[hi],?_⟩
 simp only[rep]
 exact⟨_,_,_,_,by simp;rfl,rfl,Nat.le_refl _,λ_=>⟨rfl,Nat.zero_le _,Nat.le_refl _,by simp,by simp,.inr ⟨w.heap.size,0,rfl,by simp⟩⟩⟩
section
variable {P:Program} {seq:Bool} {o:Oper} {env:Env} {H:List zf} {K:QH}
theorem zcA (zF:Nat):∀(xs:List Operand) (K':List (List D)→Prop),zmg env zF xs K'→(∀x∈xs,storable (y0 env x)=true∧zF=(y0 env x).cells.length)∧K' (xs.map λx=>(y0 env x).cells)
 | [],K',h=>⟨(λ_ h=>by cases h),h⟩
 | x::r,K',h=>by
  simp only[zmg,yC,W6,xW] at h
  obtain⟨h1,h2,h3⟩:=h
  obtain⟨h4,h5⟩:=zcA zF r _ h3
  refine⟨λy hy=>?_,h5⟩
  rcases List.mem_cons.1 hy with rfl|hy
  ·exact⟨h1,h2⟩
  ·exact h4 y hy
theorem zqE (J:yK) (F:Nat→Prop) (w:World) (z:Value):rep J F w (lift z) z:=by
 unfold lift
 split
 ·rename_i cs
  simp only[rep]
  exact⟨cs.toList,rfl,Up _⟩
 ·simp only[rep]
theorem zg3 {z:Value} {zF:Nat} (f:Operand→Value) (hz:f (.const z)=z):∀(m k:Nat) (l:List (Nat × Operand)) (xs:List Operand) (cells:Array Value),xZ z k m l=some xs→(∀x∈xs,(f x).cells.size=zF)→(k+m)*zF≤cells.size →
  (∀i j,k≤i→i<k+m→j<zF→z.cells.size=zF→cells[i*zF+j]? = z.cells[j]?) →
  xs.length=m∧(∀x∈xs,x=.const z∨∃i,(i,x)∈l)∧Instr.fill (λi=>some (i*zF,zF)) cells (l.map λp=>(p.1,f p.2))=Instr.fill (λi=>some (i*zF,zF)) cells (((xs.map f).zipIdx k).map λp=>(p.2,p.1))
 | 0,k,[],xs,cells,h,_,_,_=>by simp[xZ] at h;subst h;exact⟨rfl,by simp,rfl⟩
 | 0,k,_::_,xs,cells,h,_,_,_=>by simp[xZ] at h
 | m+1,k,l,xs,cells,h,hs,hb,hc=>by
  have hm:(k+(m+1))*zF=k*zF+zF+m*zF:=by rw[Nat.add_mul,Nat.add_mul];omega
  have hk1:(k+1)*zF=k*zF+zF:=by rw[Nat.add_mul];omega
  have zero:∀ys,xZ z (k+1) m l=some ys→xs=.const z::ys→xs.length=m+1∧(∀x∈xs,x=.const z∨∃i,(i,x)∈l)∧Instr.fill (λi=>some (i*zF,zF)) cells (l.map λp=>(p.1,f p.2))=Instr.fill (λi=>some (i*zF,zF)) cells (((xs.map f).zipIdx k).map λp=>(p.2,p.1)):=λys hy e=>by
   subst e
   have hzs:z.cells.size=zF:=by have:=hs (.const z) (by simp);rwa [hz] at this
   obtain⟨h1,h2,h3⟩:=zg3 f hz m (k+1) l ys cells hy (λx hx=>hs x (by simp[hx])) (by rw[show k+1+m=k+(m+1) by omega];exact hb) λi j hi1 hi2 hj hz=>hc i j (by omega) (by omega) hj hz
   refine⟨by simp[h1],λx hx=>?_,?_⟩
   ·rcases List.mem_cons.1 hx with rfl|hx
    ·exact .inl rfl
    ·exact h2 x hx
   ·rw[h3,List.map_cons,List.zipIdx_cons,List.map_cons,hz]
    obtain⟨c1,e1,e2,e3⟩:=X5 (λi=>some (i*zF,zF)) cells k z (((ys.map f).zipIdx (k+1)).map λp=>(p.2,p.1)) (k*zF) (by rw[hzs]) (by omega)
    refine Eq.trans ?_ e1.symm
    congr 1
    refine Array.ext_getElem? λj=>?_
    rw[e3]
    by_cases hj:k*zF≤j∧j<k*zF+z.cells.size
    ·rw[if_pos hj,←hc k (j-k*zF) (Nat.le_refl _) (by omega) (by omega) hzs]
     congr 1
     omega
    ·rw[if_neg hj]
  cases l with
  | nil =>
   simp only[xZ] at h
   cases e:xZ z (k+1) m [] with
   | none=>rw[e] at h;cases h
   | some ys=>rw[e] at h;exact zero ys e (Option.some.inj h).symm
  | cons p r =>
   obtain⟨i,x⟩:=p
   simp only[xZ] at h
   by_cases hi:i=k
   ·rw[if_pos hi] at h
    subst hi
    cases e:xZ z (i+1) m r with
    | none=>rw[e] at h;cases h
    | some ys =>
     rw[e] at h
     have:=(Option.some.inj h).symm
     subst this
     have hxs:(f x).cells.size=zF:=hs x (by simp)
     obtain⟨c1,e1,e2,e3⟩:=X5 (λi=>some (i*zF,zF)) cells i (f x) (r.map λp=>(p.1,f p.2)) (i*zF) (by rw[hxs]) (by omega)
     obtain⟨d1,g1,_,g3⟩:=X5 (λi=>some (i*zF,zF)) cells i (f x) (((ys.map f).zipIdx (i+1)).map λp=>(p.2,p.1)) (i*zF) (by rw[hxs]) (by omega)
     have hcd:c1=d1:=Array.ext_getElem? λj=>by rw[e3,g3]
     subst hcd
     obtain⟨h1,h2,h3⟩:=zg3 f hz m (i+1) r ys c1 e (λy hy=>hs y (by simp[hy])) (by rw[show i+1+m=i+(m+1) by omega,e2];exact hb) λa j ha1 ha2 hj hzz=>by
      have:(i+1)*zF≤a*zF:=Nat.mul_le_mul_right _ ha1
      rw[e3,if_neg (by omega)]
      exact hc a j (by omega) (by omega) hj hzz
     refine⟨by simp[h1],λy hy=>?_,?_⟩
     ·rcases List.mem_cons.1 hy with rfl|hy
      ·exact .inr ⟨i,by simp⟩
      ·exact(h2 y hy).imp id λ⟨a,ha⟩=>⟨a,by simp[ha]⟩
     ·rw[List.map_cons,List.map_cons,List.zipIdx_cons,List.map_cons]
      rw[e1,g1,h3]
   ·rw[if_neg hi] at h
    cases e:xZ z (k+1) m ((i,x)::r) with
    | none=>rw[e] at h;cases h
    | some ys=>rw[e] at h;exact zero ys e (Option.some.inj h).symm
theorem WI {z:Value}:∀(m k:Nat) (l:List (Nat × Operand)) (xs:List Operand),xZ z k m l=some xs→∀x∈xs,x=.const z∨∃i,(i,x)∈l
 | 0,k,[],xs,h,x,hx=>by simp[xZ] at h;subst h;cases hx
 | 0,k,_::_,xs,h,_,_=>by simp[xZ] at h
 | m+1,k,[],xs,h,x,hx=>by
  simp only[xZ] at h
  cases e:xZ z (k+1) m [] with
  | none=>rw[e] at h;cases h
  | some ys =>
   rw[e] at h
   have:=(Option.some.inj h).symm
   subst this
   rcases List.mem_cons.1 hx with rfl|hx
   ·exact .inl rfl
   ·exact WI m _ _ ys e x hx
 | m+1,k,(i,y)::r,xs,h,x,hx=>by
  simp only[xZ] at h
  split at h
  ·cases e:xZ z (k+1) m r with
   | none=>rw[e] at h;cases h
   | some ys =>
    rw[e] at h
    have:=(Option.some.inj h).symm
    subst this
    rcases List.mem_cons.1 hx with rfl|hx
    ·exact .inr ⟨i,by simp⟩
    ·exact(WI m _ _ ys e x hx).imp id λ⟨a,ha⟩=>⟨a,by simp[ha]⟩
  ·cases e:xZ z (k+1) m ((i,y)::r) with
   | none=>rw[e] at h;cases h
   | some ys =>
    rw[e] at h
    have:=(Option.some.inj h).symm
    subst this
    rcases List.mem_cons.1 hx with rfl|hx
    ·exact .inl rfl
    ·exact WI m _ _ ys e x hx
theorem zlg {z:Value} {l:List (Nat × Operand)} (h:YK 0 l=some []∨xZ z 0 0 l=some []):l=[]:=by
 cases l with
 | nil=>rfl
 | cons p r =>
  obtain⟨i,x⟩:=p
  rcases h with h|h
  ·have:=YN _ _ _ h
   simp at this
  ·simp[xZ] at h
theorem ziS {t e:TypeId} {n:Nat} {parts:Array (Nat × Operand)} {xs:List Operand} {z:Value} (ht:P.underlying t=some (.slice e)) (hz:(P.info? e).bind (·.zero)=some z) (h24:n*P.cellsOf e≤16777216) (hpos:0<P.cellsOf e)
  (hxs:YK 0 parts.toList=some xs∨xZ z 0 n parts.toList=some xs) (ho:o.op=.buildSlice t n parts) (h:step P seq (.wh (P.cellsOf e) n xs) env H K):Sound P o env H K:=by
 simp only[step] at h
 obtain⟨h1,h23⟩:=zcA _ _ _ h
 rw[xW] at h23
 obtain⟨h2,h3⟩:=h23
 rw[vy] at h3
 simp only[List.length_map] at h2
 obtain⟨ei,hi1,hi2⟩:=wv (e:=e) (P:=P) (by omega)
 subst h2
 refine YX h3 λJ F w a G hok hops hrd hn=>?_
 have hsub:∀(i:Nat) (x:Operand),(i,x)∈parts.toList→x∈o.op.operands:=λi x hx=>by
  simp only[ho,Op.operands]
  simp only[List.mem_toArray,List.mem_map]
  exact⟨(i,x),hx,rfl⟩
 let zc:Array Value:=(Array.range (xs.length*P.cellsOf e)).map (z.cells[·%z.cells.size]!)
 have hzc:∀i j,0≤i→i<0+xs.length→j<P.cellsOf e→z.cells.size=P.cellsOf e→zc[i*P.cellsOf e+j]? = z.cells[j]?:=λi j _ hi hj hs=>by
  have h1:(i+1)*P.cellsOf e≤xs.length*P.cellsOf e:=Nat.mul_le_mul_right _ (by omega)
  rw[Nat.add_mul] at h1
  have h2:i*P.cellsOf e+j<xs.length*P.cellsOf e:=by omega
  have h3:(i*P.cellsOf e+j)%P.cellsOf e=j:=by rw[Nat.mul_add_mod_self_right,Nat.mod_eq_of_lt hj]
  have h4:j<z.cells.size:=by omega
  have h5:z.cells[j]? = some z.cells[j]!:=by rw[Array.getElem?_eq_getElem h4,getElem!_pos z.cells j h4]
  rw[h5]
  simp[zc,h2,hs,h3]
 have hmem:∀x∈xs,x=.const z∨x∈o.op.operands:=λx hx=>by
  rcases hxs with hxs|hxs
  ·obtain⟨j,hj,e⟩:=List.mem_iff_getElem.1 hx
   refine .inr (hsub j x ?_)
   rw[YN _ _ _ hxs]
   refine List.mem_map.2 ⟨(x,j),?_,rfl⟩
   rw[List.mem_zipIdx_iff_getElem?]
   simp[hj,e]
  ·exact(WI _ _ _ _ hxs x hx).imp id λ⟨i,hi⟩=>hsub i x hi
 have hrep:∀x∈xs,rep J F w (y0 env x) (a.eval x):=λx hx=>by
  rcases hmem x hx with rfl|h
  ·exact zqE J F w z
  ·exact hops x h
 have hcs:∀v∈xs.map a.eval,v.cells.size=P.cellsOf e:=λv hv=>by
  obtain⟨x,hx,rfl⟩:=List.mem_map.1 hv
  have:=xh _ _ (YW (h1 x hx).1 (hrep x hx)).1
  rw[(h1 x hx).2,←this];simp
 obtain⟨c',f1,f2,_,f4⟩:=zei (P.cellsOf e) (xs.map a.eval) 0 zc hcs (by simp[zc])
 have f1':Instr.fill (λi=>some (i*P.cellsOf e,P.cellsOf e)) zc (parts.map λ(i,x)=>(i,a.eval x)).toList=some c':=by
  rw[Array.toList_map]
  rcases hxs with hxs|hxs
  ·rw[YN _ _ _ hxs,←f1,List.zipIdx_map,List.map_map,List.map_map]
   rfl
  ·obtain⟨_,_,h3⟩:=zg3 (zF:=P.cellsOf e) a.eval rfl _ 0 _ xs zc hxs (λx hx=>hcs _ (List.mem_map.2 ⟨x,hx,rfl⟩)) (by simp[zc]) hzc
   rw[←f1,←h3]
 have hrun:(execOp a.eval o).run P w=.ok (.value (.slice (some ⟨w.heap.size,0,none⟩) xs.length xs.length)) (w.alloc (.cells c' e)):=by
  by_cases hx0:xs.length*P.cellsOf e=0
  ·have hx:xs=[]:=by
    rcases Nat.mul_eq_zero.1 hx0 with h|h
    ·exact List.length_eq_zero_iff.1 h
    ·omega
   subst hx
   have hparts:parts.toList=[]:=zlg (z:=z) hxs
   have hzc:zc=#[]:=by simp[zc]
   simp only[List.map_nil,List.zipIdx_nil] at f1
   rw[hzc] at f1
   simp[Instr.fill] at f1
   subst f1
   have hp:parts=#[]:=Array.ext' hparts
   subst hp
   simp[execOp,ho,Instr.buildSlice,underlying,program,Sem.run,ht,pure,xq hi1,hi2,Instr.fill,newRow,newObj]
   congr 2
   apply Array.ext'
   simp
  ·have hz':¬(xs.length*P.cellsOf e>2^24):=by omega
   simp only[execOp,ho,Instr.buildSlice,underlying,program,Sem.run_bind,Sem.run,ht,pure,Result.andThen_ok,xq hi1,hi2,if_neg hz',if_neg hx0,ZV hz]
   rw[show(Array.map (λx=>z.cells[x%z.cells.size]!) (Array.range (xs.length*P.cellsOf e)))=zc from rfl,f1']
   simp[newRow,newObj,Sem.run,pure]
 obtain⟨J',k1,k2,k3,k4⟩:=zaB (zF:=P.cellsOf e) (cap:=xs.length) (xs:=xs.map λx=>(y0 env x).cells) (vals:=c') hok H.length hn e (by simp) (by rw[f2];simp[zc]) λj x hj=>by
  rw[List.getElem?_map] at hj
  cases ej:xs[j]? with
  | none=>rw[ej] at hj;cases hj
  | some y =>
   rw[ej] at hj
   simp at hj;subst hj
   have hy:=List.mem_of_getElem? ej
   refine⟨(h1 y hy).2.symm,λk c hc=>?_⟩
   obtain⟨q1,q0⟩:=YW (h1 y hy).1 (hrep y hy)
   obtain⟨u,q2,q3⟩:=vl _ _ _ _ hc q1
   refine⟨u,?_,q0 u (List.mem_of_getElem? q2),q3⟩
   have:=f4 j (a.eval y) k u (by simp[ej]) (by simpa using q2)
   simpa using this
 simp only[List.length_map] at k4
 exact⟨_,_,J',F,hrun,k4,k1,k2,k3⟩
theorem zp3 {t e:TypeId} {l c:Operand} {z:Value} (ht:P.underlying t=some (.slice e)) (hz:(P.info? e).bind (·.zero)=some z) (hzs:z.cells.size=P.cellsOf e) (hpos:0<P.cellsOf e) (hbp:0<P.bytesOf e) (hone:z.cells.toList.all yl=true)
  (ho:o.op=.makeSlice t l c) (h:step P seq (.x5 (P.cellsOf e) (P.bytesOf e) z.cells.toList l c) env H K):Sound P o env H K:=by
 simp only[step,yC] at h
 obtain⟨ei,hi1,hi2⟩:=wv (e:=e) (P:=P) (by omega)
 have hi3:ei.bytes=P.bytesOf e:=by simp[Program.bytesOf,hi1]
 split at h
 ·rename_i nl nc e1 e2
  obtain⟨h0,h1,h2,h3⟩:=h
  rw[vy] at h3
  refine YX h3 λJ F w a G hok hops hrd hn=>?_
  have k1:=hops l (by simp[ho,Op.operands])
  have k2:=hops c (by simp[ho,Op.operands])
  rw[e1] at k1;rw[e2] at k2
  simp only[rep] at k1 k2
  have hz':ei.zero=some z:=by simpa [hi1] using hz
  have hb:(ei.bytes:Int)*nc≤281474976710656:=by rw[hi3,Int.mul_comm];omega
  have hbig:nc≤9223372036854775807:=by
   have:nc*1≤nc*(P.bytesOf e:Int):=Int.mul_le_mul_of_nonneg_left (by omega) (by omega)
   omega
  ·have run:=run_make (P:=P) w t e ei z ht hi1 hz' .i64 .i64 nl nc h0 h1 hb hbig
   obtain⟨J',q1,q2,q3,q4⟩:=zaB (zF:=P.cellsOf e) (cap:=nc.toNat) (xs:=List.replicate nl.toNat (z.cells.toList.map .sc)) (vals:=madeCells z.cells (nc.toNat * ei.size)) hok H.length hn e (by simp;omega) (by simp[madeCells,hi2]) λj x hj=>by
    rw[List.getElem?_replicate] at hj
    split at hj
    ·rename_i hjl
     cases hj
     refine⟨by simp[hzs],λk c hc=>?_⟩
     rw[List.getElem?_map] at hc
     cases ek:z.cells.toList[k]? with
     | none=>rw[ek] at hc;cases hc
     | some u =>
      rw[ek] at hc
      cases hc
      have hk:k<P.cellsOf e:=by
       have:k<z.cells.toList.length:=by
        rcases Nat.lt_or_ge k z.cells.toList.length with h|h
        ·exact h
        ·rw[List.getElem?_eq_none h] at ek;cases ek
       rw[←hzs];simpa using this
      refine⟨u,?_,List.all_eq_true.1 hone u (List.mem_of_getElem? ek),by simp only[rep]⟩
      have hlt:j*P.cellsOf e+k<nc.toNat * ei.size:=by
       rw[hi2]
       have:(j+1)*P.cellsOf e≤nc.toNat * P.cellsOf e:=Nat.mul_le_mul_right _ (by omega)
       rw[Nat.add_mul] at this;omega
      have hm:(j*P.cellsOf e+k)%z.cells.size=k:=by rw[hzs,Nat.mul_comm,Nat.mul_add_mod];exact Nat.mod_eq_of_lt hk
      have hks:k<z.cells.size:=by rw[hzs];exact hk
      have ek':z.cells[k]=u:=by
       rw[Array.getElem?_toList] at ek
       simpa [Array.getElem?_eq_getElem hks] using ek
      simp only[madeCells,Array.getElem?_map]
      rw[Array.getElem?_eq_getElem (by simpa using hlt)]
      simp[hm,hks,ek']
    ·cases hj
   simp only[List.length_replicate] at q4
   have e3:nl.toNat≤nc.toNat:=by omega
   refine⟨_,_,J',F,?_,q4,q1,q2,q3⟩
   simp[execOp,ho,k1,k2,run,Sem.run,pure]
 ·exact h.elim
end
end
section
open Go.RowKit
structure za8 (w w':World) (b o:Nat) (us:List Value) (vals:Array Value) (te:TypeId):Prop where
 os:w'.os=w.os
 tape:w'.tape=w.tape
 output:w'.output=w.output
 size:w'.heap.size=w.heap.size
 other:∀k,k≠b→w'.heap[k]? = w.heap[k]?
 here:∃vals',w'.heap[b]? = some (.cells vals' te (0,0))∧vals'.size=vals.size∧∀j,vals'[j]? = if o≤j∧j<o+us.length then us[j-o]? else vals[j]?
theorem zeR {P:Program} {w:World} {a:Addr} {u u':Value} (hu:yl u=true) (hc:w.cell? a=some u') (hf:w.frozen? a=false):(store a u).run P w=.ok () (w.setCell a u):=by
 cases u<;>simp[yl] at hu<;>simp[store,Sem.run,hc,hf]
theorem uj {P:Program} {b o:Nat}:∀(us:List Value) (i:Nat) (w:World) (vals:Array Value) (te:TypeId),w.heap[b]? = some (.cells vals te (0,0))→o+i+us.length≤vals.size→(∀u∈us,yl u=true) →
  ∃w',(storeCells ⟨b,o,none⟩ us i).run P w=.ok () w'∧za8 w w' b (o+i) us vals te
 | [],i,w,vals,te,hb,_,_=>⟨w,rfl,rfl,rfl,rfl,rfl,λ_ _=>rfl,vals,hb,rfl,λj=>by simp;intro h1 h2;omega⟩
 | u::r,i,w,vals,te,hb,hl,h1=>by
  simp only[List.length_cons] at hl
  have hc:w.cell? ⟨b,o+i,none⟩=vals[o+i]?:=by simp[World.cell?,hb]
  have hf:=frozen_of_row w b (o+i) vals te hb
  have hlt:o+i<vals.size:=by omega
  have hset:=heap_setCell_same w b (o+i) vals te u hb
  obtain⟨w',e1,k⟩:=uj (P:=P) (b:=b) (o:=o) r (i+1) (w.setCell ⟨b,o+i,none⟩ u) (vals.setIfInBounds (o+i) u) te hset (by simp;omega) λv hv=>h1 v (by simp[hv])
  have hrun:(store (⟨b,o+i,none⟩:Addr) u).run P w=.ok () (w.setCell ⟨b,o+i,none⟩ u):=by
   have hu:=h1 u (by simp)
   rw[Array.getElem?_eq_getElem hlt] at hc
   exact zeR hu hc hf
  refine⟨w',?_,?_⟩
  ·simp only[storeCells,vW,Sem.run_bind,hrun,Result.andThen_ok]
   exact e1
  ·obtain⟨vals',q1,q2,q3⟩:=k.here
   refine⟨k.os,k.tape,k.output,by rw[k.size];simp[World.setCell],λx hx=>by rw[k.other x hx];exact heap_setCell_other w _ x u hx,vals',q1,by rw[q2];simp,λj=>?_⟩
   rw[q3]
   by_cases e:j=o+i
   ·subst e
    rw[if_neg (by omega),if_pos (by simp)]
    simp[Array.getElem?_setIfInBounds,hlt]
   ·by_cases h2:o+(i+1)≤j∧j<o+(i+1)+r.length
    ·rw[if_pos h2,if_pos (by simp;omega),show j-(o+i)=j-(o+(i+1))+1 by omega,List.getElem?_cons_succ]
    ·rw[if_neg h2,if_neg (by simp;omega),Array.getElem?_setIfInBounds_ne (by omega)]
theorem za8.cell {w w':World} {b o:Nat} {us:List Value} {vals:Array Value} {te:TypeId} (h:za8 w w' b o us vals te) (hb:w.heap[b]? = some (.cells vals te (0,0))) (j:Nat) :
  w'.cell? ⟨b,j,none⟩=if o≤j∧j<o+us.length then us[j-o]? else w.cell? ⟨b,j,none⟩:=by
 obtain⟨vals',h1,_,h3⟩:=h.here
 simp only[World.cell?,h1,hb]
 simpa using h3 j
theorem VV {J J':yK} {F:Nat→Prop} {w w':World} {b o n:Nat} {us:List Value} {vals:Array Value} {te:TypeId} (h:za8 w w' b (o+n) us vals te) (hb:w.heap[b]? = some (.cells vals te (0,0)))
  (hle:J.le J') (hF:∀x,F x→w'.heap[x]? = w.heap[x]?) {cs xs:List D} (hc:zN J F w b cs o) (h0:∀u∈us,yl u=true) (hx:zY J F w xs us) (hn:n+xs.length≤cs.length) :
  zN J' F w' b (cs.take n++xs++cs.drop (n+xs.length)) o:=by
 have hl:=xh _ _ hx
 refine xg _ _ λj c hj=>?_
 rw[h.cell hb]
 by_cases h1:j<n
 ·rw[if_neg (by omega)]
  rw[List.append_assoc,List.getElem?_append_left (by simp;omega),List.getElem?_take,if_pos h1] at hj
  obtain⟨u,q1,q0,q2⟩:=xl cs o j c hj hc
  exact⟨u,q1,q0,yE hle (λ_ h=>h) hF _ _ q2⟩
 ·by_cases h2:j<n+xs.length
  ·rw[if_pos (by omega)]
   rw[List.append_assoc,List.getElem?_append_right (by simp;omega)] at hj
   rw[List.getElem?_append_left (by simp;omega)] at hj
   simp only[List.length_take] at hj
   rw[show j-min n cs.length=j-n by omega] at hj
   obtain⟨u,q1,q2⟩:=vl _ _ _ _ hj hx
   exact⟨u,by rw[show o+j-(o+n)=j-n by omega];exact q1,h0 u (List.mem_of_getElem? q1),yE hle (λ_ h=>h) hF _ _ q2⟩
  ·rw[if_neg (by omega)]
   rw[List.getElem?_append_right (by simp;omega),List.getElem?_drop] at hj
   simp only[List.length_append,List.length_take] at hj
   rw[show n+xs.length+(j-(min n cs.length+xs.length))=j by omega] at hj
   obtain⟨u,q1,q0,q2⟩:=xl cs o j c hj hc
   exact⟨u,q1,q0,yE hle (λ_ h=>h) hF _ _ q2⟩
theorem za8.ext {J J':yK} {F:Nat→Prop} {w w':World} {G:Nat→Option zf} {b o:Nat} {us:List Value} {vals:Array Value} {te:TypeId} (h:za8 w w' b o us vals te) (hok:yL J F w G)
  (hle:J.le J') (hown:Zm J b) (hback:∀x,Zm J' x→Zm J x) (hF:¬F b):Ext J F w J' F w' :=
 ⟨h.os,h.tape,h.output,by rw[h.size];exact Nat.le_refl _,λx hx hn=>h.other x λe=>hn (e▸hown),λx hx=>h.other x λe=>hF (e▸hx),hle,λ_ h=>h,λx hx=>.inl (hback x hx),λx hx=>.inl hx⟩
theorem zhn {xs:List (List D)} {i:Nat} {r:List D} (j:Nat) (x:List D) (h:(xs.set i r)[j]? = some x):(j=i∧x=r∧i<xs.length)∨(j≠i∧xs[j]? = some x):=by
 rw[List.getElem?_set] at h
 by_cases e:i=j
 ·rw[if_pos e] at h
  split at h
  ·cases h;exact .inl ⟨e.symm,rfl,by assumption⟩
  ·cases h
 ·rw[if_neg e] at h
  exact .inr ⟨λq=>e q.symm,h⟩
theorem zeS {J J':yK} {F:Nat→Prop} {w w':World} {b o i n zF:Nat} {us:List Value} {vals:Array Value} {te:TypeId} (h:za8 w w' b (o+i*zF+n) us vals te) (hb:w.heap[b]? = some (.cells vals te (0,0)))
  (hle:J.le J') (hF:∀x,F x→w'.heap[x]? = w.heap[x]?) {ys:List (List D)} {row xs:List D} (hy:yd J F w b zF ys o) (hi:ys[i]? = some row) (h0:∀u∈us,yl u=true) (hx:zY J F w xs us) (hn:n+xs.length≤row.length) :
  yd J' F w' b zF (ys.set i (row.take n++xs++row.drop (n+xs.length))) o:=by
 have hl:=xh _ _ hx
 refine wX _ _ λj x hj=>?_
 obtain⟨r1,r2⟩:=wy ys o i row hi hy
 rcases zhn j x hj with⟨rfl,rfl,_⟩|⟨hne,hj⟩
 ·exact⟨by simp;omega,VV h hb hle hF r2 h0 hx hn⟩
 ·obtain⟨q1,q2⟩:=wy ys o j x hj hy
  refine⟨q1,xg _ _ λk c hc=>?_⟩
  have hk:k<x.length:=by
   rcases Nat.lt_or_ge k x.length with h|h
   ·exact h
   ·rw[List.getElem?_eq_none h] at hc;cases hc
  obtain⟨u,p1,p0,p2⟩:=xl x _ k c hc q2
  refine⟨u,?_,p0,yE hle (λ_ h=>h) hF _ _ p2⟩
  rw[h.cell hb,if_neg ?_]
  ·exact p1
  ·rintro⟨a1,a2⟩
   rcases Nat.lt_or_gt_of_ne hne with hlt|hlt
   ·have:(j+1)*zF≤i*zF:=Nat.mul_le_mul_right _ hlt
    rw[Nat.add_mul] at this;omega
   ·have:(i+1)*zF≤j*zF:=Nat.mul_le_mul_right _ hlt
    rw[Nat.add_mul] at this;omega
section
variable {P:Program} {seq:Bool} {o:Oper} {env:Env} {H:List zf} {K:QH}
theorem zaq {ob:zf} {id:Nat} {d:D} (hid:id<H.length) (hK:K d (H.set id ob) [] [id])
  (h:∀(J:yK) (F:Nat→Prop) (w:World) (a:Act) (G:Nat→Option zf),yL J F w G→(∀x∈o.op.operands,rep J F w (y0 env x) (a.eval x))→G id=H[id]? →
   ∃v w',(execOp a.eval o).run P w=.ok v w'∧(v=.value undef∨v=.skip)∧d=.sc undef∧yL J F w' (λi=>if i=id then some ob else G i)∧Ext J F w J F w'):Sound P o env H K:=by
 refine⟨d,H.set id ob,[],[id],⟨λi hi=>?_,by simp,λi hi=>by simp at hi;simp[hi,hid],λJ F w a G hok hops hrd hnew K Q hK=>?_⟩,hK⟩
 ·simp at hi
  rw[List.getElem?_set_ne (λe=>hi e.symm)]
 ·obtain⟨v,w',h1,h2,rfl,h3,h4⟩:=h J F w a G hok hops (hrd id (.inr (by simp)))
  have hu:Q1 G [id] (H.set id ob)=λi=>if i=id then some ob else G i:=zb6 G _ id ob (by simp[hid])
  unfold Oper.wp
  rw[h1]
  rcases h2 with rfl|rfl
  ·rw[Oper.upon_value]
   exact hK _ w' J F (by simp only[rep]) (by rw[hu];exact h3) h4 λi hi _=>hi
  ·rw[Oper.upon_skip]
   exact hK _ w' J F (by simp only[rep]) (by rw[hu];exact h3) h4 λi hi _=>hi
theorem zbp {t:TypeId} {v:Value} {b off:Nat} {w w':World} (hsz:v.cells.size=P.cellsOf t) (hz:P.cellsOf t≠0) (h:(storeCells ⟨b,off,none⟩ v.cells.toList 0).run P w=.ok () w') :
  (Instr.storeAt t (.pointer (some ⟨b,off,none⟩)) v).run P w=.ok () w':=by
 obtain⟨i,h1,h2⟩:=wv hz
 simp[Instr.storeAt,Instr.sureAddr,storeVar,xq h1,h2,hsz,Sem.run,pure,h]
theorem ztX {t:TypeId} {x y:Operand} (hz:P.cellsOf t≠0) (ho:o.op=.store t x y) (h:step P seq (.store (P.cellsOf t) x y) env H K):Sound P o env H K:=by
 simp only[step,yC,W6,xW] at h
 obtain⟨hs,hlen,h⟩:=h
 split at h
 ·rename_i id off e1
  obtain⟨ob,h1,h2⟩:=(yA _ _ _).1 h
  split at h2
  ·rename_i cs
   obtain⟨h3,h4⟩:=(We _ _ _ _).1 h2
   obtain⟨h5,h6⟩:=(vP _ _ _ _).1 h4
   refine zaq h5 h6 λJ F w a G hok hops hG=>?_
   have k1:=hops x (by simp[ho,Op.operands])
   obtain⟨k2,k3⟩:=YW hs (hops y (by simp[ho,Op.operands]))
   rw[e1] at k1
   simp only[rep] at k1
   obtain⟨s,b,q1,q2,q3,q4⟩:=k1
   obtain⟨o',p1,p2⟩:=hok.obj id s q1
   rw[hG,h1] at p1
   cases p1
   obtain⟨p2,p3,p4,p5,p6,b',vals,te,p7,p8,p9,p10,p11⟩:=p2
   rw[q3] at p7;cases p7
   have hl:=xh _ _ k2
   obtain⟨w',r1,r2⟩:=uj (P:=P) (b:=b) (o:=off) (a.eval y).cells.toList 0 w vals te p8 (by omega) k3
   have hown:s.uB=some b:=by simp[Site.uB,q2,q3]
   have hnF:¬F b:=hok.apart id s b _ q1 hown (hG.trans h1) rfl
   have hFw:∀z,F z→w'.heap[z]? = w.heap[z]?:=λz hzF=>r2.other z λe=>hnF (e▸hzF)
   refine⟨.skip,w',?_,.inr rfl,rfl,?_,r2.ext hok (yK.le_refl J) ⟨id,s,q1,hown⟩ (λ_ h=>h) hnF⟩
   ·simp[execOp,ho,q4,zbp (by rw[hlen,←hl];simp) hz r1,Sem.run,pure]
   ·refine hok.update id s _ (λi=>by split;· rename_i e;rw[e];exact q1
                                     ·rfl) (λ_=>rfl) (yK.le_refl J) hFw (by rw[r2.size];exact Nat.le_refl _) (λi s' b' hne hi hb=>r2.other b' λe=>hne (hok.one i id s' s b' hi q1 hb (e▸hown))) (λb' hb=>.inr ⟨s,q1,hb⟩) (λi s' b' hi hb=>hok.xd hi hb) (λb' hb _=>by rw[hown] at hb;cases hb;exact hnF) ?_
    obtain⟨vals',r3,r4,_⟩:=r2.here
    refine⟨p2,p3,p4,by simp;omega,by simp;omega,b,vals',te,q3,r3,by rw[r4,p9];simp;omega,?_,λq=>by cases q⟩
    have r2':za8 w w' b (0+off) (a.eval y).cells.toList vals te:=by simpa using r2
    exact VV r2' p8 (yK.le_refl J) hFw p10 k3 k2 h3
  ·exact h2.elim
 ·rename_i id zW i off e1
  obtain⟨ob,h1,h2⟩:=(yA _ _ _).1 h
  split at h2
  ·rename_i ver' zF ys
   obtain⟨rfl,row,hrow,h2⟩:=h2
   obtain⟨h3,h4⟩:=(We _ _ _ _).1 h2
   obtain⟨h5,h6⟩:=(vP _ _ _ _).1 h4
   refine zaq h5 h6 λJ F w a G hok hops hG=>?_
   have k1:=hops x (by simp[ho,Op.operands])
   obtain⟨k2,k3⟩:=YW hs (hops y (by simp[ho,Op.operands]))
   rw[e1] at k1
   simp only[rep] at k1
   obtain⟨s,ad,q1,q4,q5,q6⟩:=k1
   obtain⟨p1,p2,p3,p4,p5,p6⟩:=Qe hok q1 (hG.trans h1)
   obtain⟨b,o',q7,q8,q9,rfl⟩:=q6 p2.symm
   have hl:=xh _ _ k2
   rcases p6 with p6|⟨b',o'',vals,te,e,p7,p8,p9,p10⟩
   ·omega
   rw[q8] at e;cases e
   obtain⟨t1,t2⟩:=wy ys o' i row hrow p9
   have hil:i<ys.length:=by omega
   have hroom:o'+i*zF+zF≤vals.size:=by
    have:(i+1)*zF≤s.cap*zF:=Nat.mul_le_mul_right _ (by omega)
    rw[Nat.add_mul] at this;omega
   rw[p3] at q4
   obtain⟨w',r1,r2⟩:=uj (P:=P) (b:=b) (o:=o'+i*zF+off) (a.eval y).cells.toList 0 w vals te p7 (by omega) k3
   rw[Nat.add_zero] at r2
   have hown:s.uB=some b:=by
    have:¬(s.row=false∧s.cap=0):=λh=>by omega
    simp[Site.uB,this,q8]
   have hnF:¬F b:=hok.apart id s b _ q1 hown (hG.trans h1) rfl
   have hFw:∀z,F z→w'.heap[z]? = w.heap[z]?:=λz hzF=>r2.other z λe=>hnF (e▸hzF)
   refine⟨.skip,w',?_,.inr rfl,rfl,?_,r2.ext hok (yK.le_refl J) ⟨id,s,q1,hown⟩ (λ_ h=>h) hnF⟩
   ·simp[execOp,ho,q4,zbp (by rw[hlen,←hl];simp) hz r1,Sem.run,pure]
   ·refine hok.update id s _ (λi=>by split;· rename_i e;rw[e];exact q1
                                     ·rfl) (λ_=>rfl) (yK.le_refl J) hFw (by rw[r2.size];exact Nat.le_refl _) (λi s' b' hne hi hb=>r2.other b' λe=>hne (hok.one i id s' s b' hi q1 hb (e▸hown))) (λb' hb=>.inr ⟨s,q1,hb⟩) (λi s' b' hi hb=>hok.xd hi hb) (λb' hb _=>by rw[hown] at hb;cases hb;exact hnF) ?_
    obtain⟨vals',r3,r4,_⟩:=r2.here
    exact⟨p1,p2,p3,by simp;omega,p5,.inr ⟨b,o',vals',te,q8,r3,by rw[r4];exact p8,zeS r2 p7 (yK.le_refl J) hFw p9 hrow k3 k2 h3,λq=>by cases q⟩⟩
  ·exact h2.elim
 ·exact h.elim
theorem zkH {ob:zf} {id:Nat} {d:D} {r:Value} (hid:id<H.length) (hK:K d (H.set id ob) [] [id]) (hd:∀(J:yK) (F:Nat→Prop) (w:World),rep J F w d r)
  (h:∀(J:yK) (F:Nat→Prop) (w:World) (a:Act) (G:Nat→Option zf),yL J F w G→(∀x∈o.op.operands,rep J F w (y0 env x) (a.eval x))→G id=H[id]? →
   ∃w',(execOp a.eval o).run P w=.ok (.value r) w'∧yL J F w' (λi=>if i=id then some ob else G i)∧Ext J F w J F w'):Sound P o env H K:=by
 refine⟨d,H.set id ob,[],[id],⟨λi hi=>?_,by simp,λi hi=>by simp at hi;simp[hi,hid],λJ F w a G hok hops hrd hnew K Q hK=>?_⟩,hK⟩
 ·simp at hi
  rw[List.getElem?_set_ne (λe=>hi e.symm)]
 ·obtain⟨w',h1,h3,h4⟩:=h J F w a G hok hops (hrd id (.inr (by simp)))
  have hu:Q1 G [id] (H.set id ob)=λi=>if i=id then some ob else G i:=zb6 G _ id ob (by simp[hid])
  unfold Oper.wp
  rw[h1,Oper.upon_value]
  exact hK _ w' J F (hd J F w') (by rw[hu];exact h3) h4 λi hi _=>hi
theorem zlN {zs:List (List D)} {lo hi:Nat} {y x:List D} {j:Nat} (h1:lo≤hi) (h2:hi≤zs.length) (h:(zs.take lo++List.replicate (hi-lo) y++zs.drop hi)[j]? = some x) :
  (lo≤j∧j<hi∧x=y)∨(¬(lo≤j∧j<hi)∧zs[j]? = some x):=by
 rw[List.getElem?_append,List.getElem?_append] at h
 simp only[List.length_append,List.length_take,List.length_replicate] at h
 rw[Nat.min_eq_left (by omega),show lo+(hi-lo)=hi by omega] at h
 by_cases k1:j<hi
 ·rw[if_pos k1] at h
  by_cases k2:j<lo
  ·rw[if_pos k2,List.getElem?_take,if_pos k2] at h
   exact .inr ⟨by omega,h⟩
  ·rw[if_neg k2,List.getElem?_replicate,if_pos (by omega)] at h
   cases h
   exact .inl ⟨by omega,k1,rfl⟩
 ·rw[if_neg k1,List.getElem?_drop,show hi+(j-hi)=j by omega] at h
  exact .inr ⟨by omega,h⟩
theorem zy0 {t e:TypeId} {args:Array Operand} {ts:Array TypeId} {x:Operand} {z u:Value} (ha:args.toList=[x]) (hts:ts.toList=[t]) (ht:P.underlying t=some (.slice e)) (hz:(P.info? e).bind (·.zero)=some z)
  (hzu:z.cells.toList=[u]) (hc:P.cellsOf e=1∧yl u=true) (ho:o.op=.call { callee:=.builtin .clear,args:=args,argTypes:=ts }) (h:step P seq (.clr u x) env H K):Sound P o env H K:=by
 obtain⟨args⟩:=args
 obtain⟨ts⟩:=ts
 simp only at ha hts
 subst ha hts
 simp only[step,yC] at h
 split at h
 ·rename_i id zW lo hi e1
  obtain⟨ob,h1,h2⟩:=(yA _ _ _).1 h
  split at h2
  ·rename_i ver' zF zs
   obtain⟨rfl,h2⟩:=h2
   obtain⟨rfl,h4⟩:=(xW _ _ _).1 h2
   obtain⟨h5,h6⟩:=(vP _ _ _ _).1 h4
   refine zkH (r:=.tuple #[]) h5 h6 (λJ F w=>by simp only[rep];exact⟨[],rfl,by simp only[zY]⟩) λJ F w a G hok hops hG=>?_
   have k1:=hops x (by simp[ho,Op.operands,Call.operands])
   rw[e1] at k1
   simp only[rep] at k1
   obtain⟨s,A0,n0,c0,q1,q2,q3,q4⟩:=k1
   obtain⟨p1,p2,p3,p4,p5,p6⟩:=Qe hok q1 (hG.trans h1)
   obtain⟨t1,t2,t3,t4,t5,t6⟩:=q4 p2.symm
   have exec:∀r w',(Builtin.clear_ #[t] o.type #[.slice A0 n0 c0]).run P w=.ok r w'→(execOp a.eval o).run P w=.ok (.value r) w':=by
    intro r w' hr
    simp only[execOp,ho,resolve,invoke,builtin,Sem.run_bind,Sem.run,pure,Result.andThen_ok,List.map_toArray,List.map_cons,List.map_nil,q2]
    rw[hr]
    rfl
   by_cases hn:n0=0
   ·have hlh:hi=lo:=by omega
    subst hn
    refine⟨w,exec _ _ ?_,?_,Ext.refl _ _ _⟩
    ·cases A0<;>simp[Builtin.clear_,run_underlying ht,Sem.run,pure]
    ·have:(λi=>if i=id then some (zf.vec true zW 1 (zs.take lo++List.replicate (hi-lo) [D.sc u]++zs.drop hi)) else G i)=G:=by
      funext i
      split
      ·rename_i e
       rw[e,hG,h1,hlh,Nat.sub_self,List.replicate_zero,List.append_nil,List.take_append_drop]
      ·rfl
     rw[this]
     exact hok
   ·have hcap:s.cap≠lo:=by omega
    rcases t6 with t6|⟨b,o',e2,e3⟩
    ·exact absurd t6 hcap
    rcases p6 with p6|⟨b',o'',vals,te,e4,p7,p8,p9,p10⟩
    ·omega
    rw[e2] at e4;cases e4
    obtain⟨w',r1,r2⟩:=uj (P:=P) (b:=b) (o:=o'+lo*s.zF) (List.replicate n0 u) 0 w vals te p7 (by rw[List.length_replicate,p3];omega) (λv hv=>by rw[List.eq_of_mem_replicate hv];exact hc.2)
    rw[Nat.add_zero] at r2
    have hown:s.uB=some b:=by
     have:¬(s.row=false∧s.cap=0):=λh=>by omega
     simp[Site.uB,this,e2]
    have hnF:¬F b:=hok.apart id s b _ q1 hown (hG.trans h1) rfl
    have hFw:∀z,F z→w'.heap[z]? = w.heap[z]?:=λz hzF=>r2.other z λe=>hnF (e▸hzF)
    refine⟨w',exec _ _ ?_,?_,r2.ext hok (yK.le_refl J) ⟨id,s,q1,hown⟩ (λ_ h=>h) hnF⟩
    ·have hzc:(Builtin.zeroCells z.cells n0).toList=List.replicate n0 u:=by
      have hz1:z.cells=#[u]:=by
       rw[←Array.toArray_toList (xs:=z.cells),hzu]
      rw[hz1]
      simp[Builtin.zeroCells]
      apply List.ext_getElem
      ·simp
      ·intro i h1 h2
       simp[Nat.mod_one]
     subst e3
     obtain⟨m,rfl⟩:∃m,n0=m+1:=⟨n0-1,by omega⟩
     simp[Builtin.clear_,run_underlying ht,ZV hz,hzc,r1]
    ·refine hok.update id s _ (λi=>by split;· rename_i e;rw[e];exact q1
                                      ·rfl) (λ_=>rfl) (yK.le_refl J) hFw (by rw[r2.size];exact Nat.le_refl _) (λi s' b' hne hi hb=>r2.other b' λe=>hne (hok.one i id s' s b' hi q1 hb (e▸hown))) (λb' hb=>.inr ⟨s,q1,hb⟩) (λi s' b' hi hb=>hok.xd hi hb) (λb' hb _=>by rw[hown] at hb;cases hb;exact hnF) ?_
     obtain⟨vals',r3,r4,_⟩:=r2.here
     refine⟨p1,p2,p3,by simp;omega,p5,.inr ⟨b,o',vals',te,e2,r3,by rw[r4];exact p8,wX _ _ λj y hj=>?_,λq=>by cases q⟩⟩
     rcases zlN t2 (by omega) hj with⟨g1,g2,rfl⟩|⟨g1,g2⟩
     ·refine⟨rfl,xg _ _ λi c hi=>?_⟩
      obtain⟨rfl,rfl⟩:i=0∧c=.sc u:=by
       cases i with
       | zero=>simp at hi;exact⟨rfl,hi.symm⟩
       | succ i=>simp at hi
      refine⟨u,?_,hc.2,by simp only[rep]⟩
      rw[r2.cell p7,if_pos (by rw[List.length_replicate,p3];omega),List.getElem?_replicate,if_pos (by rw[p3];omega)]
     ·obtain⟨g3,g4⟩:=wy zs o' j y g2 p9
      refine⟨g3,xg _ _ λi c hi=>?_⟩
      obtain⟨v,g5,g6,g7⟩:=xl y _ i c hi g4
      have hi0:i<y.length:=by
       rcases Nat.lt_or_ge i y.length with h|h
       ·exact h
       ·rw[List.getElem?_eq_none h] at hi;cases hi
      refine⟨v,?_,g6,yE (yK.le_refl J) (λ_ h=>h) hFw _ _ g7⟩
      rw[r2.cell p7,if_neg (by rw[List.length_replicate,p3];omega)]
      exact g5
  ·exact h2.elim
 ·exact h.elim
end
end
section
open Go.RowKit
section
variable {J:yK} {F:Nat→Prop} {w:World}
def x4 (J:yK) (F:Nat→Prop) (w:World) (zF:Nat) (xs:List (List D)) (us:List Value):Prop :=
 us.length=xs.length*zF∧(∀u∈us,yl u=true)∧∀(j:Nat) (x:List D),xs[j]? = some x→x.length=zF∧∀(k:Nat) (c:D),x[k]? = some c→∃u,us[j*zF+k]? = some u∧yl u=true∧rep J F w c u
theorem qT {b zF:Nat}:∀(xs:List (List D)) (o:Nat),yd J F w b zF xs o→∃us,x4 J F w zF xs us∧∀j u,us[j]? = some u→w.cell? ⟨b,o+j,none⟩=some u
 | [],o,_=>⟨[],⟨by simp,(λu h=>by cases h),(λj x h=>by simp at h)⟩,λj u h=>by simp at h⟩
 | x::r,o,h=>by
  simp only[yd] at h
  obtain⟨h1,h2,h3⟩:=h
  obtain⟨vs,k1,k2,k3⟩:=ZW x o h2
  obtain⟨us,⟨k4,k5,k6⟩,k7⟩:=qT r (o+zF) h3
  have hl:=xh _ _ k1
  refine⟨vs++us,⟨?_,λu hu=>(List.mem_append.1 hu).elim (k3 u) (k5 u),λj y hj=>?_⟩,λj u hu=>?_⟩
  ·rw[List.length_append,k4,List.length_cons,Nat.add_mul];omega
  ·cases j with
   | zero =>
    simp at hj;subst hj
    refine⟨h1,λk c hc=>?_⟩
    obtain⟨v,q1,q2⟩:=vl _ _ _ _ hc k1
    have hk:k<vs.length:=by
     rcases Nat.lt_or_ge k vs.length with h|h
     ·exact h
     ·rw[List.getElem?_eq_none h] at q1;cases q1
    exact⟨v,by rw[Nat.zero_mul,Nat.zero_add,List.getElem?_append_left hk];exact q1,k3 v (List.mem_of_getElem? q1),q2⟩
   | succ j =>
    obtain⟨q1,q2⟩:=k6 j y (by simpa using hj)
    refine⟨q1,λk c hc=>?_⟩
    obtain⟨u,p1,p2⟩:=q2 k c hc
    refine⟨u,?_,p2⟩
    rw[List.getElem?_append_right (by rw[Nat.add_mul];omega),show(j+1)*zF+k-vs.length=j*zF+k by rw[Nat.add_mul];omega]
    exact p1
  ·by_cases hj:j<vs.length
   ·rw[List.getElem?_append_left hj] at hu
    exact k2 j u hu
   ·rw[List.getElem?_append_right (by omega)] at hu
    have:=k7 _ u hu
    rwa [show o+zF+(j-vs.length)=o+j by omega] at this
theorem x4.append {zF:Nat} {xs ys:List (List D)} {us vs:List Value} (h:x4 J F w zF xs us) (k:x4 J F w zF ys vs):x4 J F w zF (xs++ys) (us++vs):=by
 obtain⟨h1,h2,h3⟩:=h
 obtain⟨k1,k2,k3⟩:=k
 refine⟨by rw[List.length_append,List.length_append,h1,k1,Nat.add_mul],λu hu=>(List.mem_append.1 hu).elim (h2 u) (k2 u),λj x hj=>?_⟩
 by_cases hl:j<xs.length
 ·rw[List.getElem?_append_left hl] at hj
  obtain⟨q1,q2⟩:=h3 j x hj
  refine⟨q1,λk c hc=>?_⟩
  obtain⟨u,p1,p2⟩:=q2 k c hc
  refine⟨u,?_,p2⟩
  rw[List.getElem?_append_left]
  ·exact p1
  ·rcases Nat.lt_or_ge (j*zF+k) us.length with h|h
   ·exact h
   ·rw[List.getElem?_eq_none h] at p1;cases p1
 ·rw[List.getElem?_append_right (by omega)] at hj
  obtain⟨q1,q2⟩:=k3 _ x hj
  refine⟨q1,λk c hc=>?_⟩
  obtain⟨u,p1,p2⟩:=q2 k c hc
  refine⟨u,?_,p2⟩
  have:xs.length*zF≤j*zF:=Nat.mul_le_mul_right _ (by omega)
  rw[List.getElem?_append_right (by omega),show j*zF+k-us.length=(j-xs.length)*zF+k by rw[Nat.sub_mul];omega]
  exact p1
theorem x4.nil (zF:Nat):x4 J F w zF [] []:=⟨by simp,(λu h=>by cases h),(λj x h=>by simp at h)⟩
theorem x4.mono {J':yK} {F':Nat→Prop} {w':World} {zF:Nat} {xs:List (List D)} {us:List Value} (h:x4 J F w zF xs us) (hm:∀d v,rep J F w d v→rep J' F' w' d v):x4 J' F' w' zF xs us :=
 ⟨h.1,h.2.1,λj x hj=>⟨(h.2.2 j x hj).1,λk c hc=>let⟨u,p1,p2,p3⟩:=(h.2.2 j x hj).2 k c hc;⟨u,p1,p2,hm _ _ p3⟩⟩⟩
theorem x4.lie {zF b o:Nat} {xs:List (List D)} {us:List Value} (h:x4 J F w zF xs us) (hc:∀j u,us[j]? = some u→w.cell? ⟨b,o+j,none⟩=some u):yd J F w b zF xs o:=by
 refine wX _ _ λj x hj=>?_
 obtain⟨q1,q2⟩:=h.2.2 j x hj
 refine⟨q1,xg _ _ λk c hk=>?_⟩
 obtain⟨u,p1,p2,p3⟩:=q2 k c hk
 exact⟨u,by have:=hc _ u p1;rwa [←Nat.add_assoc] at this,p2,p3⟩
end
section
variable {P:Program} {seq:Bool} {o:Oper} {env:Env} {H:List zf} {K:QH}
theorem zgu {zF:Nat} {dy:D} {K':List (List D)→List Nat→Prop} (h:zr2 H zF dy K'):∃ys rd,K' ys rd ∧
  ∀(J:yK) (F:Nat→Prop) (w:World) (G:Nat→Option zf) (v:Value),yL J F w G→(∀id∈rd,G id=H[id]?)→rep J F w dy v →
   ∃A c us,v=.slice A ys.length c∧x4 J F w zF ys us∧((A=none∧ys=[])∨∃a,A=some a∧∀j u,us[j]? = some u→w.cell? (a.add j)=some u):=by
 unfold zr2 at h
 split at h
 ·rename_i esz' ys
  obtain⟨e,h'⟩:=(xW _ _ _).1 h
  subst e
  refine⟨ys,[],h',λJ F w G v hok _ hv=>?_⟩
  simp only[rep] at hv
  obtain⟨A,n,c,rfl,rfl,hc,k⟩:=hv
  rcases k with k|⟨b,o,rfl,hF,k⟩
  ·have:ys=[]:=List.length_eq_zero_iff.1 k
   subst this
   refine⟨A,c,[],rfl,x4.nil _,?_⟩
   cases A with
   | none=>exact .inl ⟨rfl,rfl⟩
   | some a=>exact .inr ⟨a,rfl,λj u h=>by simp at h⟩
  ·obtain⟨us,k1,k2⟩:=qT _ _ k
   exact⟨_,c,us,rfl,k1,.inr ⟨_,rfl,λj u hu=>by rw[vW];exact k2 j u hu⟩⟩
 ·rename_i id zW lo hi
  obtain⟨ob,h1,h2⟩:=(yA _ _ _).1 h
  split at h2
  ·rename_i m ver' esz' zs
   obtain⟨rfl,h2⟩:=h2
   obtain⟨e,h3⟩:=(xW _ _ _).1 h2
   subst e
   refine⟨_,[id],h3,λJ F w G v hok hrd hv=>?_⟩
   simp only[rep] at hv
   obtain⟨s,A,n,c,q1,rfl,q2,q3⟩:=hv
   obtain⟨p1,p2,p3,p4,p5,p6⟩:=Qe hok q1 ((hrd id (by simp)).trans h1)
   obtain⟨t1,t2,t3,rfl,rfl,t6⟩:=q3 p2.symm
   have hl:((zs.take hi).drop lo).length=hi-lo:=by simp;omega
   rw[hl]
   rcases t6 with t6|⟨b,o,t6,rfl⟩
   ·have:(zs.take hi).drop lo=[]:=List.length_eq_zero_iff.1 (by omega)
    rw[this]
    refine⟨A,_,[],rfl,x4.nil _,?_⟩
    cases A with
    | none=>exact .inl ⟨rfl,rfl⟩
    | some a=>exact .inr ⟨a,rfl,λj u h=>by simp at h⟩
   ·rcases p6 with p6|⟨b',o',vals,te,e,_,_,k,_⟩
    ·have:(zs.take hi).drop lo=[]:=List.length_eq_zero_iff.1 (by omega)
     rw[this]
     exact⟨_,_,[],rfl,x4.nil _,.inr ⟨_,rfl,λj u h=>by simp at h⟩⟩
    ·rw[t6] at e;cases e
     obtain⟨us,k1,k2⟩:=qT _ _ (vC k lo hi)
     exact⟨_,_,us,rfl,k1,.inr ⟨_,rfl,λj u hu=>by rw[vW,p3];exact k2 j u hu⟩⟩
  ·exact h2.elim
 ·refine⟨[],[],h,λJ F w G v hok _ hv=>?_⟩
  simp only[rep] at hv
  exact⟨none,0,[],hv,x4.nil _,.inl ⟨rfl,rfl⟩⟩
 ·exact h.elim
theorem zjU (v:Value):v.oneCell'=yl v:=by cases v<;>rfl
theorem zpC {J:yK} {F:Nat→Prop} {w:World} {u e':TypeId} {zF n c:Nat} {A:Option Addr} {ys:List (List D)} {us:List Value} (hu:P.underlying u=some (.slice e')) (hn:n=ys.length) (hr:x4 J F w zF ys us)
  (h:(A=none∧ys=[])∨∃a,A=some a∧∀j x,us[j]? = some x→w.cell? (a.add j)=some x):Src P zF u (.slice A n c) n us w:=by
 subst hn
 rcases h with⟨rfl,rfl⟩|⟨a,rfl,h⟩
 ·have:us=[]:=List.length_eq_zero_iff.1 (by have:=hr.1;simpa using this)
  subst this
  exact Src.ofNil w hu c
 ·exact Src.ofSlice w hu a _ c us hr.1 h λx hx=>by rw[zjU];exact hr.2.1 x hx
theorem grownCap_ge (w:World) (need old:Nat) (e:TypeId):need≤grownCap w need old e:=by
 unfold grownCap Question.cut;simp
theorem yL.drew {J:yK} {F:Nat→Prop} {w:World} {G:Nat→Option zf} (h:yL J F w G):yL J F w.drew G :=
 ⟨λid s hi=>by
  obtain⟨o,h1,h2⟩:=h.obj id s hi
  exact⟨o,h1,xE (w:=w) (w':=w.drew) (yK.le_refl J) (λ_ h=>h) (λ_ _=>rfl) (λ_ _=>rfl) h2⟩,h.one,h.apart,h.lt.mono (w':=w.drew) (λ_ q=>q) (λ_ _=>rfl) h.lt.lt⟩
theorem Ext.drew {J:yK} {F:Nat→Prop} {w:World}:Ext J F w J F w.drew:=⟨rfl,rfl,rfl,Nat.le_refl _,λ_ _ _=>rfl,λ_ _=>rfl,yK.le_refl J,λ_ h=>h,λ_ h=>.inl h,λ_ h=>.inl h⟩
theorem zi4 {J:yK} {F:Nat→Prop} {w:World} {d:D} {v:Value} (h:rep J F w d v):rep J F w.drew d v:=yE (w:=w) (w':=w.drew) (yK.le_refl J) (λ_ h=>h) (λ_ _=>rfl) _ _ h
theorem Wi (size:Nat) (A:Option Addr) (c:Nat) (w:World):(Builtin.firstCells size 0 (.slice A 0 c)).run P w=.ok (List.toArray []) w:=by
 cases A with
 | none=>exact run_firstCells_none w size 0 0 c
 | some a=>exact run_firstCells_some w size 0 a 0 c [] (by simp) (by simp)
theorem zjP {J:yK} {F:Nat→Prop} {w:World} {zF cap n:Nat} {xs:List (List D)} {us:List Value} {z:Array Value} (hr:x4 J F w zF xs us) (hz:z.size=zF) (hn:n=xs.length) (hcap:n≤cap) :
  cap*zF≤(us.toArray++Builtin.zeroCells z (cap-n)).size∧∀(j:Nat) (x:List D),xs[j]? = some x→x.length=zF∧∀(k:Nat) (c:D),x[k]? = some c→∃u,(us.toArray++Builtin.zeroCells z (cap-n))[j*zF+k]? = some u∧yl u=true∧rep J F w c u:=by
 subst hn
 refine⟨?_,λj x hj=>?_⟩
 ·simp only[Array.size_append,List.size_toArray,hr.1,Builtin.zeroCells,Array.size_map,Array.size_range,hz]
  rw[←Nat.add_mul]
  exact Nat.mul_le_mul_right _ (by omega)
 ·obtain⟨q1,q2⟩:=hr.2.2 j x hj
  refine⟨q1,λk c hc=>?_⟩
  obtain⟨u,p1,p2,p3⟩:=q2 k c hc
  refine⟨u,?_,p2,p3⟩
  have hlt:j*zF+k<us.length:=by
   rcases Nat.lt_or_ge (j*zF+k) us.length with h|h
   ·exact h
   ·rw[List.getElem?_eq_none h] at p1;cases p1
  rw[Array.getElem?_append_left (by simpa using hlt)]
  simpa using p1
theorem Wb {t u e ty:TypeId} {ei:TypeInfo} (ht:P.underlying t=some (.slice e)) (hi:P.info? e=some ei) {w:World} {A:Option Addr} {sv:Value} (hs:Src P ei.size u sv 0 [] w) :
  (Builtin.append_ #[t,u] ty #[.slice A 0 0,sv]).run P w=.ok (.slice A 0 0) w:=by
 rcases hs.kind with⟨e',hk⟩|hk<;>cases A<;>simp[Builtin.append_,run_underlying ht,run_underlying hk,sizeOf,typeInfo,hi,hs.len,hs.cells,storeCells]
theorem zo0 {J:yK} {F:Nat→Prop} {w:World} {G:Nat→Option zf} (h:yL J F w G) (id:Nat) (hid:J id=none) (zF zW:Nat) :
  ∃J',yL J' F w (λi=>if i=id then some (.vec true zW zF []) else G i)∧Ext J F w J' F w∧(∀i,i≠id→J' i=J i)∧rep J' F w (.own id zW 0 0) (.slice none 0 0):=by
 let J':yK:=λi=>if i=id then some ⟨false,zW,none,zF,0,0⟩ else J i
 have hle:J.le J':=λi s hs=>⟨s,by
  have:i≠id:=λe=>by subst e;rw[hid] at hs;cases hs
  simp[J',this,hs],Nat.le_refl _,λ_=>rfl⟩
 refine⟨J',⟨λi s hs=>?_,λi i' s s' b g1 g2 g3 g4=>?_,λi s b o g1 g2 g3 g4=>?_,h.lt⟩,⟨rfl,rfl,rfl,Nat.le_refl _,λ_ _ _=>rfl,λ_ _=>rfl,hle,λ_ h=>h,λb ⟨i,s,hs,hb⟩=>?_,λb hb=>.inl hb⟩,λi hi=>by simp[J',hi],?_⟩
 ·simp only[J'] at hs
  split at hs
  ·rename_i e;subst e
   cases hs
   exact⟨.vec true zW zF [],by simp,rfl,rfl,rfl,rfl,Nat.le_refl _,.inl rfl⟩
  ·rename_i e
   obtain⟨o,h1,h2⟩:=h.obj i s hs
   exact⟨o,by rw[if_neg e];exact h1,xE hle (λ_ h=>h) (λ_ _=>rfl) (λ_ _=>rfl) h2⟩
 ·simp only[J'] at g1 g2
  split at g1
  ·cases g1;simp[Site.uB] at g3
  ·split at g2
   ·cases g2;simp[Site.uB] at g4
   ·exact h.one i i' s s' b g1 g2 g3 g4
 ·simp only[J'] at g1
  split at g1
  ·cases g1;simp[Site.uB] at g2
  ·rename_i e
   rw[if_neg e] at g3
   exact h.apart i s b o g1 g2 g3 g4
 ·simp only[J'] at hs
  split at hs
  ·cases hs;simp[Site.uB] at hb
  ·exact .inl ⟨i,s,hs,hb⟩
 ·simp only[rep]
  exact⟨_,none,0,0,by simp[J'];rfl,rfl,Nat.le_refl _,λ_=>⟨rfl,Nat.le_refl _,Nat.zero_le _,rfl,rfl,.inl rfl⟩⟩
theorem zg8 {t u e e':TypeId} {ty:TypeId} {x y:Operand} {z:Value} {ys:List (List D)} {rd:List Nat} (ht:P.underlying t=some (.slice e)) (hu:P.underlying u=some (.slice e')) (hz:(P.info? e).bind (·.zero)=some z) (hzs:z.cells.size=P.cellsOf e) (hpos:0<P.cellsOf e) (hbp:0<P.bytesOf e)
  (hoty:o.type=ty) (ho:o.op=.call { callee:=.builtin .append,args:=#[x,y],argTypes:=#[t,u] }) (hx:y0 env x=.sc (.slice none 0 0))
  (hy:∀(J:yK) (F:Nat→Prop) (w:World) (G:Nat→Option zf) (v:Value),yL J F w G→(∀id∈rd,G id=H[id]?)→rep J F w (y0 env y) v →
   ∃A c us,v=.slice A ys.length c∧x4 J F w (P.cellsOf e) ys us∧((A=none∧ys=[])∨∃a,A=some a∧∀j u,us[j]? = some u→w.cell? (a.add j)=some u))
  (hfit:y5 0 (P.bytesOf e) ys.length) (hK:K (.own H.length 0 0 ys.length) (H++[.vec true 0 (P.cellsOf e) ys]) rd [H.length]):Sound P o env H K:=by
 obtain⟨ei,hi1,hi2⟩:=wv (e:=e) (P:=P) (by omega)
 have hi3:ei.bytes=P.bytesOf e:=by simp[Program.bytesOf,hi1]
 have hz':ei.zero=some z:=by simpa [hi1] using hz
 refine YX hK λJ F w a G hok hops hrd hn=>?_
 have k1:=hops x (by simp[ho,Op.operands,Call.operands])
 rw[hx] at k1
 simp only[rep] at k1
 obtain⟨A,c,us,k2,k3,k4⟩:=hy J F w G _ hok hrd (hops y (by simp[ho,Op.operands,Call.operands]))
 have hsrc:=zpC (P:=P) (n:=ys.length) (c:=c) hu rfl k3 k4
 rw[←hi2] at hsrc
 have hfit':(0+ys.length)*ei.bytes≤140737488355328:=by unfold y5 at hfit;rw[hi3];exact hfit
 rcases Nat.eq_zero_or_pos ys.length with h00|h0
 ·have hy0:ys=[]:=List.length_eq_zero_iff.1 h00
  have hus:us=[]:=List.length_eq_zero_iff.1 (by rw[k3.1,hy0];simp)
  subst hy0 hus
  have run:=Wb (P:=P) (w:=w) (A:=none) (ty:=ty) ht hi1 hsrc
  obtain⟨J',r1,r2,r3,r4⟩:=zo0 (w:=w) hok H.length hn (P.cellsOf e) 0
  refine⟨_,_,J',F,?_,r4,r1,r2,r3⟩
  simp only[execOp,ho,resolve,invoke,builtin,Sem.run_bind,Sem.run,pure,Result.andThen_ok,List.map_toArray,List.map_cons,List.map_nil,k1,k2,hoty]
  rw[run]
  rfl
 have hsmall:ys.length≤140737488355328:=by
  have:ys.length*1≤ys.length*ei.bytes:=Nat.mul_le_mul_left _ (by rw[hi3];exact hbp)
  rw[Nat.zero_add] at hfit';omega
 have run:=run_append_grow_src (P:=P) w t u ty e ei z ht hi1 hz' none 0 0 [] (by exact Wi ei.size none 0 w.drew) (.slice A ys.length c) ys.length us hsrc (by omega) (by omega) (growslice_fits (by omega) hfit')
 rw[Nat.zero_add] at run
 obtain⟨q1,q2⟩:=zjP (cap:=grownCap w ys.length 0 e) k3 hzs rfl (grownCap_ge w _ _ _)
 obtain⟨J',r1,r2,r3,r4⟩:=zaB (w:=w.drew) (zF:=P.cellsOf e) (cap:=grownCap w ys.length 0 e) (xs:=ys) (vals:=us.toArray++Builtin.zeroCells z.cells (grownCap w ys.length 0 e-ys.length)) hok.drew H.length hn e (grownCap_ge w _ _ _) q1 λj x hj=>⟨(q2 j x hj).1,λk c hc=>let⟨u,p1,p2,p3⟩:=(q2 j x hj).2 k c hc;⟨u,p1,p2,zi4 p3⟩⟩
 refine⟨_,_,J',F,?_,r4,r1,Ext.drew.trans r2,r3⟩
 simp only[List.nil_append] at run
 simp only[execOp,ho,resolve,invoke,builtin,Sem.run_bind,Sem.run,pure,Result.andThen_ok,List.map_toArray,List.map_cons,List.map_nil,k1,k2,hoty]
 rw[run]
 rfl
theorem yK.zg4 {J:yK} {id:Nat} {s s':Site} (h:J id=some s) (hr:s.row=false) (hv:s.zW<s'.zW):J.le (λi=>if i=id then some s' else J i):=λi t ht=>by
 by_cases e:i=id
 ·subst e
  rw[h] at ht;cases ht
  exact⟨s',by simp,by omega,λq=>by rcases q with q|q;· omega
                                   ·rw[hr] at q;cases q⟩
 ·exact⟨t,by simp[e,ht],Nat.le_refl _,λ_=>rfl⟩
theorem zla {J:yK} {F:Nat→Prop} {w:World} {G:Nat→Option zf} (h:yL J F w G) (id:Nat) {s:Site} (hs:J id=some s) (hrow:s.row=false) {zW zF cap:Nat} (hver:s.zW<zW) {xs:List (List D)} {vals:Array Value} (te:TypeId)
  (hlen:xs.length≤cap) (hsz:cap*zF≤vals.size) (hx:∀(j:Nat) (x:List D),xs[j]? = some x→x.length=zF∧∀(k:Nat) (c:D),x[k]? = some c→∃u,vals[j*zF+k]? = some u∧yl u=true∧rep J F w c u) :
  ∃J',yL J' F (w.alloc (.cells vals te)) (λi=>if i=id then some (.vec true zW zF xs) else G i)∧Ext J F w J' F (w.alloc (.cells vals te)) ∧
   (∀i,i≠id→J' i=J i)∧rep J' F (w.alloc (.cells vals te)) (.own id zW 0 xs.length) (.slice (some ⟨w.heap.size,0,none⟩) xs.length cap):=by
 have hle:=yK.zg4 (s':=⟨false,zW,some ⟨w.heap.size,0,none⟩,zF,cap,xs.length⟩) hs hrow hver
 have hF:∀b,F b→(w.alloc (.cells vals te)).heap[b]? = w.heap[b]?:=λb hb=>wk w _ (h.lt b hb)
 have hrows:yd (λi=>if i=id then some ⟨false,zW,some ⟨w.heap.size,0,none⟩,zF,cap,xs.length⟩ else J i) F (w.alloc (.cells vals te)) w.heap.size zF xs 0:=by
  refine wX _ _ λj x hj=>?_
  obtain⟨k1,k2⟩:=hx j x hj
  refine⟨k1,xg _ _ λk c hc=>?_⟩
  obtain⟨u,q1,q0,q2⟩:=k2 k c hc
  exact⟨u,by simp[q1],q0,yE hle (λ_ h=>h) hF _ _ q2⟩
 have hbs:∀b,Site.uB ⟨false,zW,some ⟨w.heap.size,0,none⟩,zF,cap,xs.length⟩=some b→b=w.heap.size:=λb hb=>by
  unfold Site.uB at hb
  split at hb
  ·cases hb
  ·simpa using hb.symm
 refine⟨_,h.update id ⟨false,zW,some ⟨w.heap.size,0,none⟩,zF,cap,xs.length⟩ (.vec true zW zF xs) (λ_=>rfl) (λ_=>rfl) hle hF (by simp) (λi s b _ hi hb=>wk w _ (h.xd hi hb)) (λb hb=>.inl (by rw[hbs b hb];exact Nat.le_refl _)) (λi s b hi hb=>h.xd hi hb) (λb hb _ hFb=>?_)
  ⟨rfl,rfl,rfl,rfl,hlen,.inr ⟨w.heap.size,0,vals,te,rfl,heap_alloc_new w _,by simpa using hsz,hrows,λq=>by cases q⟩⟩,?_,λi hi=>by simp[hi],?_⟩
 ·have:=h.lt b hFb
  rw[hbs b hb] at this;omega
 ·exact⟨rfl,rfl,rfl,by simp,λb hb _=>wk w _ hb,hF,hle,λ_ h=>h,λb ⟨i,t,hi,hb⟩=>by
   dsimp only at hi
   by_cases e:i=id
   ·rw[if_pos e] at hi;cases hi
    exact .inr (by rw[hbs b hb];exact Nat.le_refl _)
   ·rw[if_neg e] at hi
    exact .inl ⟨i,t,hi,hb⟩,λb hb=>.inl hb⟩
 ·simp only[rep]
  exact⟨_,_,_,_,by simp;rfl,rfl,Nat.le_refl _,λ_=>⟨rfl,Nat.zero_le _,Nat.le_refl _,by simp,by simp,.inr ⟨w.heap.size,0,rfl,by simp⟩⟩⟩
theorem zkK {ob:zf} {id:Nat} {d:D} {rd:List Nat} (hid:id<H.length) (hK:K d (H.set id ob) rd [id])
  (h:∀(J:yK) (F:Nat→Prop) (w:World) (a:Act) (G:Nat→Option zf),yL J F w G→(∀x∈o.op.operands,rep J F w (y0 env x) (a.eval x))→(∀i∈rd,G i=H[i]?)→G id=H[id]? →
   ∃v w' J' F',(execOp a.eval o).run P w=.ok (.value v) w'∧rep J' F' w' d v∧yL J' F' w' (λi=>if i=id then some ob else G i)∧Ext J F w J' F' w'∧(∀i,i≠id→J' i=J i)):Sound P o env H K:=by
 refine⟨d,H.set id ob,rd,[id],⟨λi hi=>?_,by simp,λi hi=>by simp at hi;simp[hi,hid],λJ F w a G hok hops hrd hnew K Q hK=>?_⟩,hK⟩
 ·simp at hi
  rw[List.getElem?_set_ne (λe=>hi e.symm)]
 ·obtain⟨v,w',J',F',h1,h2,h3,h4,h5⟩:=h J F w a G hok hops (λi hi=>hrd i (.inl hi)) (hrd id (.inr (by simp)))
  have hu:Q1 G [id] (H.set id ob)=λi=>if i=id then some ob else G i:=zb6 G _ id ob (by simp[hid])
  unfold Oper.wp
  rw[h1,Oper.upon_value]
  exact hK v w' J' F' h2 (by rw[hu];exact h3) h4 λi hi hn=>by rw[h5 i (by simpa using hn)];exact hi
theorem zah {t u e ty:TypeId} {ei:TypeInfo} (ht:P.underlying t=some (.slice e)) (hi:P.info? e=some ei) {w w':World} {b off sLen sCap n:Nat} {sv:Value} {us:List Value} (hs:Src P ei.size u sv n us w) (hroom:sLen+n≤sCap)
  (hst:(storeCells ⟨b,off+sLen*ei.size,none⟩ us 0).run P w=.ok () w') :
  (Builtin.append_ #[t,u] ty #[.slice (some ⟨b,off,none⟩) sLen sCap,sv]).run P w=.ok (.slice (some ⟨b,off,none⟩) (sLen+n) sCap) w':=by
 rcases hs.kind with⟨e',hk⟩|hk<;>simp[Builtin.append_,run_underlying ht,run_underlying hk,sizeOf,typeInfo,hi,hs.len,hroom,hs.cells,vW,hst]
theorem zhI {t u e e':TypeId} {ty:TypeId} {x y:Operand} {z:Value} {ys zs:List (List D)} {rd:List Nat} {id zW lo hi:Nat} (ht:P.underlying t=some (.slice e)) (hu:P.underlying u=some (.slice e')) (hz:(P.info? e).bind (·.zero)=some z) (hzs:z.cells.size=P.cellsOf e) (hpos:0<P.cellsOf e) (hbp:0<P.bytesOf e)
  (hoty:o.type=ty) (ho:o.op=.call { callee:=.builtin .append,args:=#[x,y],argTypes:=#[t,u] }) (hx:y0 env x=.own id zW lo hi) (hH:H[id]? = some (.vec true zW (P.cellsOf e) zs))
  (hy:∀(J:yK) (F:Nat→Prop) (w:World) (G:Nat→Option zf) (v:Value),yL J F w G→(∀id∈rd,G id=H[id]?)→rep J F w (y0 env y) v →
   ∃A c us,v=.slice A ys.length c∧x4 J F w (P.cellsOf e) ys us∧((A=none∧ys=[])∨∃a,A=some a∧∀j u,us[j]? = some u→w.cell? (a.add j)=some u))
  (hfit:y5 (hi-lo) (P.bytesOf e) ys.length) (hK:K (.own id (zW+1) 0 (hi-lo+ys.length)) (H.set id (.vec true (zW+1) (P.cellsOf e) ((zs.take hi).drop lo++ys))) rd [id]):Sound P o env H K:=by
 obtain⟨ei,hi1,hi2⟩:=wv (e:=e) (P:=P) (by omega)
 have hi3:ei.bytes=P.bytesOf e:=by simp[Program.bytesOf,hi1]
 have hz':ei.zero=some z:=by simpa [hi1] using hz
 have hidl:id<H.length:=by
  rcases Nat.lt_or_ge id H.length with h|h
  ·exact h
  ·rw[List.getElem?_eq_none h] at hH;cases hH
 refine zkK hidl hK λJ F w a G hok hops hrd hG=>?_
 have k1:=hops x (by simp[ho,Op.operands,Call.operands])
 rw[hx] at k1
 simp only[rep] at k1
 obtain⟨s,A0,n0,c0,q1,q2,q3,q4⟩:=k1
 obtain⟨A,c,us,k2,k3,k4⟩:=hy J F w G _ hok hrd (hops y (by simp[ho,Op.operands,Call.operands]))
 have hsrc:=zpC (P:=P) (n:=ys.length) (c:=c) hu rfl k3 k4
 rw[←hi2] at hsrc
 have hfit':(hi-lo+ys.length)*ei.bytes≤140737488355328:=by unfold y5 at hfit;rw[hi3];exact hfit
 have hsmall:hi-lo+ys.length≤140737488355328:=by
  have:(hi-lo+ys.length)*1≤(hi-lo+ys.length)*ei.bytes:=Nat.mul_le_mul_left _ (by rw[hi3];exact hbp)
  omega
 obtain⟨p1,p2,p3,p4,p5,p6⟩:=Qe hok q1 (hG.trans hH)
 obtain⟨t1,t2,t3,t4,t5,t6⟩:=q4 p2.symm
 have P6:=Lib.hid p6
 have T6:=Lib.hid t6
 clear p6 t6 q4
 have hlen:((zs.take hi).drop lo).length=hi-lo:=by simp;omega
 have exec:∀r w',(Builtin.append_ #[t,u] ty #[.slice A0 n0 c0,.slice A ys.length c]).run P w=.ok r w'→(execOp a.eval o).run P w=.ok (.value r) w':=by
  intro r w' hr
  simp only[execOp,ho,resolve,invoke,builtin,Sem.run_bind,Sem.run,pure,Result.andThen_ok,List.map_toArray,List.map_cons,List.map_nil,q2,k2,hoty]
  rw[hr]
  rfl
 -- the old cells
 have hold:∃olds,x4 J F w (P.cellsOf e) ((zs.take hi).drop lo) olds∧(Builtin.firstCells ei.size n0 (.slice A0 n0 c0)).run P w.drew=.ok olds.toArray w.drew:=by
  by_cases hc:s.cap=lo
  ·have h0:(zs.take hi).drop lo=[]:=List.length_eq_zero_iff.1 (by omega)
   refine⟨[],by rw[h0];exact x4.nil _,?_⟩
   have hn0:n0=0:=by omega
   subst hn0
   exact Wi _ _ _ _
  ·rcases T6.out with h|⟨b,o',e1,e2⟩
   ·exact absurd h hc
   ·rcases P6.out with h|⟨b',o'',vals,te,e3,e4,e5,e6,_⟩
    ·omega
    ·rw[e1] at e3;cases e3
     obtain⟨olds,r1,r2⟩:=qT _ _ (vC e6 lo hi)
     refine⟨olds,r1,?_⟩
     subst e2
     refine run_firstCells_some (P:=P) w.drew ei.size n0 _ n0 c0 olds (by rw[r1.1,hi2,hlen,t4]) λj v hv=>?_
     rw[vW,p3]
     exact r2 j v hv
 obtain⟨olds,ho1,ho2⟩:=hold
 have hall:x4 J F w (P.cellsOf e) ((zs.take hi).drop lo++ys) (olds++us):=ho1.append k3
 have htot:((zs.take hi).drop lo++ys).length=hi-lo+ys.length:=by rw[List.length_append,hlen]
 by_cases hroom:n0+ys.length≤c0
 ·by_cases hc:s.cap=lo
  ·have hy0:ys=[]:=List.length_eq_zero_iff.1 (by omega)
   have hn0:n0=0:=by omega
   have hc0:c0=0:=by omega
   have h0:(zs.take hi).drop lo=[]:=List.length_eq_zero_iff.1 (by omega)
   have hus:us=[]:=List.length_eq_zero_iff.1 (by rw[k3.1,hy0];simp)
   subst hy0 hn0 hc0 hus
   have run:=exec _ _ (Wb (P:=P) (ty:=ty) ht hi1 hsrc)
   have hle:=yK.zg4 (s':=⟨false,zW+1,none,P.cellsOf e,0,0⟩) q1 t1 (by show s.zW<zW+1;omega)
   refine⟨_,w,_,F,run,?_,hok.update id ⟨false,zW+1,none,P.cellsOf e,0,0⟩ _ (λ_=>rfl) (λ_=>rfl) hle (λ_ _=>rfl) (Nat.le_refl _) (λ_ _ _ _ _ _=>rfl) (λb hb=>by simp[Site.uB] at hb) (λi s b hi hb=>hok.xd hi hb) (λb hb=>by simp[Site.uB] at hb) ⟨rfl,rfl,rfl,by rw[h0];rfl,Nat.le_refl _,.inl rfl⟩,?_,λi hi=>by simp[hi]⟩
   ·simp only[rep]
    exact⟨_,_,_,_,by simp;rfl,rfl,Nat.le_refl _,λ_=>⟨rfl,by omega,by simp;omega,by simp;omega,by simp,.inl rfl⟩⟩
   ·exact⟨rfl,rfl,rfl,Nat.le_refl _,λ_ _ _=>rfl,λ_ _=>rfl,hle,λ_ h=>h,λb ⟨i,t,hi,hb⟩=>by
     dsimp only at hi
     by_cases e:i=id
     ·rw[if_pos e] at hi;cases hi
      simp[Site.uB] at hb
     ·rw[if_neg e] at hi
      exact .inl ⟨i,t,hi,hb⟩,λb hb=>.inl hb⟩
  ·rcases T6.out with h|⟨b,o',e1,e2⟩
   ·exact absurd h hc
   rcases P6.out with h|⟨b',o'',vals,te,e3,e4,e5,e6,_⟩
   ·omega
   rw[e1] at e3;cases e3
   subst e2
   have hb1:(n0+ys.length)*P.cellsOf e≤(s.cap-lo)*P.cellsOf e:=Nat.mul_le_mul_right _ (by omega)
   have hb2:(s.cap-lo)*P.cellsOf e+lo*P.cellsOf e=s.cap*P.cellsOf e:=by rw[←Nat.add_mul];congr 1;omega
   have hb3:us.length=ys.length*P.cellsOf e:=k3.1
   rw[Nat.add_mul] at hb1
   obtain⟨w',r1,r2⟩:=uj (P:=P) (b:=b) (o:=o'+lo*s.zF+n0*ei.size) us 0 w vals te e4 (by rw[p3,hi2];omega) k3.2.1
   rw[Nat.add_zero] at r2
   have run:=exec _ _ (zah (P:=P) (ty:=ty) ht hi1 hsrc hroom r1)
   have hle:=yK.zg4 (s':=⟨false,zW+1,some ⟨b,o'+lo*s.zF,none⟩,P.cellsOf e,s.cap-lo,hi-lo+ys.length⟩) q1 t1 (by show s.zW<zW+1;omega)
   have hown:s.uB=some b:=by
    have:¬(s.row=false∧s.cap=0):=λh=>by omega
    simp[Site.uB,this,e1]
   have hnF:¬F b:=hok.apart id s b _ q1 hown (hG.trans hH) rfl
   have hFw:∀z,F z→w'.heap[z]? = w.heap[z]?:=λz hzF=>r2.other z λe=>hnF (e▸hzF)
   have hbs:∀b1,Site.uB ⟨false,zW+1,some ⟨b,o'+lo*s.zF,none⟩,P.cellsOf e,s.cap-lo,hi-lo+ys.length⟩=some b1→b1=b:=λb1 hb=>by
    unfold Site.uB at hb
    split at hb
    ·cases hb
    ·simpa using hb.symm
   obtain⟨vals',s1,s2,s3⟩:=r2.here
   have hrows:yd (λi=>if i=id then some ⟨false,zW+1,some ⟨b,o'+lo*s.zF,none⟩,P.cellsOf e,s.cap-lo,hi-lo+ys.length⟩ else J i) F w' b (P.cellsOf e) ((zs.take hi).drop lo++ys) (o'+lo*s.zF):=by
    obtain⟨olds',m1,m2⟩:=qT _ _ (vC e6 lo hi)
    have hm:=m1.append k3
    refine x4.lie (us:=olds'++us) (hm.mono λd v h=>yE hle (λ_ h=>h) hFw _ _ h) λj v hv=>?_
    have hol:olds'.length=n0*P.cellsOf e:=by rw[m1.1,hlen,t4]
    rw[r2.cell e4]
    by_cases hj:j<olds'.length
    ·rw[if_neg (by rw[hi2];omega)]
     rw[List.getElem?_append_left hj] at hv
     have:=m2 j v hv
     rwa [p3]
    ·rw[List.getElem?_append_right (by omega)] at hv
     have hjl:j-olds'.length<us.length:=by
      rcases Nat.lt_or_ge (j-olds'.length) us.length with h|h
      ·exact h
      ·rw[List.getElem?_eq_none h] at hv;cases hv
     rw[if_pos (by rw[hi2];omega),show o'+lo*s.zF+j-(o'+lo*s.zF+n0*ei.size)=j-olds'.length by rw[hi2];omega]
     exact hv
   refine⟨_,w',_,F,run,?_,hok.update id ⟨false,zW+1,some ⟨b,o'+lo*s.zF,none⟩,P.cellsOf e,s.cap-lo,hi-lo+ys.length⟩ _ (λ_=>rfl) (λ_=>rfl) hle hFw (by rw[r2.size];exact Nat.le_refl _) (λi s' b' hne hi hb=>r2.other b' λe=>hne (hok.one i id s' s b' hi q1 hb (e▸hown))) (λb1 hb=>.inr ⟨s,q1,by rw[hbs b1 hb];exact hown⟩) (λi s b hi hb=>hok.xd hi hb) (λb1 hb _=>by rw[hbs b1 hb];exact hnF)
    ⟨rfl,rfl,rfl,htot.symm,by show hi-lo+ys.length≤s.cap-lo;omega,.inr ⟨b,o'+lo*s.zF,vals',te,rfl,s1,by rw[s2,p3];show o'+lo*P.cellsOf e+(s.cap-lo)*P.cellsOf e≤vals.size;omega,hrows,λq=>by cases q⟩⟩,?_,λi hi=>by simp[hi]⟩
   ·simp only[rep]
    exact⟨_,_,_,_,by simp;rfl,rfl,Nat.le_refl _,λ_=>⟨rfl,Nat.zero_le _,Nat.le_refl _,by simp;omega,by simp;omega,.inr ⟨b,_,rfl,by simp⟩⟩⟩
   ·refine r2.ext hok hle ⟨id,s,q1,hown⟩ (λx ⟨i,t,hi,hb⟩=>?_) hnF
    dsimp only at hi
    by_cases e:i=id
    ·rw[if_pos e] at hi;cases hi
     rw[hbs x hb]
     exact⟨id,s,q1,hown⟩
    ·rw[if_neg e] at hi
     exact⟨i,t,hi,hb⟩
 ·have run:=exec _ _ (run_append_grow_src (P:=P) w t u ty e ei z ht hi1 hz' A0 n0 c0 olds ho2 (.slice A ys.length c) ys.length us hsrc (by omega) (by omega) (growslice_fits (by omega) (by rw[t4];exact hfit')))
  obtain⟨g1,g2⟩:=zjP (n:=n0+ys.length) (cap:=grownCap w (n0+ys.length) c0 e) hall hzs (by rw[htot,t4]) (grownCap_ge w _ _ _)
  obtain⟨J',r1,r2,r3,r4⟩:=zla (w:=w.drew) (zW:=zW+1) (zF:=P.cellsOf e) (cap:=grownCap w (n0+ys.length) c0 e) (xs:=(zs.take hi).drop lo++ys) (vals:=(olds++us).toArray++Builtin.zeroCells z.cells (grownCap w (n0+ys.length) c0 e-(n0+ys.length))) hok.drew id q1 t1 (by show s.zW<zW+1;omega) e (by rw[htot,←t4];exact grownCap_ge w _ _ _) g1 λj x hj=>⟨(g2 j x hj).1,λk c hc=>let⟨u,p1,p2,p3⟩:=(g2 j x hj).2 k c hc;⟨u,p1,p2,zi4 p3⟩⟩
  rw[htot] at r4
  refine⟨_,_,J',F,run,?_,r1,Ext.drew.trans r2,r3⟩
  rw[t4]
  rw[t4] at r4
  exact r4
end
end
section
open Go.RowKit
mutual
def D.yy (ρ:Nat→Nat):D→D
 | .xt=>.xt
 | .sc v=>.sc v
 | .loc id off=>.loc (ρ id) off
 | .elt id zW i off=>.elt (ρ id) zW i off
 | .xk cs=>.xk (yG ρ cs)
 | .xj e xs=>.xj e (vw ρ xs)
 | .own id zW lo hi=>.own (ρ id) zW lo hi
 | .fn f a b=>.fn f (yG ρ a) (yG ρ b)
 | .ifc t d=>.ifc t (D.yy ρ d)
 | .agg cs=>.agg (yG ρ cs)
 | .yI cs=>.yI (yG ρ cs)
 | .mp id=>.mp (ρ id)
 | .gv g=>.gv g
def yG (ρ:Nat→Nat):List D→List D
 | []=>[]
 | d::r=>D.yy ρ d::yG ρ r
def vw (ρ:Nat→Nat):List (List D)→List (List D)
 | []=>[]
 | d::r=>yG ρ d::vw ρ r
end
def zf.yy (ρ:Nat→Nat):zf→zf
 | .row m cs=>.row m (yG ρ cs)
 | .vec m zW zF xs=>.vec m zW zF (vw ρ xs)
 | .xL m I=>.xL m I
theorem Yk (x:Nat):∀n,x∈zhh n↔x<n
 | 0=>by simp[zhh]
 | n+1=>by simp only[zhh,List.mem_cons,Yk x n];omega
theorem qg {m:Nat}:∀{l:List zf},wq m l→∀o∈l,o.under m
 | [],_,_,h=>by cases h
 | x::r,h,o,ho=>by
  simp only[wq] at h
  rcases List.mem_cons.1 ho with rfl|ho
  ·exact h.1
  ·exact qg h.2 o ho
mutual
theorem zq {m:Nat}:∀d:D,Pure d→zp m d
 | .xt,_=>by simp only[zp]
 | .sc _,_=>by simp only[zp]
 | .gv _,_=>by simp only[zp]
 | .loc ..,h=>by simp only[Pure] at h
 | .elt ..,h=>by simp only[Pure] at h
 | .own ..,h=>by simp only[Pure] at h
 | .mp ..,h=>by simp only[Pure] at h
 | .xk cs,h=>by simp only[Pure] at h;simp only[zp];exact zt cs h
 | .xj _ xs,h=>by simp only[Pure] at h;simp only[zp];exact zg xs h
 | .fn _ a b,h=>by simp only[Pure] at h;simp only[zp];exact⟨zt a h.1,zt b h.2⟩
 | .ifc _ d,h=>by simp only[Pure] at h;simp only[zp];exact zq d h
 | .agg cs,h=>by simp only[Pure] at h;simp only[zp];exact zt cs h
 | .yI cs,h=>by simp only[Pure] at h;simp only[zp];exact zt cs h
theorem zt {m:Nat}:∀d:List D,ze d→zl m d
 | [],_=>by simp only[zl]
 | d::r,h=>by simp only[ze] at h;simp only[zl];exact⟨zq d h.1,zt r h.2⟩
theorem zg {m:Nat}:∀d:List (List D),yv d→zD m d
 | [],_=>by simp only[zD]
 | d::r,h=>by simp only[yv] at h;simp only[zD];exact⟨zt d h.1,zg r h.2⟩
end
mutual
theorem yx {ρ:Nat→Nat}:∀d:D,Pure d→D.yy ρ d=d
 | .xt,_=>by simp only[D.yy]
 | .sc _,_=>by simp only[D.yy]
 | .gv _,_=>by simp only[D.yy]
 | .loc ..,h=>by simp only[Pure] at h
 | .elt ..,h=>by simp only[Pure] at h
 | .own ..,h=>by simp only[Pure] at h
 | .mp ..,h=>by simp only[Pure] at h
 | .xk cs,h=>by simp only[Pure] at h;simp only[D.yy,xU cs h]
 | .xj _ xs,h=>by simp only[Pure] at h;simp only[D.yy,yo xs h]
 | .fn _ a b,h=>by simp only[Pure] at h;simp only[D.yy,xU a h.1,xU b h.2]
 | .ifc _ d,h=>by simp only[Pure] at h;simp only[D.yy,yx d h]
 | .agg cs,h=>by simp only[Pure] at h;simp only[D.yy,xU cs h]
 | .yI cs,h=>by simp only[Pure] at h;simp only[D.yy,xU cs h]
theorem xU {ρ:Nat→Nat}:∀d:List D,ze d→yG ρ d=d
 | [],_=>by simp only[yG]
 | d::r,h=>by simp only[ze] at h;simp only[yG,yx d h.1,xU r h.2]
theorem yo {ρ:Nat→Nat}:∀d:List (List D),yv d→vw ρ d=d
 | [],_=>by simp only[vw]
 | d::r,h=>by simp only[yv] at h;simp only[vw,xU d h.1,yo r h.2]
end
theorem zeJ {ρ:Nat→Nat}:∀d:List D,(yG ρ d).length=d.length
 | []=>by simp only[yG]
 | d::r=>by simp only[yG,List.length_cons,zeJ r]
theorem zap {ρ:Nat→Nat}:∀d:List (List D),(vw ρ d).length=d.length
 | []=>by simp only[vw]
 | d::r=>by simp only[vw,List.length_cons,zap r]
section
variable {J:yK} {F:Nat→Prop} {w:World} {ρ:Nat→Nat}
mutual
theorem XU:∀(d:D) (v:Value),rep (λi=>J (ρ i)) F w d v↔rep J F w (D.yy ρ d) v
 | .xt,v=>by simp only[D.yy,rep]
 | .sc u,v=>by simp only[D.yy,rep]
 | .gv u,v=>by simp only[D.yy,rep]
 | .loc ..,v=>by simp only[D.yy,rep]
 | .elt ..,v=>by simp only[D.yy,rep]
 | .own ..,v=>by simp only[D.yy,rep]
 | .mp ..,v=>by simp only[D.yy,rep]
 | .xk cs,v=>by
  simp only[D.yy,rep]
  exact⟨λ⟨b,o,h1,h2,h3⟩=>⟨b,o,h1,h2,(wS b cs o).1 h3⟩,λ⟨b,o,h1,h2,h3⟩=>⟨b,o,h1,h2,(wS b cs o).2 h3⟩⟩
 | .xj e xs,v=>by
  simp only[D.yy,rep,zap]
  exact⟨λ⟨A,n,c,h1,h2,h3,h4⟩=>⟨A,n,c,h1,h2,h3,h4.imp_right λ⟨b,o,k1,k2,k3⟩=>⟨b,o,k1,k2,(qE b e xs o).1 k3⟩⟩,
   λ⟨A,n,c,h1,h2,h3,h4⟩=>⟨A,n,c,h1,h2,h3,h4.imp_right λ⟨b,o,k1,k2,k3⟩=>⟨b,o,k1,k2,(qE b e xs o).2 k3⟩⟩⟩
 | .fn f a b,v=>by
  simp only[D.yy,rep]
  exact⟨λ⟨vs,us,h1,h2,h3⟩=>⟨vs,us,h1,(vH a vs).1 h2,(vH b us).1 h3⟩,λ⟨vs,us,h1,h2,h3⟩=>⟨vs,us,h1,(vH a vs).2 h2,(vH b us).2 h3⟩⟩
 | .ifc t d,v=>by
  simp only[D.yy,rep]
  exact⟨λ⟨u,h1,h2⟩=>⟨u,h1,(XU d u).1 h2⟩,λ⟨u,h1,h2⟩=>⟨u,h1,(XU d u).2 h2⟩⟩
 | .agg cs,v=>by
  simp only[D.yy,rep]
  exact⟨λ⟨vs,h1,h2⟩=>⟨vs,h1,(vH cs vs).1 h2⟩,λ⟨vs,h1,h2⟩=>⟨vs,h1,(vH cs vs).2 h2⟩⟩
 | .yI cs,v=>by
  simp only[D.yy,rep]
  exact⟨λ⟨vs,h1,h2⟩=>⟨vs,h1,(vH cs vs).1 h2⟩,λ⟨vs,h1,h2⟩=>⟨vs,h1,(vH cs vs).2 h2⟩⟩
theorem vH:∀(d:List D) (v:List Value),zY (λi=>J (ρ i)) F w d v↔zY J F w (yG ρ d) v
 | [],v=>by simp only[yG,zY]
 | d::r,v=>by
  simp only[yG,zY]
  exact⟨λ⟨u,us,h1,h2,h3⟩=>⟨u,us,h1,(XU d u).1 h2,(vH r us).1 h3⟩,λ⟨u,us,h1,h2,h3⟩=>⟨u,us,h1,(XU d u).2 h2,(vH r us).2 h3⟩⟩
theorem wS (b:Nat):∀(d:List D) (o:Nat),zN (λi=>J (ρ i)) F w b d o↔zN J F w b (yG ρ d) o
 | [],o=>by simp only[yG,zN]
 | d::r,o=>by
  simp only[yG,zN]
  exact⟨λ⟨⟨u,h1,h2,h3⟩,h4⟩=>⟨⟨u,h1,h2,(XU d u).1 h3⟩,(wS b r (o+1)).1 h4⟩,λ⟨⟨u,h1,h2,h3⟩,h4⟩=>⟨⟨u,h1,h2,(XU d u).2 h3⟩,(wS b r (o+1)).2 h4⟩⟩
theorem qE (b zF:Nat):∀(d:List (List D)) (o:Nat),yd (λi=>J (ρ i)) F w b zF d o↔yd J F w b zF (vw ρ d) o
 | [],o=>by simp only[vw,yd]
 | d::r,o=>by
  simp only[vw,yd,zeJ]
  exact⟨λ⟨h1,h2,h3⟩=>⟨h1,(wS b d o).1 h2,(qE b zF r (o+zF)).1 h3⟩,λ⟨h1,h2,h3⟩=>⟨h1,(wS b d o).2 h2,(qE b zF r (o+zF)).2 h3⟩⟩
end
theorem Un {s:Site} {o:zf}:Yl (λi=>J (ρ i)) F w s o↔Yl J F w s (o.yy ρ):=by
 cases o with
 | row m cs =>
  simp only[zf.yy,Yl,zeJ]
  exact⟨λ⟨h1,h2,h3,h4,h5,b,vals,te,k1,k2,k3,k4,k5⟩=>⟨h1,h2,h3,h4,h5,b,vals,te,k1,k2,k3,(wS b cs 0).1 k4,k5⟩,λ⟨h1,h2,h3,h4,h5,b,vals,te,k1,k2,k3,k4,k5⟩=>⟨h1,h2,h3,h4,h5,b,vals,te,k1,k2,k3,(wS b cs 0).2 k4,k5⟩⟩
 | vec m zW zF xs =>
  simp only[zf.yy,Yl,zap]
  exact⟨λ⟨h1,h2,h3,h4,h5,h6⟩=>⟨h1,h2,h3,h4,h5,h6.imp_right λ⟨b,o,vals,te,k1,k2,k3,k4,k5⟩=>⟨b,o,vals,te,k1,k2,k3,(qE b zF xs o).1 k4,k5⟩⟩,
   λ⟨h1,h2,h3,h4,h5,h6⟩=>⟨h1,h2,h3,h4,h5,h6.imp_right λ⟨b,o,vals,te,k1,k2,k3,k4,k5⟩=>⟨b,o,vals,te,k1,k2,k3,(qE b zF xs o).2 k4,k5⟩⟩⟩
 | xL m I=>exact Iff.rfl
theorem zca {o:zf}:(o.yy ρ).mut=o.mut:=by cases o<;>rfl
end
def yg (m:Nat) (J:yK):yK:=λi=>if i<m then J i else none
section
variable {J:yK} {F:Nat→Prop} {w:World} {m:Nat}
mutual
theorem Wt:∀(d:D) (v:Value),zp m d→rep J F w d v→rep (yg m J) F w d v
 | .xt,v,_,_=>by simp only[rep]
 | .sc u,v,_,h=>by simpa only[rep] using h
 | .gv u,v,_,h=>by simpa only[rep] using h
 | .loc id off,v,hu,h=>by
  simp only[zp] at hu
  simp only[rep,yg,if_pos hu] at h ⊢
  exact h
 | .elt id zW i off,v,hu,h=>by
  simp only[zp] at hu
  simp only[rep,yg,if_pos hu] at h ⊢
  exact h
 | .own id zW lo hi,v,hu,h=>by
  simp only[zp] at hu
  simp only[rep,yg,if_pos hu] at h ⊢
  exact h
 | .mp id,v,hu,h=>by
  simp only[zp] at hu
  simp only[rep,yg,if_pos hu] at h ⊢
  exact h
 | .xk cs,v,hu,h=>by
  simp only[zp] at hu
  simp only[rep] at h ⊢
  obtain⟨b,o,h1,h2,h3⟩:=h
  exact⟨b,o,h1,h2,uO b cs o hu h3⟩
 | .xj e xs,v,hu,h=>by
  simp only[zp] at hu
  simp only[rep] at h ⊢
  obtain⟨A,n,c,h1,h2,h3,h4⟩:=h
  exact⟨A,n,c,h1,h2,h3,h4.imp_right λ⟨b,o,k1,k2,k3⟩=>⟨b,o,k1,k2,YM b e xs o hu k3⟩⟩
 | .fn f a b,v,hu,h=>by
  simp only[zp] at hu
  simp only[rep] at h ⊢
  obtain⟨vs,us,h1,h2,h3⟩:=h
  exact⟨vs,us,h1,ZN a vs hu.1 h2,ZN b us hu.2 h3⟩
 | .ifc t d,v,hu,h=>by
  simp only[zp] at hu
  simp only[rep] at h ⊢
  obtain⟨u,h1,h2⟩:=h
  exact⟨u,h1,Wt d u hu h2⟩
 | .agg cs,v,hu,h=>by
  simp only[zp] at hu
  simp only[rep] at h ⊢
  obtain⟨vs,h1,h2⟩:=h
  exact⟨vs,h1,ZN cs vs hu h2⟩
 | .yI cs,v,hu,h=>by
  simp only[zp] at hu
  simp only[rep] at h ⊢
  obtain⟨vs,h1,h2⟩:=h
  exact⟨vs,h1,ZN cs vs hu h2⟩
theorem ZN:∀(d:List D) (v:List Value),zl m d→zY J F w d v→zY (yg m J) F w d v
 | [],v,_,h=>by simpa only[zY] using h
 | d::r,v,hu,h=>by
  simp only[zl] at hu
  simp only[zY] at h ⊢
  obtain⟨u,us,h1,h2,h3⟩:=h
  exact⟨u,us,h1,Wt d u hu.1 h2,ZN r us hu.2 h3⟩
theorem uO (b:Nat):∀(d:List D) (o:Nat),zl m d→zN J F w b d o→zN (yg m J) F w b d o
 | [],o,_,h=>by simp only[zN]
 | d::r,o,hu,h=>by
  simp only[zl] at hu
  simp only[zN] at h ⊢
  obtain⟨⟨u,h1,h2,h3⟩,h4⟩:=h
  exact⟨⟨u,h1,h2,Wt d u hu.1 h3⟩,uO b r (o+1) hu.2 h4⟩
theorem YM (b zF:Nat):∀(d:List (List D)) (o:Nat),zD m d→yd J F w b zF d o→yd (yg m J) F w b zF d o
 | [],o,_,h=>by simp only[yd]
 | d::r,o,hu,h=>by
  simp only[zD] at hu
  simp only[yd] at h ⊢
  exact⟨h.1,uO b d o hu.1 h.2.1,YM b zF r (o+zF) hu.2 h.2.2⟩
end
theorem Qz {s:Site} {o:zf} (hu:o.under m) (h:Yl J F w s o):Yl (yg m J) F w s o:=by
 cases o with
 | row q cs =>
  obtain⟨h1,h2,h3,h4,h5,b,vals,te,k1,k2,k3,k4,k5⟩:=h
  exact⟨h1,h2,h3,h4,h5,b,vals,te,k1,k2,k3,uO b cs 0 hu k4,k5⟩
 | vec q zW zF xs =>
  obtain⟨h1,h2,h3,h4,h5,h6⟩:=h
  exact⟨h1,h2,h3,h4,h5,h6.imp_right λ⟨b,o,vals,te,k1,k2,k3,k4,k5⟩=>⟨b,o,vals,te,k1,k2,k3,YM b zF xs o hu k4,k5⟩⟩
 | xL q I=>exact h
end
mutual
theorem zhG:∀d:D,D.yy (λi=>i) d=d
 | .xt|.sc _|.gv _|.loc ..|.elt ..|.own ..|.mp ..=>by simp only[D.yy]
 | .xk cs=>by simp only[D.yy,ZX cs]
 | .xj e xs=>by simp only[D.yy,zdC xs]
 | .fn f a b=>by simp only[D.yy,ZX a,ZX b]
 | .ifc t d=>by simp only[D.yy,zhG d]
 | .agg cs=>by simp only[D.yy,ZX cs]
 | .yI cs=>by simp only[D.yy,ZX cs]
theorem ZX:∀d:List D,yG (λi=>i) d=d
 | []=>by simp only[yG]
 | d::r=>by simp only[yG,zhG d,ZX r]
theorem zdC:∀d:List (List D),vw (λi=>i) d=d
 | []=>by simp only[vw]
 | d::r=>by simp only[vw,ZX d,zdC r]
end
theorem zcf (o:zf):o.yy (λi=>i)=o:=by cases o<;>simp only[zf.yy,ZX,zdC]
open Classical in
noncomputable def back (ρ:Nat→Nat) (n:Nat) (id:Nat):Option Nat:=if h:∃i,i<n∧ρ i=id then some (Classical.choose h) else none
theorem xi {ρ:Nat→Nat} {n id i:Nat} (h:back ρ n id=some i):i<n∧ρ i=id:=by
 unfold back at h
 split at h
 ·rename_i hh
  cases h
  exact Classical.choose_spec hh
 ·cases h
theorem ZH {ρ:Nat→Nat} {n id:Nat} (h:back ρ n id=none):∀i,i<n→ρ i≠id:=by
 unfold back at h
 split at h
 ·cases h
 ·rename_i hh
  exact λi hi e=>hh ⟨i,hi,e⟩
theorem zmA {ρ:Nat→Nat} {n i:Nat} (inj:∀i j,i<n→j<n→ρ i=ρ j→i=j) (hi:i<n):back ρ n (ρ i)=some i:=by
 cases h:back ρ n (ρ i) with
 | none=>exact absurd rfl (ZH h i hi)
 | some j =>
  obtain⟨h1,h2⟩:=xi h
  rw[inj j i h1 hi h2]
section
variable {P:Program} {f:FuncId}
theorem vz {α:Type} {l:List α} {i:Nat} {x:α} (h:l[i]? = some x):i<l.length:=by
 rcases Nat.lt_or_ge i l.length with q|q
 ·exact q
 ·rw[List.getElem?_eq_none q] at h;cases h
theorem Qq {args:List D} {H0 H0':List zf} {d:D} (ρ:Nat→Nat) (hA:yB P f args H0 d H0') (inj:∀i j,i<H0'.length→j<H0'.length→ρ i=ρ j→i=j) {J:yK} {F:Nat→Prop} {w:World} {vs:List Value} {G G':Nat→Option zf} (hst:yL J F w G)
  (hold:∀i o,H0[i]? = some o→G (ρ i)=some (o.yy ρ)) (hnew:∀i,H0.length≤i→i<H0'.length→J (ρ i)=none) (hrep:zY J F w (yG ρ args) vs)
  (h1:∀i o,H0'[i]? = some o→G' (ρ i)=some (o.yy ρ)) (h2:∀j,(∀i,i<H0'.length→ρ i≠j)→G' j=G j)
  (hargs:zl H0.length args) (hobj:∀o∈H0,o.under H0.length) :
  Calls P f vs.toArray w λe w'=>∃v J' F',e=.returned v∧yL J' F' w' G'∧(∀id,J' id≠none→J id≠none∨∃i,i<H0'.length∧ρ i=id)∧rep J' F' w' (D.yy ρ d) v∧Ext J F w J' F' w':=by
 obtain⟨hok,hl0,hrun⟩:=hA
 have h0get:∀i,i<H0.length→H0[i]? = some (H0[i]!):=λi hi=>by rw[List.getElem!_eq_getElem?_getD,List.getElem?_eq_getElem hi];rfl
 have hst0:yL (yg H0.length λi=>J (ρ i)) F w (λi=>H0[i]?):=by
  refine⟨λi s hs=>?_,λi i' s s' b g1 g2 g3 g4=>?_,λi s b o g1 g2 g3 g4=>?_,hst.lt⟩
  ·unfold yg at hs
   split at hs
   ·rename_i hi
    have ho:=h0get i hi
    refine⟨_,ho,Qz (hobj _ (List.mem_of_getElem? ho)) (Un.2 ?_)⟩
    obtain⟨o',q1,q2⟩:=hst.obj (ρ i) s hs
    rw[hold i _ ho] at q1
    cases q1
    exact q2
   ·cases hs
  ·unfold yg at g1 g2
   split at g1<;>split at g2
   ·exact inj i i' (by omega) (by omega) (hst.one (ρ i) (ρ i') s s' b g1 g2 g3 g4)
   all_goals first|cases g1|cases g2
  ·unfold yg at g1
   split at g1
   ·exact hst.apart (ρ i) s b (o.yy ρ) g1 g2 (hold i o g3) (by rw[zca];exact g4)
   ·cases g1
 have hd0:∀id,yg H0.length (λi=>J (ρ i)) id≠none→id<H0.length:=λid hid=>by
  unfold yg at hid
  split at hid
  ·assumption
  ·exact absurd rfl hid
 have hr0:zY (yg H0.length λi=>J (ρ i)) F w args vs:=ZN _ _ hargs ((vH args vs).2 hrep)
 have own0:∀b,Zm (yg H0.length λi=>J (ρ i)) b→∃i s,i<H0.length∧J (ρ i)=some s∧s.uB=some b:=λb ⟨i,s,hs,hb⟩=>by
  unfold yg at hs
  split at hs
  ·exact⟨i,s,by assumption,hs,hb⟩
  ·cases hs
 have main:=hrun _ F w vs hst0 hd0 hr0
 refine Calls.mono main λe w' ⟨v,J0',F',he,st',dom',rp',ex⟩=>?_
 let J':yK:=λid=>match back ρ H0'.length id with|some i=>J0' i|none=>J id
 have jat:∀i,i<H0'.length→J' (ρ i)=J0' i:=λi hi=>by simp only[J',zmA inj hi]
 have jno:∀id,back ρ H0'.length id=none→J' id=J id:=λid h=>by simp only[J',h]
 have hle:J.le J':=λid s hs=>by
  cases e:back ρ H0'.length id with
  | none=>exact⟨s,by rw[jno id e];exact hs,Nat.le_refl _,λ_=>rfl⟩
  | some i =>
   obtain⟨k1,rfl⟩:=xi e
   have hi:i<H0.length:=by
    rcases Nat.lt_or_ge i H0.length with q|q
    ·exact q
    ·rw[hnew i q k1] at hs;cases hs
   obtain⟨s',g1,g2⟩:=ex.le i s (by simp only[yg,if_pos hi];exact hs)
   exact⟨s',by rw[jat i k1];exact g1,g2⟩
 have hleρ:J0'.le (λi=>J' (ρ i)):=λi s hs=>⟨s,by
  dsimp only
  rw[jat i (dom' i (by rw[hs];simp))];exact hs,Nat.le_refl _,λ_=>rfl⟩
 have nown:∀id s b,back ρ H0'.length id=none→J id=some s→s.uB=some b→¬Zm (yg H0.length λi=>J (ρ i)) b:=λid s b hb hs hblk ho=>by
  obtain⟨i,s',k1,k2,k3⟩:=own0 b ho
  exact ZH hb i (by omega) (hst.one (ρ i) id s' s b k2 hs k3 hblk)
 refine⟨v,J',F',he,⟨λid s hs=>?_,λid id' s s' b g1 g2 g3 g4=>?_,λid s b o g1 g2 g3 g4=>?_,st'.lt⟩,λid hid=>?_,(XU d v).1 (yE hleρ (λ_ h=>h) (λ_ _=>rfl) _ _ rp'),?_⟩
 ·cases e:back ρ H0'.length id with
  | some i =>
   obtain⟨k1,rfl⟩:=xi e
   rw[jat i k1] at hs
   obtain⟨o,q1,q2⟩:=st'.obj i s hs
   exact⟨o.yy ρ,h1 i o q1,Un.1 (xE hleρ (λ_ h=>h) (λ_ _=>rfl) (λ_ _=>rfl) q2)⟩
  | none =>
   rw[jno id e] at hs
   obtain⟨o,q1,q2⟩:=hst.obj id s hs
   refine⟨o,?_,xE hle ex.grow ex.frozen (λb hb=>ex.block b (hst.xd hs hb) (nown id s b e hs hb)) q2⟩
   rw[h2 id λi hi=>ZH e i hi]
   exact q1
 ·cases e:back ρ H0'.length id with
  | some i =>
   obtain⟨k1,rfl⟩:=xi e
   rw[jat i k1] at g1
   cases e':back ρ H0'.length id' with
   | some i' =>
    obtain⟨k1',rfl⟩:=xi e'
    rw[jat i' k1'] at g2
    rw[st'.one i i' s s' b g1 g2 g3 g4]
   | none =>
    rw[jno id' e'] at g2
    rcases ex.xM b ⟨i,s,g1,g3⟩ with q|q
    ·exact absurd q (nown id' s' b e' g2 g4)
    ·have:=hst.xd g2 g4;omega
  | none =>
   rw[jno id e] at g1
   cases e':back ρ H0'.length id' with
   | some i' =>
    obtain⟨k1',rfl⟩:=xi e'
    rw[jat i' k1'] at g2
    rcases ex.xM b ⟨i',s',g2,g4⟩ with q|q
    ·exact absurd q (nown id s b e g1 g3)
    ·have:=hst.xd g1 g3;omega
   | none =>
    rw[jno id' e'] at g2
    exact hst.one id id' s s' b g1 g2 g3 g4
 ·have g3':G' id=some o:=g3
  cases e:back ρ H0'.length id with
  | some i =>
   obtain⟨k1,rfl⟩:=xi e
   rw[jat i k1] at g1
   obtain⟨o0,q1,_⟩:=st'.obj i s g1
   rw[h1 i o0 q1] at g3'
   cases g3'
   exact st'.apart i s b o0 g1 g2 q1 (by rw[zca] at g4;exact g4)
  | none =>
   rw[jno id e] at g1
   rw[h2 id λi hi=>ZH e i hi] at g3'
   intro hx
   rcases ex.we b hx with q|q|q
   ·exact hst.apart id s b o g1 g2 g3' g4 q
   ·exact nown id s b e g1 g2 q
   ·have:=hst.xd g1 g2;omega
 ·cases e:back ρ H0'.length id with
  | some i =>
   obtain⟨k1,rfl⟩:=xi e
   exact .inr ⟨i,k1,rfl⟩
  | none =>
   rw[jno id e] at hid
   exact .inl hid
 ·refine⟨ex.os,ex.tape,ex.output,ex.size,λb hb hn=>ex.block b hb λho=>?_,ex.frozen,hle,ex.grow,λb ⟨id,s,hs,hb⟩=>?_,λb hb=>?_⟩
  ·obtain⟨i,s,_,k2,k3⟩:=own0 b ho
   exact hn ⟨ρ i,s,k2,k3⟩
  ·cases e:back ρ H0'.length id with
   | some i =>
    obtain⟨k1,rfl⟩:=xi e
    rw[jat i k1] at hs
    refine(ex.xM b ⟨i,s,hs,hb⟩).imp_left λq=>?_
    obtain⟨k,s',_,k2,k3⟩:=own0 b q
    exact⟨ρ k,s',k2,k3⟩
   | none =>
    rw[jno id e] at hs
    exact .inl ⟨id,s,hs,hb⟩
  ·rcases ex.we b hb with q|q|q
   ·exact .inl q
   ·obtain⟨k,s',_,k2,k3⟩:=own0 b q
    exact .inr (.inl ⟨ρ k,s',k2,k3⟩)
   ·exact .inr (.inr q)
end
end
section
open Go.RowKit
section
variable {P:Program} {seq:Bool} {o:Oper} {env:Env} {H:List zf} {K:QH}
theorem zxQ {src dst:TypeId} {k0 k:IntKind} {x:Operand} (hs:P.underlying src=some (.int k0)) (hd:P.underlying dst=some (.int k)) (ho:o.op=.convert src dst x) (h:step P seq (.conv k x) env H K):Sound P o env H K:=by
 simp only[step,yC] at h
 split at h
 ·rename_i q n e
  refine zG (qa _ _ _ h) λJ F w a G _ hops _=>⟨_,?_,rfl⟩
  have k1:=hops x (by simp[ho,Op.operands])
  rw[e] at k1
  simp only[rep] at k1
  simp[execOp,ho,k1,convert,underlying,program,Sem.run,hs,hd,Conv.intToInt,pure]
 ·exact h.elim
theorem zvX {src dst e:TypeId} {x:Operand} (hs:P.underlying src=some (.slice e)) (hd:P.underlying dst=some .string) (he:P.underlying e=some (.int .u8)) (ho:o.op=.convert src dst x) (h:step P seq (.zwJ x) env H K):Sound P o env H K:=by
 simp only[step,yC] at h
 obtain⟨ys,rd,⟨ns,rfl,hK⟩,hy⟩:=zgu h
 refine zG hK λJ F w a G hok hops hrd=>?_
 obtain⟨A,c,us,q1,⟨r1,_,r3⟩,q3⟩:=hy J F w G _ hok hrd (hops x (by simp[ho,Op.operands]))
 have hus:us=ns.map (Value.int .u8):=by
  apply List.ext_getElem?
  intro j
  rw[List.getElem?_map]
  by_cases hj:j<ns.length
  ·obtain⟨u,p1,_,p3⟩:=(r3 j [.sc (.int .u8 ns[j])] (by rw[List.getElem?_map,List.getElem?_eq_getElem hj];rfl)).2 0 _ rfl
   simp only[rep] at p3
   subst p3
   rw[Nat.mul_one,Nat.add_zero] at p1
   rw[p1,List.getElem?_eq_getElem hj];rfl
  ·rw[List.getElem?_eq_none (by rw[r1];simpa using hj),List.getElem?_eq_none (by omega)];rfl
 rw[List.length_map] at q1
 refine⟨_,?_,rfl⟩
 have key:(convert src dst (a.eval x)).run P w=.ok (.string (ns.foldl (λr n=>r.push (UInt8.ofNat n.toNat)) ByteArray.empty)) w:=by
  rw[q1,run_convert_bytes_string w src dst e A _ c hs he hd]
  rcases q3 with⟨rfl,q⟩|⟨ad,rfl,q⟩
  ·have:ns=[]:=by simpa using q
   subst this
   simp[Conv.bytesToString,pure,Sem.run]
  ·refine run_bytesToString w ad _ c ns ?_
   have:=run_loadCells_list (P:=P) w ad us q
   rwa [hus,List.length_map] at this
 simp only[execOp,ho,Sem.run_bind,key,Result.andThen_ok,pure,Sem.run]
theorem zzx {args:Array Operand} {ts:Array TypeId} {x y:Operand} (ha:args.toList=[x,y]) (ho:o.op=.call { callee:=.builtin .max,args:=args,argTypes:=ts }) (h:step P seq (.mx true x y) env H K):Sound P o env H K:=by
 obtain⟨args⟩:=args
 simp only at ha
 subst ha
 simp only[step,yC] at h
 split at h
 ·rename_i k n e1
  split at h
  ·rename_i k' m e2
   refine zG h λJ F w a G _ hops _=>⟨_,?_,rfl⟩
   have k1:=hops x (by simp[ho,Op.operands,Call.operands])
   have k2:=hops y (by simp[ho,Op.operands,Call.operands])
   rw[e1] at k1
   rw[e2] at k2
   simp only[rep] at k1 k2
   have e:(if m>n then m else n)=max n m:=by omega
   simp only[execOp,ho,resolve,invoke,builtin,Sem.run_bind,Sem.run,pure,Result.andThen_ok,List.map_toArray,List.map_cons,List.map_nil,k1,k2]
   have hr:=Go.run_max_int2 (P:=P) w ts o.type k k' n m
   rw[e] at hr
   rw[hr]
   rfl
  ·exact h.elim
 ·exact h.elim
theorem zzF {args:Array Operand} {ts:Array TypeId} {x y:Operand} (ha:args.toList=[x,y]) (ho:o.op=.call { callee:=.builtin .min,args:=args,argTypes:=ts }) (h:step P seq (.mx false x y) env H K):Sound P o env H K:=by
 obtain⟨args⟩:=args
 simp only at ha
 subst ha
 simp only[step,yC] at h
 split at h
 ·rename_i k n e1
  split at h
  ·rename_i k' m e2
   refine zG h λJ F w a G _ hops _=>⟨_,?_,rfl⟩
   have k1:=hops x (by simp[ho,Op.operands,Call.operands])
   have k2:=hops y (by simp[ho,Op.operands,Call.operands])
   rw[e1] at k1
   rw[e2] at k2
   simp only[rep] at k1 k2
   have e:(if m<n then m else n)=min n m:=by omega
   simp only[execOp,ho,resolve,invoke,builtin,Sem.run_bind,Sem.run,pure,Result.andThen_ok,List.map_toArray,List.map_cons,List.map_nil,k1,k2]
   have hr:=Go.run_min_int2 (P:=P) w ts o.type k k' n m
   rw[e] at hr
   rw[hr]
   rfl
  ·exact h.elim
 ·exact h.elim
theorem zj1 {J:yK} {F:Nat→Prop} {w:World}:∀(cs:List D) (vs:List Value),ZJ cs=true→zY J F w cs vs→vs=cs.map scV
 | [],vs,_,h=>by simp only[zY] at h;simp[h]
 | d::r,vs,h,k=>by
  simp only[zY] at k
  obtain⟨v,us,rfl,h1,h2⟩:=k
  simp only[ZJ] at h
  cases d with
  | sc u =>
   simp only[isScalar] at h
   simp only[rep] at h1
   subst h1
   rw[List.map_cons,←zj1 r us h h2]
   rfl
  | _=>simp[isScalar] at h
theorem zc4 {d:D} {K':Value→Prop} (h:zpx d K'):∃key,K' key∧∀(J:yK) (F:Nat→Prop) (w:World) (v:Value),rep J F w d v→v=key:=by
 unfold zpx at h
 split at h
 ·rename_i u
  exact⟨u,h,λJ F w v hv=>by simpa only[rep] using hv⟩
 ·rename_i cs
  refine⟨_,h.2,λJ F w v hv=>?_⟩
  simp only[rep] at hv
  obtain⟨vs,rfl,k⟩:=hv
  rw[zj1 cs vs h.1 k]
 ·exact h.elim
theorem zuc {t kt:TypeId} (ho:o.op=.makeMap t none) (h:step P seq (.zfR kt) env H K):Sound P o env H K:=by
 simp only[step,vy] at h
 refine YX h λJ F w a G hok hops hrd hn=>?_
 obtain⟨h1,h2⟩:=hok.zqY H.length hn ⟨true,0,some ⟨w.heap.size,0,none⟩,1,1,1⟩ (.xL true (uA P kt λ_=>none)) (.map #[] 0) rfl
  ⟨rfl,w.heap.size,#[],0,rfl,heap_alloc_new w _,by simp,by simp,by simp⟩
 refine⟨.map (some w.heap.size),_,_,F,?_,?_,h1,h2,λi hi=>by simp[hi]⟩
 ·simp only[execOp,ho,Option.map_none,Sem.run_bind,run_makeMap,Result.andThen_ok]
  rfl
 ·simp only[rep]
  exact⟨_,w.heap.size,by simp;rfl,rfl,rfl,rfl⟩
theorem zrn {J:yK} {F:Nat→Prop} {w:World} {G:Nat→Option zf} (h:yL J F w G) {id:Nat} {v:Value} {m:Bool} {I:Array MapEntry→Prop} (h1:rep J F w (.mp id) v) (h3:G id=some (.xL m I)) :
  ∃s b es clock,J id=some s∧s.row=true∧s.ad=some ⟨b,0,none⟩∧v=.map (some b)∧w.heap[b]? = some (.map es clock)∧I es:=by
 simp only[rep] at h1
 obtain⟨s,b,q1,q2,q3,rfl⟩:=h1
 obtain⟨o,k1,k2⟩:=h.obj id s q1
 rw[h3] at k1
 cases k1
 obtain⟨_,b',es,clock,p1,p2,p3⟩:=k2
 rw[q3] at p1
 cases p1
 exact⟨s,b,es,clock,q1,q2,q3,rfl,p2,p3⟩
theorem zx8 {t kt e:TypeId} {z:Value} {m x:Operand} (ht:P.underlying t=some (.map kt e)) (hz:(P.info? e).bind (·.zero)=some z) (hz1:yl z=true) (ho:o.op=.lookup t m x true) (h:step P seq (.look kt z m x) env H K):Sound P o env H K:=by
 simp only[step,yC] at h
 split at h
 ·rename_i id e1
  obtain⟨ob,h1,h2⟩:=(yA _ _ _).1 h
  split at h2
  ·rename_i mm I
   obtain⟨key,⟨f,rfl,Kd,⟨l,hl⟩,hS,hN⟩,hkey⟩:=zc4 h2
   have go:∀(ok:Bool) (v:Value),(∀(J:yK) (F:Nat→Prop) (w:World) (a:Act) (b:Nat) (es:Array MapEntry) (clock:Nat),w.heap[b]? = some (.map es clock)→uA P kt f es→(Instr.lookup t (.map (some b)) key true).run P w=.ok (.tuple #[v,.bool ok]) w) →
     K (.yI [.sc v,.sc (.bool ok)]) H [id] []→Sound P o env H K:=λok v hrun hK=>by
    refine zG hK λJ F w a G hok hops hrd=>?_
    have k1:=hops m (by simp[ho,Op.operands])
    have k2:=hkey J F w _ (hops x (by simp[ho,Op.operands]))
    rw[e1] at k1
    obtain⟨s,b,es,clock,q1,q2,q3,q4,q5,q6⟩:=zrn hok k1 (by rw[hrd id (by simp)];exact h1)
    refine⟨.tuple #[v,.bool ok],?_,?_⟩
    ·simp[execOp,ho,q4,k2,hrun J F w a b es clock q5 q6,Sem.run,pure]
    ·simp only[rep]
     exact⟨[v,.bool ok],rfl,by simp only[zY];exact⟨v,[.bool ok],rfl,by simp only[rep],.bool ok,[],rfl,by simp only[rep],rfl⟩⟩
   cases hf:f key with
   | some v =>
    refine go true v (λJ F w a b es clock hb hI=>?_) (hS v hf)
    obtain⟨i1,i2,i3⟩:=hI
    rcases Kd.find w hl es.toList i1 with⟨g1,g2⟩|⟨j,e0,g1,g2,g3⟩
    ·obtain⟨e0,g3,g4⟩:=i3 key v hf
     exact absurd g4 (g2 e0 g3)
    ·have:=i2 e0 (List.mem_of_getElem? g2)
     rw[g3,hf] at this
     cases this
     simp[Instr.lookup,run_underlying ht,MapKept.run_getObj_map hb,Kd.check w _ hl,g1,Result.andThen]
   | none =>
    refine go false z (λJ F w a b es clock hb hI=>?_) (hN hf)
    obtain⟨i1,i2,i3⟩:=hI
    rcases Kd.find w hl es.toList i1 with⟨g1,g2⟩|⟨j,e0,g1,g2,g3⟩
    ·simp[Instr.lookup,run_underlying ht,MapKept.run_getObj_map hb,Kd.check w _ hl,g1,ZV hz,Result.andThen]
    ·have:=i2 e0 (List.mem_of_getElem? g2)
     rw[g3,hf] at this
     cases this
  ·exact h2.elim
 ·exact h.elim
theorem zse {t kt e:TypeId} {m x:Operand} (ht:P.underlying t=some (.map kt e)) (ho:o.op=.lookup t m x false) (h:step P seq (.zme kt m x) env H K):Sound P o env H K:=by
 simp only[step,yC] at h
 split at h
 ·rename_i id e1
  obtain⟨ob,h1,h2⟩:=(yA _ _ _).1 h
  split at h2
  ·rename_i mm I
   obtain⟨key,⟨f,rfl,Kd,⟨l,hl⟩,v,hf,hK⟩,hkey⟩:=zc4 h2
   refine zG hK λJ F w a G hok hops hrd=>?_
   have k1:=hops m (by simp[ho,Op.operands])
   have k2:=hkey J F w _ (hops x (by simp[ho,Op.operands]))
   rw[e1] at k1
   obtain⟨s,b,es,clock,q1,q2,q3,q4,hb,hI⟩:=zrn hok k1 (by rw[hrd id (by simp)];exact h1)
   have hrun:(Instr.lookup t (.map (some b)) key false).run P w=.ok v w:=by
    obtain⟨i1,i2,i3⟩:=hI
    rcases Kd.find w hl es.toList i1 with⟨g1,g2⟩|⟨j,e0,g1,g2,g3⟩
    ·obtain⟨e0,g3,g4⟩:=i3 key v hf
     exact absurd g4 (g2 e0 g3)
    ·have:=i2 e0 (List.mem_of_getElem? g2)
     rw[g3,hf] at this
     cases this
     simp[Instr.lookup,run_underlying ht,MapKept.run_getObj_map hb,Kd.check w _ hl,g1,Result.andThen]
   refine⟨v,?_,by simp only[rep]⟩
   simp[execOp,ho,q4,k2,hrun,Sem.run,pure]
  ·exact h2.elim
 ·exact h.elim
theorem zxf {t kt e:TypeId} {m x v:Operand} (ht:P.underlying t=some (.map kt e)) (ho:o.op=.mapUpdate t m x v) (h:step P seq (.zkm kt m x v) env H K):Sound P o env H K:=by
 simp only[step,yC] at h
 split at h
 ·rename_i id e1
  obtain⟨ob,h1,h2⟩:=(yA _ _ _).1 h
  split at h2
  ·rename_i I
   obtain⟨key,h3,hkey⟩:=zc4 h2
   split at h3
   ·rename_i u e2
    obtain⟨f,rfl,Kd,⟨l,hl⟩,hf,h4⟩:=h3
    obtain⟨h5,h6⟩:=(vP _ _ _ _).1 h4
    refine zaq h5 h6 λJ F w a G hok hops hG=>?_
    have k1:=hops m (by simp[ho,Op.operands])
    have k2:=hkey J F w _ (hops x (by simp[ho,Op.operands]))
    have k3:=hops v (by simp[ho,Op.operands])
    rw[e1] at k1
    rw[e2] at k3
    simp only[rep] at k3
    obtain⟨s,b,es,clock,q1,q2,q3,q4,q5,i1,i2,i3⟩:=zrn hok k1 (hG.trans h1)
    have hown:s.uB=some b:=by simp[Site.uB,q2,q3]
    have hnF:¬F b:=hok.apart id s b _ q1 hown (hG.trans h1) rfl
    have hnk:∀e∈es.toList,e.key≠key:=λe he q=>by
     have:=i2 e he
     rw[q,hf] at this
     cases this
    have hfind:(Instr.findKey kt key es.toList).run P w=.ok none w:=by
     rcases Kd.find w hl es.toList i1 with⟨g1,_⟩|⟨j,e0,_,g2,g3⟩
     ·exact g1
     ·exact absurd g3 (hnk e0 (List.mem_of_getElem? g2))
    have hrun:(Instr.mapUpdate t (.map (some b)) key u).run P w=.ok () { w with heap:=w.heap.setIfInBounds b (.map (es.push { key,val:=u,born:=clock }) (clock+1)) }:=by
     simp[Instr.mapUpdate,run_underlying ht,MapKept.run_getObj_map q5,Kd.check w false hl,hfind,MapKept.run_setObj_map _ q5,Result.andThen]
    have hother:∀i,i≠b→(w.heap.setIfInBounds b (.map (es.push { key,val:=u,born:=clock }) (clock+1)))[i]? = w.heap[i]?:=λi hi=>(MapKept.heap_set q5).2 i hi
    have hFw:∀z,F z→(w.heap.setIfInBounds b (.map (es.push { key,val:=u,born:=clock }) (clock+1)))[z]? = w.heap[z]?:=λz hzF=>hother z λe=>hnF (e▸hzF)
    refine⟨.skip,{ w with heap:=w.heap.setIfInBounds b (.map (es.push { key,val:=u,born:=clock }) (clock+1)) },?_,.inr rfl,rfl,?_,⟨rfl,rfl,rfl,by simp,λx hx hn=>hother x λe=>hn ⟨id,s,q1,by rw[e];exact hown⟩,hFw,yK.le_refl J,λ_ h=>h,λx hx=>.inl hx,λx hx=>.inl hx⟩⟩
    ·simp only[execOp,ho,q4,k2,k3,hrun,Sem.run_bind,Result.andThen_ok]
     rfl
    ·refine hok.update id s _ (λi=>by split;· rename_i e;rw[e];exact q1
                                      ·rfl) (λ_=>rfl) (yK.le_refl J) hFw (by simp) (λi s' b' hne hi hb=>hother b' λe=>hne (hok.one i id s' s b' hi q1 hb (e▸hown))) (λb' hb=>.inr ⟨s,q1,hb⟩) (λi s' b' hi hb=>hok.xd hi hb) (λb' hb _=>by rw[hown] at hb;cases hb;exact hnF) ?_
     refine⟨q2,b,_,_,q3,(MapKept.heap_set q5).1,?_,?_,?_⟩
     ·intro e he
      rw[Array.toList_push,List.mem_append,List.mem_singleton] at he
      rcases he with he|rfl
      ·exact i1 e he
      ·exact⟨l,hl⟩
     ·intro e he
      rw[Array.toList_push,List.mem_append,List.mem_singleton] at he
      unfold QZ
      rcases he with he|rfl
      ·rw[if_neg (hnk e he)];exact i2 e he
      ·rw[if_pos rfl]
     ·intro k' v' hk'
      unfold QZ at hk'
      rw[Array.toList_push]
      split at hk'
      ·rename_i e;cases hk'
       exact⟨_,List.mem_append_right _ (List.mem_singleton.2 rfl),e.symm⟩
      ·obtain⟨e,g1,g2⟩:=i3 k' v' hk'
       exact⟨e,List.mem_append_left _ g1,g2⟩
   ·exact h3.elim
  ·exact h2.elim
 ·exact h.elim
end
end
section
open Go.RowKit
def zvC (P:Program) (o:Oper) (env:Env) (H:List zf) (d:D) (H2:List zf):Prop :=
 H.length≤H2.length∧∀(J:yK) (F:Nat→Prop) (w:World) (a:Act),yL J F w (λi=>H[i]?)→(∀id,J id≠none→id<H.length)→(∀x∈o.op.operands,rep J F w (y0 env x) (a.eval x)) →
  ∀(K:Act→World→Prop) (Q:Exit→Act→World→Prop),
   (∀v w' J' F',rep J' F' w' d v→yL J' F' w' (λi=>H2[i]?)→Ext J F w J' F' w'→(∀id,J' id≠none→id<H2.length)→K (a.put o.dst v) w')→o.wp P a w K Q
theorem OpS.seq {P:Program} {o:Oper} {env:Env} {rd wr:List Nat} {H:List zf} {d:D} {H2:List zf} (h:OpS P o env rd wr H d H2):zvC P o env H d H2:=by
 refine⟨h.len,λJ F w a hok hdom hops K Q hK=>h.run J F w a _ hok hops (λ_ _=>rfl) (λid hl _=>?_) K Q λv w' J' F' h1 h2 h3 h4=>?_⟩
 ·cases e:J id with
  | none=>rfl
  | some s=>have:=hdom id (by rw[e];simp);omega
 ·refine hK v w' J' F' h1 ?_ h3 λid hid=>?_
  ·have:Q1 (λi=>H[i]?) wr H2=λi=>H2[i]?:=by
    funext i
    unfold Q1
    split
    ·rfl
    ·rename_i hi;exact(h.frame i hi).symm
   rwa [this] at h2
  ·rcases Nat.lt_or_ge id H2.length with hl|hl
   ·exact hl
   ·have hw:id ∉ wr:=λhw=>by have:=h.lt id hw;omega
    have hJ:J id=none:=by
     cases e:J id with
     | none=>rfl
     | some s=>have:=hdom id (by rw[e];simp);have:=h.len;omega
    exact absurd (h4 id hJ hw) hid
theorem yL.za6 {J:yK} {F F':Nat→Prop} {w w':World} {G:Nat→Option zf} (h:yL J F w G) (hb:∀b,b<w.heap.size→w'.heap[b]? = w.heap[b]?) (hsz:w.heap.size≤w'.heap.size) (hF:∀b,F b→F' b) (hback:∀b,F' b→F b∨w.heap.size≤b) (hlt:∀b,F' b→b<w'.heap.size):yL J F' w' G where
 obj id s hi:=by
  obtain⟨o,h1,h2⟩:=h.obj id s hi
  exact⟨o,h1,xE (yK.le_refl J) hF (λb hx=>hb b (h.lt b hx)) (λb hx=>hb b (h.xd hi hx)) h2⟩
 one:=h.one
 apart id s b o hi hs hg hm hx:=by
  rcases hback b hx with q|q
  ·exact h.apart id s b o hi hs hg hm q
  ·have:=h.xd hi hs;omega
 lt:=h.lt.mono hF (λb hx=>hb b (h.lt b hx)) hlt
theorem Ze (b:Nat):¬Zm vt b:=λ⟨_,_,h,_⟩=>by cases h
theorem JS (J:yK):vt.le J:=λ_ _ h=>by cases h
theorem Ext.zpL {J:yK} {F F':Nat→Prop} {w w':World} {G:Nat→Option zf} (hok:yL J F w G) (h:Ext vt F w vt F' w'):Ext J F w J F' w' :=
 ⟨h.os,h.tape,h.output,h.size,λb hb _=>h.block b hb (Ze b),h.frozen,yK.le_refl J,h.grow,λb hb=>.inl hb,λb hb=>(h.we b hb).imp_right λq=>.inr (q.resolve_left (Ze b))⟩
section
variable {J:yK} {F:Nat→Prop} {w:World} {H:List zf} {G:Nat→Option zf}
mutual
theorem WS (hok:yL J F w G) (hG:∀(id:Nat) (o:zf),H[id]? = some o→G id=some o):∀(d e:D) (v:Value),Deep H d e→rep J F w d v→rep J (λb=>F b∨Zm J b) w e v
 | d,_,v,.refl _,h=>yE (yK.le_refl J) (λ_ h=>.inl h) (λ_ _=>rfl) d v h
 | _,_,v,.xt _,_=>by simp only[rep]
 | _,_,v,.none zF,h=>by
  simp only[rep] at h ⊢
  exact⟨none,0,0,h,rfl,Nat.le_refl _,.inl rfl⟩
 | _,_,v,.loc id off m cs ds h k,hv=>by
  simp only[rep] at hv ⊢
  obtain⟨s,b,h1,h2,h3,rfl⟩:=hv
  have hc:=uY (zrq hok h1 h3 (hG _ _ h)) off
  refine⟨b,off,rfl,.inr ⟨id,s,h1,by simp[Site.uB,h2,h3]⟩,?_⟩
  rw[Nat.zero_add] at hc
  exact Yr hok hG _ _ b off k hc
 | _,_,v,.own id zW lo hi zF m xs ys h k,hv=>by
  simp only[rep] at hv ⊢
  obtain⟨s,A,n,c,h1,rfl,h2,h3⟩:=hv
  obtain⟨p1,p2,p3,p4,p5,p6⟩:=Qe hok h1 (hG _ _ h)
  obtain⟨t1,t2,t3,rfl,rfl,t6⟩:=h3 p2.symm
  have hl:ys.length=hi-lo:=by
   rw[←zct _ _ k];simp;omega
  refine⟨A,_,_,rfl,hl.symm,by omega,?_⟩
  rcases t6 with t6|⟨b,o,t6,rfl⟩
  ·exact .inl (by omega)
  ·rcases p6 with p6|⟨b',o',vals,te,e,q1,q2,q3,q4⟩
   ·exact .inl (by omega)
   ·rw[t6] at e;cases e
    by_cases hz:s.cap=0
    ·exact .inl (by omega)
    ·refine .inr ⟨b,_,rfl,.inr ⟨id,s,h1,by simp[Site.uB,hz,t6]⟩,?_⟩
     rw[p3]
     exact VR hok hG _ _ b zF _ k (vC q3 lo hi)
 | _,_,v,.fn f a b c e h k,hv=>by
  simp only[rep] at hv ⊢
  obtain⟨vs,us,rfl,h2,h3⟩:=hv
  exact⟨vs,us,rfl,vx hok hG _ _ vs h h2,vx hok hG _ _ us k h3⟩
 | _,_,v,.ifc t d e h,hv=>by
  simp only[rep] at hv ⊢
  obtain⟨u,rfl,h2⟩:=hv
  exact⟨u,rfl,WS hok hG _ _ u h h2⟩
 | _,_,v,.agg a b h,hv=>by
  simp only[rep] at hv ⊢
  obtain⟨vs,rfl,h2⟩:=hv
  exact⟨vs,rfl,vx hok hG _ _ vs h h2⟩
 | _,_,v,.yI a b h,hv=>by
  simp only[rep] at hv ⊢
  obtain⟨vs,rfl,h2⟩:=hv
  exact⟨vs,rfl,vx hok hG _ _ vs h h2⟩
theorem vx (hok:yL J F w G) (hG:∀(id:Nat) (o:zf),H[id]? = some o→G id=some o):∀(d e:List D) (v:List Value),vJ H d e→zY J F w d v→zY J (λb=>F b∨Zm J b) w e v
 | _,_,v,.nil,h=>by simp only[zY] at h ⊢;exact h
 | _,_,v,.cons d e a b h k,hv=>by
  simp only[zY] at hv ⊢
  obtain⟨u,us,rfl,h2,h3⟩:=hv
  exact⟨u,us,rfl,WS hok hG _ _ u h h2,vx hok hG _ _ us k h3⟩
theorem Yr (hok:yL J F w G) (hG:∀(id:Nat) (o:zf),H[id]? = some o→G id=some o):∀(d e:List D) (b o:Nat),vJ H d e→zN J F w b d o→zN J (λb=>F b∨Zm J b) w b e o
 | _,_,b,o,.nil,h=>by simp only[zN]
 | _,_,b,o,.cons d e x y h k,hv=>by
  simp only[zN] at hv ⊢
  obtain⟨⟨u,h1,h2,h3⟩,h4⟩:=hv
  exact⟨⟨u,h1,h2,WS hok hG _ _ u h h3⟩,Yr hok hG _ _ b (o+1) k h4⟩
theorem VR (hok:yL J F w G) (hG:∀(id:Nat) (o:zf),H[id]? = some o→G id=some o):∀(d e:List (List D)) (b zF o:Nat),uz H d e→yd J F w b zF d o→yd J (λb=>F b∨Zm J b) w b zF e o
 | _,_,b,zF,o,.nil,h=>by simp only[yd]
 | _,_,b,zF,o,.cons d e x y h k,hv=>by
  simp only[yd] at hv ⊢
  obtain⟨h1,h2,h3⟩:=hv
  exact⟨by rw[←zff _ _ h];exact h1,Yr hok hG _ _ b o h h2,VR hok hG _ _ b zF (o+zF) k h3⟩
theorem zff:∀(d e:List D),vJ H d e→d.length=e.length
 | _,_,.nil=>rfl
 | _,_,.cons d e a b _ k=>by simp[zff a b k]
theorem zct:∀(d e:List (List D)),uz H d e→d.length=e.length
 | _,_,.nil=>rfl
 | _,_,.cons d e a b _ k=>by simp[zct a b k]
end
theorem X3 {J':yK} {F':Nat→Prop} {w':World}:∀(ds:List D) (vs:List Value),ZJ ds=true→zY J F w ds vs→zY J' F' w' ds vs
 | [],vs,_,h=>by simp only[zY] at h ⊢;exact h
 | d::r,vs,hs,h=>by
  simp only[ZJ] at hs
  simp only[zY] at h ⊢
  obtain⟨v,us,rfl,h2,h3⟩:=h
  cases e:isScalar d with
  | false=>rw[e] at hs;cases hs
  | true =>
   rw[e] at hs
   refine⟨v,us,rfl,?_,X3 r us hs h3⟩
   cases d<;>simp[isScalar] at e
   simpa only[rep] using h2
theorem zna {J':yK} {F':Nat→Prop} {w':World} {d:D} {v:Value} (hb:zie d=true) (h:rep J F w d v):rep J' F' w' d v:=by
 cases d<;>simp[zie] at hb
 case sc=>simpa only[rep] using h
 case agg cs=>simp only[rep] at h ⊢;obtain⟨vs,h1,h2⟩:=h;exact⟨vs,h1,X3 cs vs hb h2⟩
 case yI cs=>simp only[rep] at h ⊢;obtain⟨vs,h1,h2⟩:=h;exact⟨vs,h1,X3 cs vs hb h2⟩
end
section
variable {P:Program} {seq:Bool} {o:Oper} {env:Env} {H:List zf} {K:QH}
theorem Y8 {f:FuncId} {vs:Array Value} {a:Act} {w:World} {K:Act→World→Prop} {Q:Exit→Act→World→Prop} {R:Ending→World→Prop} (hrun:(execOp a.eval o).run P w=.ok (.enter f vs) w) (hc:Calls P f vs w R)
  (hR:∀e w',R e w'→∃v,e=.returned v∧K (a.put o.dst v) w'):o.wp P a w K Q:=by
 unfold Oper.wp
 rw[hrun,Oper.upon_enter]
 exact hc.mono λe w' h=>by
  obtain⟨v,rfl,hk⟩:=hR e w' h
  exact hk
def Zc (P:Program) (o:Oper) (env:Env) (H:List zf) (K:QH):Prop :=
 ∀(J:yK) (F:Nat→Prop) (w:World) (a:Act),yL J F w (λi=>H[i]?)→(∀id,J id≠none→id<H.length)→(∀x∈o.op.operands,rep J F w (y0 env x) (a.eval x)) →
  ∀(K2:Act→World→Prop) (Q:Exit→Act→World→Prop),
   (∀d H2 rd wr v w' J' F',K d H2 rd wr→rep J' F' w' d v→yL J' F' w' (λi=>H2[i]?)→Ext J F w J' F' w'→(∀id,J' id≠none→id<H2.length)→K2 (a.put o.dst v) w')→o.wp P a w K2 Q
theorem zba {d:D} {H2:List zf} {rd wr:List Nat} (h:zvC P o env H d H2) (hK:K d H2 rd wr):Zc P o env H K:=λJ F w a hok hdom hops K2 Q hK2 =>
 h.2 J F w a hok hdom hops K2 Q λv w' J' F' h1 h2 h3 h4=>hK2 d H2 rd wr v w' J' F' hK h1 h2 h3 h4
theorem zn4 (h:Sound P o env H K):Zc P o env H K:=let⟨_,_,_,_,h1,h2⟩:=h;zba h1.seq h2
theorem wU:∀H:List zf,W3 H=H.map zf.frozen
 | []=>rfl
 | o::r=>by simp only[W3,List.map_cons,wU r]
theorem zdK {f:FuncId} {args:List D} {vals:Act→List Value} (hrun:∀(a:Act) (w:World),zet P f→(∀(J:yK) (F:Nat→Prop),(∀x∈o.op.operands,rep J F w (y0 env x) (a.eval x))→(execOp a.eval o).run P w=.ok (.enter f (vals a).toArray) w))
  (hargs:∀(J:yK) (F:Nat→Prop) (w:World) (a:Act),(∀x∈o.op.operands,rep J F w (y0 env x) (a.eval x))→zY J F w args (vals a)) (h:zqx P seq f args H K) :
  Sound P o env H K∨(seq=true∧Zc P o env H K):=by
 rcases h with⟨d,⟨hf,hp⟩,hK⟩|⟨args',d,hd,⟨hf,hp⟩,hb,hK⟩|⟨hs,d,H2,⟨hf,hl,hp⟩,hK⟩|⟨d,H2,hu,huo,hA,hK⟩|⟨d,H2,L,hA,hK⟩|⟨hs,args',d,hd,⟨hf,hp⟩,hK⟩|⟨d,L,hA,hK⟩
 ·refine .inl ⟨d,H,[],[],⟨λ_ _=>rfl,Nat.le_refl _,(λ_ h=>by cases h),λJ F w a G hok hops _ _ K Q hK=>?_⟩,hK⟩
  refine Y8 (hrun a w hf J F hops) (hp J F w _ hok.lt (hargs J F w a hops)) λe w' hR=>?_
  obtain⟨v,F',rfl,h1,h2,h3⟩:=hR
  refine⟨v,rfl,hK v w' J F' (yE (JS J) (λ_ h=>h) (λ_ _=>rfl) _ _ h2) ?_ (Ext.zpL hok h3) λ_ h _=>h⟩
  rw[W1]
  exact hok.za6 (λb hb=>h3.block b hb (Ze b)) h3.size h3.grow (λb hb=>(h3.we b hb).imp_right λq=>q.resolve_left (Ze b)) h1
 ·refine .inl ⟨d,H,List.range H.length,[],⟨λ_ _=>rfl,Nat.le_refl _,(λ_ h=>by cases h),λJ F w a G hok hops hrd _ K Q hK=>?_⟩,hK⟩
  have hG:∀(id:Nat) (o:zf),H[id]? = some o→G id=some o:=λid o h=>by
   rw[hrd id (.inl ?_)]
   ·exact h
   ·rw[List.mem_range]
    rcases Nat.lt_or_ge id H.length with hl|hl
    ·exact hl
    ·rw[List.getElem?_eq_none hl] at h;cases h
  have hlt:∀b,F b∨Zm J b→b<w.heap.size:=λb hb=>hb.elim (hok.lt b) λ⟨i,s,hi,hs⟩=>hok.xd hi hs
  refine Y8 (hrun a w hf J F hops) (hp J _ w _ (hok.lt.mono (λ_ h=>.inl h) (λ_ _=>rfl) hlt) (vx hok hG _ _ _ hd (hargs J F w a hops))) λe w' hR=>?_
  obtain⟨v,F',rfl,h1,h2,h3⟩:=hR
  have hblk:∀b,b<w.heap.size→w'.heap[b]? = w.heap[b]?:=λb hb=>h3.block b hb (Ze b)
  refine⟨v,rfl,hK v w' J F (zna hb h2) ?_ ⟨h3.os,h3.tape,h3.output,h3.size,λb hb _=>hblk b hb,λb hb=>hblk b (hok.lt b hb),yK.le_refl J,λ_ h=>h,λb hb=>.inl hb,λb hb=>.inl hb⟩ λ_ h _=>h⟩
  rw[W1]
  exact hok.za6 hblk h3.size (λ_ h=>h) (λb hb=>.inl hb) (λb hb=>Nat.lt_of_lt_of_le (hok.lt b hb) h3.size)
 ·refine .inr ⟨hs,zba (d:=d) (H2:=H2) (rd:=[]) (wr:=[]) ⟨hl,λJ F w a hok hdom hops K Q hK=>?_⟩ hK⟩
  refine Y8 (hrun a w hf J F hops) (hp J F w _ hok hdom (hargs J F w a hops)) λe w' hR=>?_
  obtain⟨v,J',F',rfl,h1,h2,h3,h4⟩:=hR
  exact⟨v,rfl,hK v w' J' F' h3 h1 h4 h2⟩
 ·refine .inl ⟨d,H2,zhh H2.length,zhh H2.length,⟨λid hid=>?_,hA.len,λid hid=>(Yk id _).1 hid,λJ F w a G hok hops hrd hnone K Q hK=>?_⟩,hK⟩
  ·have h1:¬id<H2.length:=λh=>hid ((Yk id _).2 h)
   have:=hA.len
   rw[List.getElem?_eq_none (by omega),List.getElem?_eq_none (by omega)]
  ·have core:=Qq (G:=G) (G':=Q1 G (zhh H2.length) H2) (λi=>i) hA (λi j _ _ h=>h) hok (λi o ho=>by
    rw[zcf,hrd i (.inl ((Yk i _).2 (Nat.lt_of_lt_of_le (vz ho) hA.len)))]
    exact ho) (λi h1 h2=>hnone i h1 ((Yk i _).2 h2)) (by rw[ZX];exact hargs J F w a hops) (λi o ho=>by
    rw[zcf]
    unfold Q1
    rw[if_pos ((Yk i _).2 (vz ho))]
    exact ho) (λj hj=>by
    unfold Q1
    rw[if_neg λh=>hj j ((Yk j _).1 h) rfl]) hu (qg huo)
   refine Y8 (hrun a w hA.ok J F hops) core λe w' hR=>?_
   obtain⟨v,J',F',rfl,h1,h2,h3,h4⟩:=hR
   rw[zhG] at h3
   refine⟨v,rfl,hK v w' J' F' h3 h1 h4 λid hid hw=>?_⟩
   cases e:J' id with
   | none=>rfl
   | some s =>
    rcases h2 id (by rw[e];simp) with q|⟨i,q1,q2⟩
    ·exact absurd hid q
    ·subst q2
     exact absurd ((Yk i _).2 q1) hw
 ·refine .inl ⟨d,H2,L,L,⟨λid hid=>hA.frame id hid,hA.len,λid hid=>hA.lt id hid,λJ F w a G hok hops hrd hnone K Q hK=>?_⟩,hK⟩
  refine Y8 (hrun a w hA.ok J F hops) (hA.run J F w _ G hok (λid hid=>hrd id (.inl hid)) (λid hid h=>hnone id h hid) (hargs J F w a hops)) λe w' hR=>?_
  obtain⟨v,J',F',rfl,h1,h2,h3,h4⟩:=hR
  refine⟨v,rfl,hK v w' J' F' h3 h1 h4 λid hid hw=>?_⟩
  cases e:J' id with
  | none=>rfl
  | some s =>
   rcases h2 id (by rw[e];simp) with q|q
   ·exact absurd hid q
   ·exact absurd q hw
 ·refine .inr ⟨hs,λJ F w a hok hdom hops K2 Q hK2=>?_⟩
  have hlt:∀b,F b∨Zm J b→b<w.heap.size:=λb hb=>hb.elim (hok.lt b) λ⟨i,s,hi,hs⟩=>hok.xd hi hs
  refine Y8 (hrun a w hf J F hops) (hp J (λb=>F b∨Zm J b) w _ (hok.lt.mono (λ_ h=>.inl h) (λ_ _=>rfl) hlt) (vx hok (λ_ _ h=>h) _ _ _ hd (hargs J F w a hops))) λe w' hR=>?_
  obtain⟨v,F',rfl,h1,h2,h3⟩:=hR
  have hblk:∀b,b<w.heap.size→w'.heap[b]? = w.heap[b]?:=λb hb=>h3.block b hb (Ze b)
  refine⟨v,rfl,hK2 d _ [] [] v w' J F' hK (yE (JS J) (λ_ h=>h) (λ_ _=>rfl) _ _ h2) ⟨λi s hs=>?_,hok.one,λi s b o g1 g2 g3 g4=>?_,hok.lt.mono (λb hb=>h3.grow b (.inl hb)) (λb hb=>hblk b (hok.lt b hb)) h1⟩ ?_ λid hid=>?_⟩
  ·obtain⟨o,q1,q2⟩:=hok.obj i s hs
   refine⟨o.frozen,?_,?_⟩
   ·rw[wU,List.getElem?_map,q1];rfl
   ·have q3:=xE (J':=J) (F':=F') (w':=w') (yK.le_refl J) (λb hb=>h3.grow b (.inl hb)) (λb hb=>hblk b (hok.lt b hb)) (λb hb=>hblk b (hok.xd hs hb)) q2
    cases o with
    | row m cs =>
     obtain⟨k1,k2,k3,k4,k5,b,vals,te,t1,t2,t3,t4,t5⟩:=q3
     exact⟨k1,k2,k3,k4,k5,b,vals,te,t1,t2,t3,t4,λ_=>h3.grow b (.inr ⟨i,s,hs,by simp[Site.uB,k1,t1]⟩)⟩
    | vec m v e xs =>
     obtain⟨k1,k2,k3,k4,k5,k6⟩:=q3
     refine⟨k1,k2,k3,k4,k5,?_⟩
     by_cases hz:s.cap=0
     ·exact .inl hz
     ·rcases k6 with k6|⟨b,o,vals,te,t1,t2,t3,t4,t5⟩
      ·exact .inl k6
      ·exact .inr ⟨b,o,vals,te,t1,t2,t3,t4,λ_=>h3.grow b (.inr ⟨i,s,hs,by simp[Site.uB,k1,hz,t1]⟩)⟩
    | xL m I=>exact q3
  ·exfalso
   rw[wU,List.getElem?_map] at g3
   cases e:H[i]? with
   | none=>rw[e] at g3;cases g3
   | some x =>
    rw[e] at g3
    cases x<;>cases g3<;>cases g4
  ·exact⟨h3.os,h3.tape,h3.output,h3.size,λb hb _=>hblk b hb,λb hb=>hblk b (hok.lt b hb),yK.le_refl J,λb hb=>h3.grow b (.inl hb),λb hb=>.inl hb,λb hb=>by
    rcases h3.we b hb with q|q|q
    ·rcases q with q|q
     ·exact .inl q
     ·exact .inr (.inl q)
    ·exact absurd q (Ze b)
    ·exact .inr (.inr q)⟩
  ·have:=hdom id hid
   rw[wU,List.length_map]
   exact this
 ·refine .inl ⟨d,H,L,[],⟨λ_ _=>rfl,Nat.le_refl _,(λ_ h=>by cases h),λJ F w a G hok hops hrd _ K Q hK=>?_⟩,hK⟩
  refine Y8 (hrun a w hA.ok J F hops) (hA.run J F w _ G hok (λid hid=>hrd id (.inl hid)) (hargs J F w a hops)) λe w' hR=>?_
  obtain⟨v,J',F',rfl,h1,h2,h3,h4⟩:=hR
  refine⟨v,rfl,hK v w' J' F' h3 (by rw[W1];exact h1) h4 λid hid _=>?_⟩
  cases e:J' id with
  | none=>rfl
  | some s=>exact absurd hid (h2 id (by rw[e];simp))
theorem zeo {J:yK} {F:Nat→Prop} {w:World} {a:Act}:∀(xs:List Operand),(∀x∈xs,rep J F w (y0 env x) (a.eval x))→zY J F w (xs.map (y0 env)) (xs.map a.eval)
 | [],_=>by simp only[List.map_nil,zY]
 | x::r,h=>by
  simp only[List.map_cons,zY]
  exact⟨_,_,rfl,h x (by simp),zeo r λy hy=>h y (by simp[hy])⟩
theorem Jx {f:FuncId} {args:Array Value} {w:World} (h:zet P f):(callFunc f args).run P w=.ok (.enter f args) w:=by
 obtain⟨fn,h1,h2,h3⟩:=h
 simp only[beq_eq_false_iff_ne,ne_eq] at h2
 simp[callFunc,program,Sem.run,h1,h2,pure]
 intro hb
 simp[hb] at h3
theorem zwR {f:FuncId} {args:Array Operand} {ts:Array TypeId} (ho:o.op=.call { callee:=.value (.func f),args,argTypes:=ts }) (h:step P seq (.call f args.toList) env H K) :
  Sound P o env H K∨(seq=true∧Zc P o env H K):=by
 simp only[step,zcp] at h
 refine zdK (vals:=λa=>args.toList.map a.eval) (λa w hf J F hops=>?_) (λJ F w a hops=>zeo _ λx hx=>hops x ?_) h
 ·have e1:args.map a.eval=(args.toList.map a.eval).toArray:=by apply Array.ext';simp
  simp[execOp,ho,resolve,Deferred.ofValue,Act.eval,invoke,Jx hf,Sem.run,pure,e1]
 ·simp[ho,Op.operands,Call.operands]
  exact .inr (by simpa using hx)
theorem zsK {x:Operand} {args:Array Operand} {ts:Array TypeId} (ho:o.op=.call { callee:=.value x,args,argTypes:=ts }) (h:step P seq (.vI x args.toList) env H K) :
  Sound P o env H K∨(seq=true∧Zc P o env H K):=by
 simp only[step,yC,zcp] at h
 split at h
 ·rename_i f first cap e
  have hval:∀(J:yK) (F:Nat→Prop) (w:World) (a:Act),(∀x∈o.op.operands,rep J F w (y0 env x) (a.eval x))→∃vs us,a.eval x=.func (.func f) vs.toArray us.toArray∧zY J F w first vs∧zY J F w cap us:=λJ F w a hops=>by
   have:=hops x (by simp[ho,Op.operands,Call.operands])
   rw[e] at this
   simpa only[rep] using this
  refine zdK (vals:=λa=>match a.eval x with
   | .func _ vs us=>vs.toList++args.toList.map a.eval++us.toList
   | _=>[]) (λa w hf J F hops=>?_) (λJ F w a hops=>?_) h
  ·obtain⟨vs,us,e1,_,_⟩:=hval J F w a hops
   simp only[e1]
   simp only[execOp,ho,resolve,e1,Deferred.ofValue,pure,Sem.run_bind,Sem.run,Result.andThen_ok,invoke,Jx hf]
   congr 2
   apply Array.ext'
   simp
  ·obtain⟨vs,us,e1,e2,e3⟩:=hval J F w a hops
   simp only[e1]
   refine Ym (Ym (by simpa using e2) (zeo _ λy hy=>hops y ?_)) (by simpa using e3)
   simp[ho,Op.operands,Call.operands]
   exact .inr (by simpa using hy)
 ·exact h.elim
theorem zp8 {t u e e':TypeId} {args:Array Operand} {ts:Array TypeId} {x y:Operand} {z:Value} (ha:args.toList=[x,y]) (hts:ts.toList=[t,u]) (ht:P.underlying t=some (.slice e)) (hu:P.underlying u=some (.slice e')) (hz:(P.info? e).bind (·.zero)=some z) (hzs:z.cells.size=P.cellsOf e) (hpos:0<P.cellsOf e) (hbp:0<P.bytesOf e)
  (ho:o.op=.call { callee:=.builtin .append,args,argTypes:=ts }) (h:step P seq (.append (P.cellsOf e) (P.bytesOf e) x y) env H K):Sound P o env H K:=by
 have ea:args=#[x,y]:=Array.ext' (by simpa using ha)
 have et:ts=#[t,u]:=Array.ext' (by simpa using hts)
 subst ea et
 simp only[step,yC] at h
 obtain⟨ys,rd,h,hy⟩:=zgu h
 split at h
 ·rename_i e1
  obtain⟨h1,h2⟩:=h
  rw[vy] at h2
  exact zg8 ht hu hz hzs hpos hbp rfl ho e1 hy h1 h2
 ·rename_i id zW lo hi e1
  obtain⟨ob,h1,h2⟩:=(yA _ _ _).1 h
  split at h2
  ·rename_i ver' esz' zs
   obtain⟨hv,h2⟩:=h2
   subst hv
   obtain⟨he,h3,h4⟩:=(xW _ _ _).1 h2
   subst he
   obtain⟨_,h5⟩:=(vP _ _ _ _).1 h4
   exact zhI ht hu hz hzs hpos hbp rfl ho e1 h1 hy h3 h5
  ·exact h2.elim
 ·exact h.elim
end
end
end
end Go.Proofs.YthoklahpcibacaaGreatDoor
