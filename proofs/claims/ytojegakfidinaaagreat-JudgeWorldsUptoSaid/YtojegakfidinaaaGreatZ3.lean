/-
  Parts of a proof, joined. No statement is proved here.
-/
import Derived.Test.YtojegakfidinaaaGreatZ1
import Derived.Test.YtojegakfidinaaaGreatZ2
import Derived.Test.YtojegakfidinaaaGreatProg
namespace Go.Proofs.YtojegakfidinaaaGreat
set_option linter.unusedSimpArgs false
set_option linter.unusedVariables false
set_option maxRecDepth 100000
section
section
def eAdd : List Pr→List Pr→List Int→List Pr × List Int
 | [],L,o=>(L,o)
 | p :: r,L,o=>eAdd r (addP L p) (o ++ [(idxP (addP L p) p : Int)])
theorem addP_pre (L : List Pr) (p : Pr) : ∃ X,addP L p = L ++ X:=by
 unfold addP
 split
 ·exact ⟨[],by simp⟩
 ·exact ⟨[p],rfl⟩
theorem zlC {L X : List Pr} {p : Pr} (h : p∈L) : idxP (L ++ X) p = idxP L p:=by
 unfold idxP; rw [List.idxOf_append,if_pos h]
theorem zfn : ∀ (ps L : List Pr) (o : List Int),∃ X,(eAdd ps L o).1 = L ++ X
 | [],L,o=>⟨[],by simp [eAdd]⟩
 | p :: r,L,o=>by
  obtain ⟨X,hX⟩:=addP_pre L p
  obtain ⟨Y,hY⟩:=zfn r (addP L p) (o ++ [(idxP (addP L p) p : Int)])
  exact ⟨X ++ Y,by rw [eAdd,hY,hX,List.append_assoc]⟩
theorem zfp : ∀ (ps L : List Pr) (o : List Int) (q : Pr),q∈(eAdd ps L o).1↔q∈L∨q∈ps
 | [],L,o,q=>by simp [eAdd]
 | p :: r,L,o,q=>by
  rw [eAdd,zfp r,mem_addP,List.mem_cons]
  constructor
  ·rintro ((h | h) | h)
   ·exact .inl h
   ·exact .inr (.inl h)
   ·exact .inr (.inr h)
  ·rintro (h | h | h)
   ·exact .inl (.inl h)
   ·exact .inl (.inr h)
   ·exact .inr h
theorem zfe : ∀ (ps : List Pr) {L : List Pr} (o : List Int),L.Nodup→(eAdd ps L o).1.Nodup
 | [],_,_,h=>h
 | p :: r,_,_,h=>zfe r _ (zi6 h p)
theorem zjg : ∀ (ps L : List Pr) (o : List Int),(eAdd ps L o).2 = o ++ ps.map fun p=>(idxP (eAdd ps L o).1 p : Int)
 | [],L,o=>by simp [eAdd]
 | p :: r,L,o=>by
  rw [eAdd,zjg r]
  obtain ⟨X,hX⟩:=zfn r (addP L p) (o ++ [(idxP (addP L p) p : Int)])
  have : idxP (eAdd r (addP L p) (o ++ [(idxP (addP L p) p : Int)])).1 p = idxP (addP L p) p:=by
   rw [hX]; exact zlC (mem_addP.2 (.inr rfl))
  rw [List.map_cons,this,List.append_assoc]
  rfl
theorem eAdd_old {ps L : List Pr} {o : List Int} {i : Nat} (h : i < L.length) : (eAdd ps L o).1.getD i (0,0) = L.getD i (0,0):=by
 obtain ⟨X,hX⟩:=zfn ps L o
 rw [hX,List.getD_eq_getElem?_getD,List.getElem?_append_left h,← List.getD_eq_getElem?_getD]
theorem zoO (ps L : List Pr) (o : List Int) : L.length≤(eAdd ps L o).1.length:=by
 obtain ⟨X,hX⟩:=zfn ps L o
 rw [hX]; simp
def eRun (nx : Pr→List Pr) : Nat→Nat→List Pr→List (List Int)→List Pr × List (List Int)
 | 0,_,L,T=>(L,T)
 | k + 1,n,L,T=>if n < L.length then eRun nx k (n + 1) (eAdd (nx (L.getD n (0,0))) L []).1 (T ++ [(eAdd (nx (L.getD n (0,0))) L []).2]) else (L,T)
structure NumI (start : List Pr) (nx : Pr→List Pr) (n : Nat) (L : List Pr) (T : List (List Int)) : Prop where
 nd : L.Nodup
 st : ∀ p∈start,p∈L
 len : T.length = n
 le : n≤L.length
 row : ∀ i,i < n→T.getD i [] = (nx (L.getD i (0,0))).map fun q=>(idxP L q : Int)
 cl : ∀ i,i < n→∀ q∈nx (L.getD i (0,0)),q∈L
 fr : ∀ j,j < L.length→L.getD j (0,0)∈start∨∃ i,i < n∧i < j∧L.getD j (0,0)∈nx (L.getD i (0,0))
theorem zbD {L : List Pr} {j : Nat} (h : j < L.length) : L.getD j (0,0)∈L:=by
 rw [List.getD_eq_getElem?_getD,List.getElem?_eq_getElem h]; simp
theorem NumI.begin (start : List Pr) (nx : Pr→List Pr) : NumI start nx 0 (eAdd start [] []).1 [] where
 nd:=zfe start [] .nil
 st p hp:=(zfp start [] [] p).2 (.inr hp)
 len:=rfl
 le:=Nat.zero_le _
 row i hi:=by omega
 cl i hi:=by omega
 fr j hj:=.inl (((zfp start [] [] _).1 (zbD hj)).resolve_left (by simp))
theorem NumI.next {start : List Pr} {nx : Pr→List Pr} {n : Nat} {L : List Pr} {T : List (List Int)} (h : NumI start nx n L T) (hn : n < L.length) :
  NumI start nx (n + 1) (eAdd (nx (L.getD n (0,0))) L []).1 (T ++ [(eAdd (nx (L.getD n (0,0))) L []).2]):=by
 generalize hp : L.getD n (0,0) = p
 have hm:=zfp (nx p) L []
 have ho:=zjg (nx p) L []
 have hold:=fun i (hi : i < L.length)=>eAdd_old (ps:=nx p) (o:=[]) hi
 have hmono:=zoO (nx p) L []
 obtain ⟨X,hX⟩:=zfn (nx p) L []
 refine ⟨zfe _ _ h.nd,fun q hq=>(hm q).2 (.inl (h.st q hq)),by simp [h.len],by omega,fun i hi=>?_,fun i hi q hq=>?_,fun j hj=>?_⟩
 ·by_cases e : i = n
  ·subst e
   rw [hold _ hn,hp,List.getD_eq_getElem?_getD,List.getElem?_append_right (by rw [h.len]; exact Nat.le_refl _),h.len,Nat.sub_self]
   show (eAdd (nx p) L []).2 = _
   rw [ho,List.nil_append]
  ·have hi : i < n:=by omega
   rw [hold i (by omega),List.getD_eq_getElem?_getD,List.getElem?_append_left (by rw [h.len]; exact hi),← List.getD_eq_getElem?_getD,h.row i hi,hX]
   refine List.map_congr_left fun q hq=>?_
   rw [zlC (h.cl i hi q hq)]
 ·by_cases e : i = n
  ·subst e
   rw [hold _ hn,hp] at hq
   exact (hm q).2 (.inr hq)
  ·rw [hold i (by omega)] at hq
   exact (hm q).2 (.inl (h.cl i (by omega) q hq))
 ·by_cases hl : j < L.length
  ·rw [hold j hl]
   rcases h.fr j hl with k | ⟨i,k1,k2,k3⟩
   ·exact .inl k
   ·exact .inr ⟨i,by omega,k2,by rw [hold i (by omega)]; exact k3⟩
  ·refine .inr ⟨n,by omega,by omega,?_⟩
   rw [hold n hn,hp]
   have hq : (eAdd (nx p) L []).1.getD j (0,0)∈X:=by
    rw [hX,List.getD_eq_getElem?_getD,List.getElem?_append_right (by omega)]
    rw [hX,List.length_append] at hj
    rw [List.getElem?_eq_getElem (by omega)]
    simp
   have hnd:=zfe (nx p) [] h.nd
   rw [hX] at hnd
   have hnot : ¬ (eAdd (nx p) L []).1.getD j (0,0)∈L:=fun q=>(List.nodup_append.1 hnd).2.2 _ q _ hq rfl
   exact ((hm _).1 (zbD hj)).resolve_left hnot
structure NumF (start : List Pr) (nx : Pr→List Pr) (L : List Pr) (G : List (List Int)) : Prop where
 nd : L.Nodup
 st : ∀ p∈start,p∈L
 len : G.length = L.length
 row : ∀ i,i < L.length→G.getD i [] = (nx (L.getD i (0,0))).map fun q=>(idxP L q : Int)
 cl : ∀ i,i < L.length→∀ q∈nx (L.getD i (0,0)),q∈L
 fr : ∀ j,j < L.length→L.getD j (0,0)∈start∨∃ i,i < j∧L.getD j (0,0)∈nx (L.getD i (0,0))
theorem NumI.fin {start : List Pr} {nx : Pr→List Pr} {n : Nat} {L : List Pr} {T : List (List Int)} (h : NumI start nx n L T) (hn : ¬ n < L.length) : NumF start nx L T:=by
 have e : n = L.length:=by have:=h.le; omega
 subst e
 exact ⟨h.nd,h.st,h.len,h.row,h.cl,fun j hj=>(h.fr j hj).imp_right fun ⟨i,_,k2,k3⟩=>⟨i,k2,k3⟩⟩
theorem pairs_le {L : List Pr} (hnd : L.Nodup) {n m : Nat} (h : ∀ p∈L,(0≤p.1∧p.1 < (n : Int))∧0≤p.2∧p.2 < (m : Int)) : L.length≤n * m:=by
 refine zkT (n * m) L.length (fun i=>(L.getD i (0,0)).1.toNat * m + (L.getD i (0,0)).2.toNat) (fun i hi=>?_) fun i j hi hj he=>?_
 ·obtain ⟨⟨a,b⟩,c,d⟩:=h _ (zbD hi)
  generalize L.getD i (0,0) = p at *
  have : (p.1.toNat + 1) * m≤n * m:=Nat.mul_le_mul_right _ (by omega)
  rw [Nat.add_mul,Nat.one_mul] at this
  omega
 ·obtain ⟨⟨a,b⟩,c,d⟩:=h _ (zbD hi)
  obtain ⟨⟨a',b'⟩,c',d'⟩:=h _ (zbD hj)
  have hxy : L.getD i (0,0) = L.getD j (0,0):=by
   generalize L.getD i (0,0) = p at *
   generalize L.getD j (0,0) = q at *
   have e1 : p.2.toNat = q.2.toNat:=by
    have:=congrArg (· % m) he
    simp only [Nat.mul_add_mod_self_right] at this
    rwa [Nat.mod_eq_of_lt (by omega),Nat.mod_eq_of_lt (by omega)] at this
   have e2 : p.1.toNat = q.1.toNat:=by
    rw [e1] at he
    exact Nat.eq_of_mul_eq_mul_right (by omega) (Nat.add_right_cancel he)
   exact Prod.ext (by omega) (by omega)
  rw [List.getD_eq_getElem?_getD,List.getD_eq_getElem?_getD,List.getElem?_eq_getElem hi,List.getElem?_eq_getElem hj] at hxy
  simp only [Option.getD_some] at hxy
  rcases Nat.lt_trichotomy i j with q | q | q
  ·exact absurd hxy (List.pairwise_iff_getElem.1 hnd i j hi hj q)
  ·exact q
  ·exact absurd hxy.symm (List.pairwise_iff_getElem.1 hnd j i hj hi q)
theorem zgv {L : List Pr} {q : Pr} (h : q∈L) : L.getD (idxP L q) (0,0) = q:=by
 have h1:=ziF h
 unfold idxP at h1 ⊢
 rw [List.getD_eq_getElem?_getD,List.getElem?_eq_getElem h1,List.getElem_idxOf h1]
 rfl
section
variable {start : List Pr} {nx : Pr→List Pr} {L : List Pr} {G : List (List Int)}
theorem NumF.rowmem (h : NumF start nx L G) {v : Nat} {x : Int} (hx : x∈G.getD v []) : v < L.length∧∃ q,q∈nx (L.getD v (0,0))∧q∈L∧x = (idxP L q : Int)∧idxP L q < L.length:=by
 have hv : v < L.length:=by
  rcases Nat.lt_or_ge v L.length with q | q
  ·exact q
  ·rw [List.getD_eq_getElem?_getD,List.getElem?_eq_none (by have:=h.len; omega)] at hx; cases hx
 rw [h.row v hv] at hx
 obtain ⟨q,hq,rfl⟩:=List.mem_map.1 hx
 have:=h.cl v hv q hq
 exact ⟨hv,q,hq,this,rfl,ziF this⟩
theorem NumF.inG (h : NumF start nx L G) : ∀ l∈G,inB l G.length = true:=fun l hl=>by
 obtain ⟨v,hv,rfl⟩:=List.mem_iff_getElem.1 hl
 refine zdP fun x hx=>?_
 obtain ⟨_,q,_,_,rfl,k⟩:=h.rowmem (v:=v) (x:=x) (by rw [List.getD_eq_getElem?_getD,List.getElem?_eq_getElem hv]; exact hx)
 have:=h.len
 omega
theorem NumF.come (h : NumF start nx L G) : ∀ j,j < L.length→∃ p∈start,To G (idxP L p) j:=by
 intro j
 induction j using Nat.strongRecOn with
 | ind j ih =>
  intro hj
  have hid : idxP L (L.getD j (0,0)) = j:=by
   have h1:=ziF (zbD hj)
   have h2:=zgv (zbD hj)
   have hx : L[idxP L (L.getD j (0,0))]'h1 = L[j]:=by
    rw [List.getD_eq_getElem?_getD,List.getElem?_eq_getElem h1] at h2
    simp only [Option.getD_some] at h2
    rw [h2,List.getD_eq_getElem?_getD,List.getElem?_eq_getElem hj]; rfl
   rcases Nat.lt_trichotomy (idxP L (L.getD j (0,0))) j with q | q | q
   ·exact absurd hx (List.pairwise_iff_getElem.1 h.nd _ _ h1 hj q)
   ·exact q
   ·exact absurd hx.symm (List.pairwise_iff_getElem.1 h.nd _ _ hj h1 q)
  rcases h.fr j hj with k | ⟨i,k2,k3⟩
  ·exact ⟨_,k,by rw [hid]; exact zbN G j⟩
  ·obtain ⟨p,hp,hT⟩:=ih i k2 (by omega)
   refine ⟨p,hp,zbq hT ?_⟩
   have : ((j : Nat) : Int)∈G.getD i []:=by
    rw [h.row i (by omega)]
    exact List.mem_map.2 ⟨_,k3,by rw [hid]⟩
   have:=zcL this
   simpa using this
theorem NumF.fair (h : NumF start nx L G) {g' : List (List Int)} {code : Pr→Nat} (hg : ∀ p∈L,g'.getD (code p) [] = (nx p).map fun q=>(code q : Int)) (sets : List (Nat→Bool)) :
  (∃ v,v < G.length∧Fw G (sets.map fun S v=>S (code (L.getD v (0,0)))) v)↔∃ p∈start,Fw g' sets (code p):=by
 have he : ∀ v x,x∈G.getD v []→∃ y,y∈g'.getD (code (L.getD v (0,0))) []∧y.toNat = code (L.getD x.toNat (0,0)):=fun v x hx=>by
  obtain ⟨hv,q,q1,q2,rfl,q4⟩:=h.rowmem hx
  refine ⟨(code q : Int),?_,?_⟩
  ·rw [hg _ (zbD hv)]; exact List.mem_map.2 ⟨q,q1,rfl⟩
  ·rw [Int.toNat_natCast,Int.toNat_natCast,zgv q2]
 have hin : ∀ v x,x∈G.getD v []→x.toNat < G.length:=fun v x hx=>by
  obtain ⟨_,q,_,_,rfl,k⟩:=h.rowmem hx
  have:=h.len; omega
 constructor
 ·rintro ⟨v,hv,k⟩
  have hv' : v < L.length:=by have:=h.len; omega
  obtain ⟨p,hp,hT⟩:=h.come v hv'
  refine ⟨p,hp,?_⟩
  have:=fw_map (h:=fun v=>code (L.getD v (0,0))) he (Fw.back k hT)
  rwa [zgv (h.st p hp)] at this
 ·rintro ⟨p,hp,k⟩
  have hpl:=h.st p hp
  have hi : idxP L p < G.length:=by have:=h.len; have:=ziF hpl; omega
  refine ⟨idxP L p,hi,zow (h:=fun v=>code (L.getD v (0,0))) (fun v hv y hy=>?_) hin hi (by rw [zgv hpl]; exact k)⟩
  have hv' : v < L.length:=by have:=h.len; omega
  rw [hg _ (zbD hv')] at hy
  obtain ⟨q,q1,rfl⟩:=List.mem_map.1 hy
  have hq:=h.cl v hv' q q1
  refine ⟨(idxP L q : Int),by rw [h.row v hv']; exact List.mem_map.2 ⟨q,q1,rfl⟩,?_⟩
  rw [Int.toNat_natCast,Int.toNat_natCast,zgv hq]
end
end
section
open Go.RowKit
def fitE (W : WorldD) (A : AutoD) (p : Pr) : Bool:=zhj A p.2.toNat (W.label.getD p.1.toNat 0)
def sbox (W : WorldD) (A : AutoD) (n t : Nat) (S : D) : List D:=[zaD W.start,zbe W.next,dlet W.label,zbe W.fair,zaD A.start,zbe A.next,dlet A.must,dlet A.nots,zbe A.fair,.mp 0,.own 2 n 0 n,.own 3 t 0 t,S]
noncomputable def zcX (W : WorldD) (A : AutoD) (L : List Pr) (S : D) (T : List (List Int)) : List AObj :=
 [.mapo true (zew Tryz.prog 78 (fP L)),.row true (sbox W A L.length T.length S),.vec true L.length 2 (zgQ L),.vec true T.length 1 (zba T)]
theorem zfK {W : WorldD} {A : AutoD} {L : List Pr} {S : D} (hS : Pure S) {T : List (List Int)} {m : Nat} (hm : 4≤m) : ∀ o∈zcX W A L S T,o.under m:=by
 have:=zaf (m:=m) S hS
 have h1:=fun l=>zaf (m:=m) _ (zam l)
 have h2:=fun l=>zaf (m:=m) _ (zbm l)
 have h3:=fun l=>zaf (m:=m) _ (zcQ l)
 intro o ho
 simp only [zcX,List.mem_cons,List.not_mem_nil,or_false] at ho
 rcases ho with rfl | rfl | rfl | rfl <;> simp [AObj.under,sbox,zae,zai,this,h1,h2,h3] <;> omega
theorem zeS {W : WorldD} {A : AutoD} {L : List Pr} {S : D} (hS : Pure S) {T : List (List Int)} {m : Nat} (hm : 4≤m) : zbg m (zcX W A L S T):=by
 have:=zfK (W:=W) (A:=A) (L:=L) hS (T:=T) hm
 unfold zcX at *
 exact ⟨this _ (by simp),this _ (by simp),this _ (by simp),this _ (by simp),trivial⟩
theorem laidOutE : laidOutB Tryz.prog = true:=by kernel_rfl
theorem keyedE : Maps.Keyed Tryz.prog 78:=Maps.Keyed.of_law (deep_law_laid laidOutE (m:=2) (by omega) (of_decide_eq_true (by kernel_rfl)) (by kernel_rfl) (by rw [Tryz.underlying78]))
theorem zlt {p : Pr} (hp : WfP p) : ∃ l,keyOf Tryz.prog 78 (keyP p) = some l :=
 zn1 (of_decide_eq_true (by kernel_rfl)) (by kernel_rfl) Tryz.underlying78 rfl rfl rfl rfl (by decide) (by decide) Tryz.underlying3 (by kernel_rfl) (by kernel_rfl) _ _ hp.1 hp.2
def c71 : PC:=.seq (.ops [q 3 (.box (.tmp 1)),q 4 (.move (.const (.int .i64 0)))] false) (.seq (.seq (.ops [qm 7 0,qd 8 (.nilchk (.tmp 7)) 1,qd 9 (.faddr 4 (.tmp 8)) 3,qd 10 (.loadA 5 (.tmp 9)) 7,q 11 (.faddr 1 (.tmp 3)),qd 12 (.load1 (.tmp 11)) 16,qm 13 0,qd 14 (.nilchk (.tmp 13)) 64,qd 15 (.faddr 0 (.tmp 14)) 192,qd 16 (.faddr 2 (.tmp 15)) 448,qd 17 (.load1 (.tmp 16)) 960,q 18 (.faddr 0 (.tmp 3)),qd 19 (.load1 (.tmp 18)) 2048,qd 20 (.iaddr 1 (.tmp 17) (.tmp 19)) 8128,qd 21 (.load1 (.tmp 20)) 16320,qd 22 (.call 104 [(.tmp 10),(.tmp 12),(.tmp 21)]) 32767,qd 23 (.un .not (.tmp 22)) 65535] true) (.cond (.tmp 23) (.seq (.ops [q 4 (.move (.const (.int .i64 (-1))))] false) (.ret)) (.skip))) (.seq (.ops [qm 25 0,qd 26 (.nilchk (.tmp 25)) 1,qd 27 (.faddr 9 (.tmp 26)) 3,qd 28 (.load1 (.tmp 27)) 7,q 29 (.loadA 2 (.tmp 3)),qd 30 (.look 78 (.int .i64 0) (.tmp 28) (.tmp 29)) 31,qw 24 30 63,qd 31 (.ext 0 (.tmp 24)) 127,qd 32 (.ext 1 (.tmp 24)) 127,qw 5 31 255,qw 6 32 1023] true) (.seq (.seq (.ops [qm 33 6,q 34 (.un .not (.tmp 33))] false) (.cond (.tmp 34) (.seq (.ops [qm 35 0,q 36 (.nilchk (.tmp 35)),q 37 (.faddr 10 (.tmp 36)),q 38 (.load1 (.tmp 37)),q 39 (.len (.tmp 38)),qm 5 39] false) (.seq (.ops [qm 40 0,qd 41 (.nilchk (.tmp 40)) 1,qd 42 (.faddr 9 (.tmp 41)) 3,qd 43 (.load1 (.tmp 42)) 7,q 44 (.loadA 2 (.tmp 3)),qm 45 5,qk (.mput 78 (.tmp 43) (.tmp 44) (.tmp 45)) 63] true) (.ops [qm 46 0,qm 47 0,qd 48 (.nilchk (.tmp 47)) 2,qd 49 (.faddr 10 (.tmp 48)) 6,qd 50 (.load1 (.tmp 49)) 14,q 51 (.loadA 2 (.tmp 3)),qd 52 (.bslice 2 1 [(.tmp 51)]) 32,qd 53 (.append 2 16 (.tmp 50) (.tmp 52)) 126,qd 54 (.nilchk (.tmp 46)) 255,qd 55 (.faddr 10 (.tmp 54)) 511,qk (.store 1 (.tmp 55) (.tmp 53)) 1023] true))) (.skip))) (.seq (.ops [qm 56 5,qm 4 56] false) (.ret)))))
theorem c71_ok : FunOK Tryz.prog 71 57 [.tmp 4] c71:=⟨⟨Tryz.f71,Tryz.func71,rfl,by kernel_rfl,rfl,by kernel_rfl⟩⟩
structure TwoW (W : WorldD) (A : AutoD) : Prop where
 fw : W.Fits
 fa : A.Fits
 cw : W.chk = 0
 ca : A.chk = 0
def GoodE (W : WorldD) (A : AutoD) (p : Pr) : Prop:=(0≤p.1∧p.1 < (W.next.length : Int))∧0≤p.2∧p.2 < (A.next.length : Int)
theorem zcP (W : WorldD) (h : W.chk = 0) : W.label.length = W.next.length∧W.next.length≤600∧W.fair.length≤80∧inB W.start W.next.length = true∧(∀ l∈W.next,inB l W.next.length = true)∧∀ l∈W.fair,inB l W.next.length = true:=by
 unfold WorldD.chk at h
 split at h
 ·exact absurd h (by decide)
 split at h
 ·exact absurd h (by decide)
 split at h
 ·exact absurd h (by decide)
 split at h
 ·exact absurd h (by decide)
 rename_i h1 h2 h3 h4
 have h2':=not_or.1 h2
 refine ⟨by omega,by omega,by omega,by simpa using h2'.2,fun l hl=>?_,fun l hl=>?_⟩
 ·rw [Bool.not_eq_true,List.any_eq_false] at h3
  have:=h3 l hl
  simp only [Bool.or_eq_true,Bool.not_eq_true',not_or,Bool.not_eq_false] at this
  exact this.2
 ·rw [Bool.not_eq_true,List.any_eq_false] at h4
  simpa using h4 l hl
theorem GoodE.wf {W : WorldD} {A : AutoD} (h : TwoW W A) {p : Pr} (hp : GoodE W A p) : WfP p:=by
 obtain ⟨⟨a,b⟩,c,d⟩:=hp
 have:=(zcP W h.cw).2.1
 have:=(zdy A h.ca).2.2.1
 exact wfP_of ⟨a,by omega,c,by omega⟩
theorem em_add {W : WorldD} {A : AutoD} (hWA : TwoW W A) (L : List Pr) (hnd : L.Nodup) (hL : L.length≤2000000) (S : D) (hS : Pure S) (T : List (List Int)) (p : Pr) (hg : GoodE W A p) :
  ACall Tryz.prog 71 [.loc 1 0,.agg (zfy p.1 p.2)] (zcX W A L S T) (.sc (.int .i64 (if fitE W A p = true then (idxP (addP L p) p : Int) else -1))) (zcX W A (if fitE W A p = true then addP L p else L) S T):=by
 have hp:=GoodE.wf hWA hg
 have hkey:=zlt hp
 obtain ⟨⟨g1,g2⟩,g3,g4⟩:=hg
 obtain ⟨hlab,_⟩:=zcP W hWA.cw
 obtain ⟨hm,hn,_⟩:=zdy A hWA.ca
 have hF:=au_Fits A hm hn p.2.toNat (by omega) (W.label.getD p.1.toNat 0)
 rw [show ((p.2.toNat : Nat) : Int) = p.2 by omega] at hF
 refine zb4 c71_ok (by simp) (by simp [zcX]) ?_ (by simp [zai]) (by
  intro x hx
  exact zfK hS (by simp [zcX]) x hx)
 have ef : fitE W A p = zhj A p.2.toNat (W.label.getD p.1.toNat 0):=rfl
 rw [← ef] at hF
 generalize fitE W A p = fit at *
 unfold zcX sbox zfy
 unfold zeh AutoD.cells at hF
 (apply zac; focus (repeat' constructor))
 ((conv=>whnf);repeat(refine⟨rfl,?_⟩;conv=>whnf))
 refine ⟨by omega,_,ze2 (l:=W.label) (k:=p.1.toNat) (by omega) (by omega),?_⟩
 ((conv=>whnf);repeat(refine⟨rfl,?_⟩;conv=>whnf))
 (refine .inl ⟨_,hF,?_⟩; ((conv=>whnf);repeat(refine⟨rfl,?_⟩;conv=>whnf)))
 cases fit
 ·((conv=>whnf);repeat(refine⟨rfl,?_⟩;conv=>whnf))
  simp
 ((conv=>whnf);repeat(refine⟨rfl,?_⟩;conv=>whnf))
 refine ⟨fP L,rfl,keyedE,hkey,fun v hv=>?_,fun hv=>?_⟩
 ·by_cases h2 : p∈L
  ·have hs:=zpk hnd h2
   have hv' : some v = some (Value.int .i64 (idxP L p)):=hv.symm.trans hs
   cases hv'
   have eA : addP L p = L:=if_pos h2
   have eI : idxP (addP L p) p = idxP L p:=by rw [eA]
   rw [eI,eA]
   ((conv=>whnf);repeat(refine⟨rfl,?_⟩;conv=>whnf))
   simp
  ·exfalso
   have hv' : some v = none:=hv.symm.trans (fP_none h2)
   cases hv'
 ·have h2 : ¬ p∈L:=fun h2=>by
   have hv' : (none : Option Value) = some (Value.int .i64 (idxP L p)):=hv.symm.trans (zpk hnd h2)
   cases hv'
  have eA : addP L p = L ++ [p]:=if_neg h2
  have eI : idxP (addP L p) p = L.length:=by rw [idx_addP,if_neg h2]
  rw [eI,eA]
  ((conv=>whnf);repeat(refine⟨rfl,?_⟩;conv=>whnf))
  refine ⟨fP L,rfl,keyedE,hkey,hv,?_⟩
  ((conv=>whnf);repeat(refine⟨rfl,?_⟩;conv=>whnf))
  refine ⟨(by unfold zaj; simp only [ll]; omega),?_⟩
  ((conv=>whnf);repeat(refine⟨rfl,?_⟩;conv=>whnf))
  refine ⟨?_,by simp⟩
  rw [if_pos rfl,fP_put,show (L ++ [p]).length = L.length + 1 by simp,← zlr]
  rfl
def rowE (W : WorldD) (A : AutoD) (x : Int) (k : List Int) : List Pr:=(k.filter fun y=>fitE W A (x,y)).map fun y=>(x,y)
def zbc (W : WorldD) (A : AutoD) (l k : List Int) : List Pr:=l.flatMap fun x=>rowE W A x k
theorem zkB (W : WorldD) (A : AutoD) (x y : Int) (k : List Int) : rowE W A x (y :: k) = if fitE W A (x,y) = true then (x,y) :: rowE W A x k else rowE W A x k:=by
 unfold rowE
 rw [List.filter_cons]
 split <;> simp
theorem rowE_len (W : WorldD) (A : AutoD) (x : Int) (k : List Int) : (rowE W A x k).length≤k.length:=by unfold rowE; rw [List.length_map]; exact List.length_filter_le _ _
theorem ziy (W : WorldD) (A : AutoD) (l k : List Int) : (zbc W A l k).length≤l.length * k.length:=by
 induction l with
 | nil=>simp [zbc]
 | cons x r ih =>
  have:=rowE_len W A x k
  simp only [zbc,List.flatMap_cons,List.length_append,List.length_cons] at ih ⊢
  rw [Nat.add_mul,Nat.one_mul]
  omega
theorem zhX {W : WorldD} {A : AutoD} {l k : List Int} (hl : inB l W.next.length = true) (hk : inB k A.next.length = true) : ∀ p∈zbc W A l k,GoodE W A p:=by
 intro p hp
 obtain ⟨x,hx,hp⟩:=List.mem_flatMap.1 hp
 obtain ⟨y,hy,rfl⟩:=List.mem_map.1 hp
 exact ⟨zaN hl hx,zaN hk (List.mem_filter.1 hy).1⟩
theorem zdf {l : List Int} {k : Nat} (h : k < l.length) : l.drop k = l.getD k 0 :: l.drop (k + 1):=by
 rw [List.drop_eq_getElem_cons h,List.getD_eq_getElem?_getD,List.getElem?_eq_getElem h]
 rfl
theorem GoodE.le {W : WorldD} {A : AutoD} (hWA : TwoW W A) {L : List Pr} (hnd : L.Nodup) (hg : ∀ p∈L,GoodE W A p) : L.length≤W.next.length * A.next.length:=pairs_le hnd hg
theorem zl2 {W : WorldD} {A : AutoD} (hWA : TwoW W A) : W.next.length * A.next.length≤1228800 :=
 Nat.le_trans (Nat.mul_le_mul (zcP W hWA.cw).2.1 (zdy A hWA.ca).2.2.1) (by decide)
def c40_2 : PC:=.seq (.ops [q 22 (.bin .lss (.tmp 21) (.tmp 20))] false) (.seq (.cond (.tmp 22) (.skip) (.exit 2)) (.seq (.block 3 (.seq (.ops [q 23 (.iaddr 1 (.tmp 19) (.tmp 21)),q 24 (.load1 (.tmp 23)),qm 11 24] false) (.seq (.ops [qm 25 0,qm 26 9,qm 27 11,q 28 (.build [(.int .i64 0),(.int .i64 0)] [(0,1,(.tmp 26)),(1,1,(.tmp 27))]),q 29 (.call 71 [(.tmp 25),(.tmp 28)]),qm 12 29] false) (.seq (.ops [qm 30 12,q 31 (.bin .geq (.tmp 30) (.const (.int .i64 0)))] false) (.cond (.tmp 31) (.ops [qm 32 7,qm 33 12,q 34 (.bslice 1 1 [(.tmp 33)]),q 35 (.append 1 8 (.tmp 32) (.tmp 34)),qm 7 35] false) (.skip)))))) (.ops [q 36 (.bin .add (.tmp 21) (.const (.int .i64 1))),qm 21 36] false)))
def c40_1 : PC:=.seq (.ops [q 16 (.bin .lss (.tmp 15) (.tmp 14))] false) (.seq (.cond (.tmp 16) (.skip) (.exit 0)) (.seq (.block 1 (.seq (.ops [q 17 (.iaddr 1 (.tmp 13) (.tmp 15)),q 18 (.load1 (.tmp 17)),qm 9 18] false) (.seq (.ops [qm 19 2,q 20 (.len (.tmp 19)),q 21 (.move (.const (.int .i64 0)))] false) (.block 2 (.loop c40_2))))) (.ops [q 37 (.bin .add (.tmp 15) (.const (.int .i64 1))),qm 15 37] false)))
def c40 : PC:=.seq (.ops [q 6 (.move (.const (.slice none 0 0)))] false) (.seq (.ops [q 7 (.move (.const (.slice none 0 0)))] false) (.seq (.seq (.ops [qm 13 1,q 14 (.len (.tmp 13)),q 15 (.move (.const (.int .i64 0)))] false) (.block 0 (.loop c40_1))) (.seq (.ops [qm 38 7,qm 6 38] false) (.ret))))
theorem c40_ok : FunOK Tryz.prog 40 39 [.tmp 6] c40:=⟨⟨Tryz.f40,Tryz.func40,rfl,by kernel_rfl,rfl,by kernel_rfl⟩⟩
theorem zmz {W : WorldD} {A : AutoD} (hWA : TwoW W A) (l k : List Int) (hl : l.length≤1048576) (hk : k.length≤1048576) (il : inB l W.next.length = true) (ik : inB k A.next.length = true) (L : List Pr) (hnd : L.Nodup) (hLg : ∀ p∈L,GoodE W A p) (S : D) (hS : Pure S) (T : List (List Int)) :
  ACall Tryz.prog 40 [.loc 1 0,zaD l,zaD k] (zcX W A L S T) (zaD (eAdd (zbc W A l k) L []).2) (zcX W A (eAdd (zbc W A l k) L []).1 S T):=by
 refine zcm c40_ok (by simp) (by simp [zcX]) ?_ (zaf _ (zam _))
 have hSu:=fun m=>zaf (m:=m) S hS
 have hu1:=fun m l=>zaf (m:=m) _ (zam l)
 have hu2:=fun m l=>zaf (m:=m) _ (zbm l)
 have hu3:=fun m l=>zaf (m:=m) _ (zcQ l)
 have h2:=zl2 hWA
 generalize hR : eAdd (zbc W A l k) L [] = R
 have hlk : l.length * k.length≤1048576 * 1048576:=Nat.mul_le_mul hl hk
 unfold zcX sbox
 (apply zac; focus (repeat' constructor))
 ((conv=>whnf);repeat(refine⟨rfl,?_⟩;conv=>whnf))
 rw [List.length_map]
 refine zaA (zcu 7 1 (by simp) rfl) ?_
 refine zaz [0,2,13,14] (fun ((i,M,o) : Nat × List Pr × List Int)=>[(7,.own 4 o.length 0 o.length),(15,.sc (.int .i64 i))]) (fun (i,M,o)=>zcX W A M S T ++ [.vec true o.length 1 (i64s o)])
  (fun (i,M,o)=>i≤l.length∧M.Nodup∧(∀ p∈M,GoodE W A p)∧o.length≤i * k.length∧eAdd (zbc W A (l.drop i) k) M o = R) (fun (i,M,o)=>l.length - i) (0,L,[]) ?_
 ((conv=>whnf);repeat(refine⟨rfl,?_⟩;conv=>whnf))
 refine ⟨⟨by omega,hnd,hLg,by simp,hR⟩,by (repeat' (first | exact trivial | refine And.intro rfl ?_)),rfl,?_⟩
 rintro ⟨i,M,o⟩ ⟨hi,hMn,hMg,hol,hF⟩
 unfold zcX sbox
 ((conv=>whnf);repeat(refine⟨rfl,?_⟩;conv=>whnf))
 (apply zac; focus (repeat' constructor))
 ((conv=>whnf);repeat(refine⟨rfl,?_⟩;conv=>whnf))
 (refine zab (fun q0=>?_) (fun q0=>?_) <;> (rw [q0]; ((conv=>whnf);repeat(refine⟨rfl,?_⟩;conv=>whnf))))
 ·have q0 : i < l.length:=by ((try simp only[oo,reduceCtorEq]at*)<;>omega)
  have hx:=zaN il (zaM q0)
  refine ⟨by omega,_,zaW (l:=l) (k:=i) (by omega) q0,?_⟩
  rw [zdf q0,zbc,List.flatMap_cons] at hF
  rw [show (l.drop (i + 1)).flatMap (fun x=>rowE W A x k) = zbc W A (l.drop (i + 1)) k from rfl] at hF
  have hik : (i + 1) * k.length≤1048576 * 1048576:=Nat.le_trans (Nat.mul_le_mul_right _ (by omega)) hlk
  have hik2 : (i + 1) * k.length = i * k.length + k.length:=by rw [Nat.add_mul,Nat.one_mul]
  ((conv=>whnf);repeat(refine⟨rfl,?_⟩;conv=>whnf))
  rw [List.length_map]
  generalize l.getD i 0 = x at *
  refine zaz [0,2,9,13,14,15,19,20] (fun ((j,M,o) : Nat × List Pr × List Int)=>[(7,.own 4 o.length 0 o.length),(21,.sc (.int .i64 j))]) (fun (j,M,o)=>zcX W A M S T ++ [.vec true o.length 1 (i64s o)])
   (fun (j,M,o)=>j≤k.length∧M.Nodup∧(∀ p∈M,GoodE W A p)∧o.length≤i * k.length + j∧eAdd (rowE W A x (k.drop j) ++ zbc W A (l.drop (i + 1)) k) M o = R) (fun (j,M,o)=>k.length - j) (0,M,o) ?_
  ((conv=>whnf);repeat(refine⟨rfl,?_⟩;conv=>whnf))
  refine ⟨⟨by omega,hMn,hMg,by omega,hF⟩,by (repeat' (first | exact trivial | refine And.intro rfl ?_)),rfl,?_⟩
  rintro ⟨j,M,o⟩ ⟨hj,hMn,hMg,hol,hF⟩
  unfold zcX sbox
  ((conv=>whnf);repeat(refine⟨rfl,?_⟩;conv=>whnf))
  (apply zac; focus (repeat' constructor))
  ((conv=>whnf);repeat(refine⟨rfl,?_⟩;conv=>whnf))
  (refine zab (fun q1=>?_) (fun q1=>?_) <;> (rw [q1]; ((conv=>whnf);repeat(refine⟨rfl,?_⟩;conv=>whnf))))
  ·have q1 : j < k.length:=by ((try simp only[oo,reduceCtorEq]at*)<;>omega)
   have hy:=zaN ik (zaM q1)
   refine ⟨by omega,_,zaW (l:=k) (k:=j) (by omega) q1,?_⟩
   ((conv=>whnf);repeat(refine⟨rfl,?_⟩;conv=>whnf))
   rw [zdf q1,zkB] at hF
   generalize k.getD j 0 = y at *
   have hgp : GoodE W A (x,y):=⟨hx,hy⟩
   have hMl:=GoodE.le hWA hMn hMg
   have hA:=zbh (em_add hWA M hMn (by omega) S hS T (x,y) hgp) [.vec true o.length 1 (i64s o)] (by simp [zcX]) (by simp [zcX,zae,zai,zfy]) (zeS hS (by simp [zcX]))
   have hap:=addP_len M (x,y)
   cases r : fitE W A (x,y)
   ·rw [r,if_neg (by decide),if_neg (by decide)] at hA
    rw [r,if_neg (by decide)] at hF
    unfold zcX sbox zfy at hA
    (refine .inr (.inr (.inl ⟨rfl,_,_,hA,?_⟩)); ((conv=>whnf);repeat(refine⟨rfl,?_⟩;conv=>whnf)))
    (refine .inl ⟨by (unfold InR; rw [IntKind.wrap_i64]; omega),?_⟩; ((conv=>whnf);repeat(refine⟨rfl,?_⟩;conv=>whnf)))
    refine ⟨(j + 1,M,o),⟨by omega,hMn,hMg,by omega,hF⟩,by dsimp only; omega,?_⟩
    dsimp only
    (refine zal 5 (by simp) rfl ?_ ?_ <;> (repeat' (first | exact trivial | exact rfl | exact DeepM.refl _ | exact DeepML.refl _ | exact DeepMLL.refl _ | refine And.intro ?_ ?_ | (simp [zai,zae,zak,-List.map_take,-List.map_drop]; done))))
    all_goals first | exact hSu _ | exact hu1 _ _ | exact hu2 _ _ | exact hu3 _ _ | skip
   ·rw [r,if_pos rfl,if_pos rfl] at hA
    rw [r,if_pos rfl,List.cons_append,eAdd] at hF
    unfold zcX sbox zfy at hA
    (refine .inr (.inr (.inl ⟨rfl,_,_,hA,?_⟩)); ((conv=>whnf);repeat(refine⟨rfl,?_⟩;conv=>whnf)))
    refine ⟨(by unfold zaj; simp only [ll]; omega),?_⟩
    ((conv=>whnf);repeat(refine⟨rfl,?_⟩;conv=>whnf))
    (refine .inl ⟨by (unfold InR; rw [IntKind.wrap_i64]; omega),?_⟩; ((conv=>whnf);repeat(refine⟨rfl,?_⟩;conv=>whnf)))
    ·refine ⟨(j + 1,addP M (x,y),o ++ [(idxP (addP M (x,y)) (x,y) : Int)]),⟨by omega,zi6 hMn _,fun q hq=>(mem_addP.1 hq).elim (hMg q) (fun e=>e ▸ hgp),by simp; omega,hF⟩,by dsimp only; omega,?_⟩
     dsimp only
     rw [show (o ++ [(idxP (addP M (x,y)) (x,y) : Int)]).length = o.length + 1 by simp]
     (refine zal 5 (by simp) rfl ?_ ?_ <;> (repeat' (first | exact trivial | exact rfl | exact DeepM.refl _ | exact DeepML.refl _ | exact DeepMLL.refl _ | refine And.intro ?_ ?_ | (simp [zai,zae,zak,-List.map_take,-List.map_drop]; done))))
     all_goals first | exact hSu _ | exact hu1 _ _ | exact hu2 _ _ | exact hu3 _ _ | exact zah (zaR o _) | skip
  ·have q1 : j = k.length:=by have : ¬ j < k.length:=by ((try simp only[oo,reduceCtorEq]at*)<;>omega)
                              omega
   subst q1
   rw [List.drop_length] at hF
   (refine .inl ⟨by (unfold InR; rw [IntKind.wrap_i64]; omega),?_⟩; ((conv=>whnf);repeat(refine⟨rfl,?_⟩;conv=>whnf)))
   refine ⟨(i + 1,M,o),⟨by omega,hMn,hMg,by omega,hF⟩,by dsimp only; omega,?_⟩
   dsimp only
   (refine zal 5 (by simp) rfl ?_ ?_ <;> (repeat' (first | exact trivial | exact rfl | exact DeepM.refl _ | exact DeepML.refl _ | exact DeepMLL.refl _ | refine And.intro ?_ ?_ | (simp [zai,zae,zak,-List.map_take,-List.map_drop]; done))))
   all_goals first | exact hSu _ | exact hu1 _ _ | exact hu2 _ _ | exact hu3 _ _ | skip
 ·have q0 : i = l.length:=by have : ¬ i < l.length:=by ((try simp only[oo,reduceCtorEq]at*)<;>omega)
                             omega
  subst q0
  rw [List.drop_length] at hF
  have hF : (M,o) = R:=hF
  subst hF
  exact ⟨.own _ _ _ _ _ _ _ _ rfl rfl (zah (zav (by simp [i64s]))),zaK _ [_] (zfK hS (Nat.le_refl _))⟩
end
section
open Go.RowKit
def sdat (W : WorldD) (A : AutoD) (L : List Pr) (G : List (List Int)) (fr : List Int) : List D:=[zaD W.start,zbe W.next,dlet W.label,zbe W.fair,zaD A.start,zbe A.next,dlet A.must,dlet A.nots,zbe A.fair,.junk,zg3 L,zbe G,zaD fr]
theorem zdm (W : WorldD) (A : AutoD) (L : List Pr) (G : List (List Int)) (fr : List Int) : zao (sdat W A L G fr):=by simp [sdat,zao,Pure,zam,zbm,zcQ,zfM]
theorem zd1 {cs : List D} (h : zao cs) : Pure (.ipt cs):=by simpa only [Pure] using h
theorem zed {g : List (List Int)} {L : Nat} (h : ∀ l∈g,l.length≤L) (k : Nat) : (g.getD k []).length≤L:=by
 rw [List.getD_eq_getElem?_getD]
 cases e : g[k]? with
 | none=>simp
 | some l=>exact h l (List.mem_of_getElem? e)
def zdW (n : Nat) (F : List (Nat→Bool)) : List (List D):=F.map fun S=>[dbl n S]
@[simp] theorem brows_len (n : Nat) (F : List (Nat→Bool)) : (zdW n F).length = F.length:=by simp [zdW]
theorem zdA (n : Nat) (F : List (Nat→Bool)) : zbd (zdW n F):=zas _ (fun S=>by simp [zao,zbM]) F
@[simp] theorem underLL_brows {m n : Nat} (F : List (Nat→Bool)) : zak m (zdW n F)↔True:=⟨fun _=>trivial,fun _=>zaa _ (zdA n F)⟩
def selS (L : List Pr) (sel : Pr→Int) (l : List Int) : Nat→Bool:=fun i=>setB l (sel (L.getD i (0,0))).toNat
theorem znN {l : List Int} {n k : Nat} (hin : inB l n = true) (hk : k < l.length) (v : Nat) : setB (l.take (k + 1)) v = if v = (l.getD k 0).toNat then true else setB (l.take k) v:=by
 have hx:=zaN hin (zaM hk)
 unfold setB
 rw [List.getD_eq_getElem?_getD,List.getElem?_eq_getElem hk] at hx ⊢
 simp only [Option.getD_some] at hx ⊢
 rw [Bool.eq_iff_iff,List.contains_iff_mem,List.take_add_one,List.getElem?_eq_getElem hk]
 split
 ·rename_i q
  rw [List.mem_append,Option.toList_some,List.mem_singleton]
  exact ⟨fun _=>rfl,fun _=>.inr (by omega)⟩
 ·rename_i q
  rw [List.contains_iff_mem,List.mem_append,Option.toList_some,List.mem_singleton]
  exact ⟨fun h=>h.resolve_right (by omega),.inl⟩
def c47_1 : PC:=.seq (.ops [q 11 (.bin .lss (.tmp 10) (.tmp 9))] false) (.seq (.cond (.tmp 11) (.skip) (.exit 0)) (.seq (.block 1 (.seq (.ops [q 12 (.iaddr 1 (.tmp 8) (.tmp 10)),q 13 (.load1 (.tmp 12)),qm 7 13] false) (.ops [qm 14 5,qm 15 0,q 16 (.nilchk (.tmp 15)),q 17 (.faddr 10 (.tmp 16)),q 18 (.load1 (.tmp 17)),qm 19 7,q 20 (.iaddr 2 (.tmp 18) (.tmp 19)),q 21 (.faddr 0 (.tmp 20)),q 22 (.load1 (.tmp 21)),q 23 (.bslice 1 1 [(.tmp 22)]),q 24 (.append 1 8 (.tmp 14) (.tmp 23)),qm 5 24] false))) (.ops [q 25 (.bin .add (.tmp 10) (.const (.int .i64 1))),qm 10 25] false)))
def c47 : PC:=.seq (.ops [q 4 (.move (.const (.slice none 0 0)))] false) (.seq (.ops [q 5 (.move (.const (.slice none 0 0)))] false) (.seq (.seq (.ops [qm 8 1,q 9 (.len (.tmp 8)),q 10 (.move (.const (.int .i64 0)))] false) (.block 0 (.loop c47_1))) (.seq (.ops [qm 26 5,qm 4 26] false) (.ret))))
theorem c47_ok : FunOK Tryz.prog 47 27 [.tmp 4] c47:=⟨⟨Tryz.f47,Tryz.func47,rfl,by kernel_rfl,rfl,by kernel_rfl⟩⟩
theorem zkq (W : WorldD) (A : AutoD) (L : List Pr) (G : List (List Int)) (fr l : List Int) (hl : l.length≤1000000000000) (hin : inB l L.length = true) : PCall Tryz.prog 47 [.ipt (sdat W A L G fr),zaD l] (zaD (l.map fun n=>(L.getD n.toNat (0,0)).1)):=by
 have hp:=zdm W A L G fr
 refine zag c47_ok (by simp) (by simp [zao,Pure,zam,hp]) ?_ (zam _)
 unfold sdat zg3
 (apply zac; focus (repeat' constructor))
 ((conv=>whnf);repeat(refine⟨rfl,?_⟩;conv=>whnf))
 rw [List.length_map]
 refine zaA (zcu 5 1 (by simp) rfl) ?_
 refine zaT [0,8,9] (fun k : Nat=>[(5,.own 0 k 0 k),(10,.sc (.int .i64 k))]) (fun k=>[(0,.vec true k 1 (i64s ((l.take k).map fun n=>(L.getD n.toNat (0,0)).1)))]) (fun k=>k≤l.length) (fun k=>l.length - k) 0 ?_
 ((conv=>whnf);repeat(refine⟨rfl,?_⟩;conv=>whnf))
 refine ⟨by omega,by (repeat' (first | exact trivial | refine And.intro rfl ?_)),rfl,?_⟩
 rintro k hk
 ((conv=>whnf);repeat(refine⟨rfl,?_⟩;conv=>whnf))
 (apply zac; focus (repeat' constructor))
 ((conv=>whnf);repeat(refine⟨rfl,?_⟩;conv=>whnf))
 (refine zab (fun q0=>?_) (fun q0=>?_) <;> (rw [q0]; ((conv=>whnf);repeat(refine⟨rfl,?_⟩;conv=>whnf))))
 ·have q0 : k < l.length:=by ((try simp only[oo,reduceCtorEq]at*)<;>omega)
  have hx:=zaN hin (zaM q0)
  have eS : (l.take (k + 1)).map (fun n=>(L.getD n.toNat (0,0)).1) = (l.take k).map (fun n=>(L.getD n.toNat (0,0)).1) ++ [(L.getD (l.getD k 0).toNat (0,0)).1]:=by
   rw [List.take_add_one,List.getElem?_eq_getElem q0,List.getD_eq_getElem?_getD (l:=l),List.getElem?_eq_getElem q0,List.map_append]; rfl
  refine ⟨by omega,_,zaW (l:=l) (k:=k) (by omega) q0,?_⟩
  ((conv=>whnf);repeat(refine⟨rfl,?_⟩;conv=>whnf))
  generalize l.getD k 0 = x at *
  refine ⟨by omega,_,zhq (l:=L) (k:=x.toNat) (by omega) (by omega),?_⟩
  ((conv=>whnf);repeat(refine⟨rfl,?_⟩;conv=>whnf))
  refine ⟨(by unfold zaj; simp only [ll]; omega),?_⟩
  ((conv=>whnf);repeat(refine⟨rfl,?_⟩;conv=>whnf))
  (refine .inl ⟨by (unfold InR; rw [IntKind.wrap_i64]; omega),?_⟩; ((conv=>whnf);repeat(refine⟨rfl,?_⟩;conv=>whnf)))
  refine ⟨k + 1,by omega,by dsimp only; omega,?_⟩
  dsimp only
  rw [eS]
  (refine zal 1 (by simp) rfl ?_ ?_ <;> (repeat' (first | exact trivial | exact rfl | exact DeepM.refl _ | exact DeepML.refl _ | exact DeepMLL.refl _ | refine And.intro ?_ ?_ | (simp [zai,zae,zak,-List.map_take,-List.map_drop]; done))))
  exact zah (by
   have:=zaR ((l.take k).map fun n=>(L.getD n.toNat (0,0)).1) (L.getD x.toNat (0,0)).1
   rw [List.length_map,List.length_take,Nat.min_eq_left hk] at this
   exact this)
 ·have q0 : k = l.length:=by have : ¬ k < l.length:=by ((try simp only[oo,reduceCtorEq]at*)<;>omega)
                             omega
  subst q0
  rw [List.take_length]
  exact .own _ _ _ _ _ _ _ _ rfl (by rw [zav (by simp [i64s])]; exact zaq _)
def c73_1 : PC:=.seq (.ops [q 19 (.bin .lss (.tmp 18) (.tmp 17))] false) (.seq (.cond (.tmp 19) (.skip) (.exit 0)) (.seq (.block 1 (.seq (.ops [q 20 (.iaddr 1 (.tmp 16) (.tmp 18)),q 21 (.load1 (.tmp 20)),qm 10 21] false) (.ops [qm 22 8,qm 23 10,q 24 (.iaddr 1 (.tmp 22) (.tmp 23)),qn (.store 1 (.tmp 24) (.const (.bool true)))] false))) (.ops [q 25 (.bin .add (.tmp 18) (.const (.int .i64 1))),qm 18 25] false)))
def c73_2 : PC:=.seq (.ops [q 38 (.bin .lss (.tmp 37) (.tmp 36))] false) (.seq (.cond (.tmp 38) (.skip) (.exit 2)) (.seq (.block 3 (.seq (.ops [qm 39 37,q 40 (.iaddr 2 (.tmp 35) (.tmp 37)),q 41 (.loadA 2 (.tmp 40)),q 13 (.alloc [(.int .i64 0),(.int .i64 0)]),qm 12 39,qn (.store 2 (.tmp 13) (.tmp 41))] false) (.ops [qm 42 11,qm 43 12,qm 44 8,qm 45 1,q 46 (.loadA 2 (.tmp 13)),q 47 (.callv (.tmp 45) [(.tmp 46)]),q 48 (.iaddr 1 (.tmp 44) (.tmp 47)),q 49 (.load1 (.tmp 48)),q 50 (.iaddr 1 (.tmp 42) (.tmp 43)),qn (.store 1 (.tmp 50) (.tmp 49))] false))) (.ops [q 51 (.bin .add (.tmp 37) (.const (.int .i64 1))),qm 37 51] false)))
def c73 : PC:=.seq (.ops [qm 14 2,q 15 (.mslice 1 1 [(.bool false)] (.tmp 14) (.tmp 14)),qm 8 15] false) (.seq (.seq (.ops [qm 16 0,q 17 (.len (.tmp 16)),q 18 (.move (.const (.int .i64 0)))] false) (.block 0 (.loop c73_1))) (.seq (.ops [q 26 (.load1 (.tmp 3)),q 27 (.nilchk (.tmp 26)),q 28 (.faddr 10 (.tmp 27)),q 29 (.load1 (.tmp 28)),q 30 (.len (.tmp 29)),q 31 (.mslice 1 1 [(.bool false)] (.tmp 30) (.tmp 30)),qm 11 31] false) (.seq (.seq (.ops [q 32 (.load1 (.tmp 3)),q 33 (.nilchk (.tmp 32)),q 34 (.faddr 10 (.tmp 33)),q 35 (.load1 (.tmp 34)),q 36 (.len (.tmp 35)),q 37 (.move (.const (.int .i64 0)))] false) (.block 2 (.loop c73_2))) (.ops [q 52 (.load1 (.tmp 4)),qm 53 11,q 54 (.bslice 1 1 [(.tmp 53)]),q 55 (.append 1 24 (.tmp 52) (.tmp 54)),qn (.store 1 (.tmp 4) (.tmp 55))] false))))
theorem c73_ok : FunOK Tryz.prog 73 56 [] c73:=⟨⟨Tryz.f73,Tryz.func73,rfl,by kernel_rfl,rfl,by kernel_rfl⟩⟩
theorem em_put (W : WorldD) (A : AutoD) (L : List Pr) (hL : L.length≤2000000) (G : List (List Int)) (fr : List Int) (g : FuncId) (sel : Pr→Int) (n : Nat) (hn : n≤2048) (hsel : ∀ p∈L,PCall Tryz.prog g [.agg (zfy p.1 p.2)] (.sc (.int .i64 (sel p)))) (hin : ∀ p∈L,0≤sel p∧sel p < (n : Int))
  (l : List Int) (hl : l.length≤17592186043904) (hli : inB l n = true) (F : List (Nat→Bool)) (hF : F.length≤1000) :
  ACall Tryz.prog 73 [zaD l,.fn (.func g) [] [],.sc (.int .i64 n),.loc 0 0,.loc 1 0] [.row true [.ipt (sdat W A L G fr)],.row true [.own 2 F.length 0 F.length],.vec true F.length 1 (zdW L.length F)]
   (.tup []) [.row true [.ipt (sdat W A L G fr)],.row true [.own 2 (F.length + 1) 0 (F.length + 1)],.vec true (F.length + 1) 1 (zdW L.length (F ++ [selS L sel l]))]:=by
 have hp:=zdm W A L G fr
 have hpU:=fun m=>zaf (m:=m) _ (zd1 hp)
 refine zcm c73_ok (by simp) (by simp) ?_ (by simp [zai,zae])
 obtain ⟨sd,hsd⟩ : ∃ sd : D,sd = .ipt (sdat W A L G fr):=⟨_,rfl⟩
 have hsl : zao [sd]:=by subst hsd; exact ⟨zd1 hp,trivial⟩
 rw [← hsd] at hpU ⊢
 (apply zac; focus (repeat' constructor))
 ((conv=>whnf);repeat(refine⟨rfl,?_⟩;conv=>whnf))
 refine ⟨by omega,by omega,by omega,?_⟩
 rw [Int.toNat_natCast,show List.map D.sc [Value.bool false] = [D.sc (.bool false)] from rfl,zdT]
 ((conv=>whnf);repeat(refine⟨rfl,?_⟩;conv=>whnf))
 rw [List.length_map]
 refine zaT [1,3,4,8,16,17] (fun k : Nat=>[(18,.sc (.int .i64 k))]) (fun k=>[(3,.vec true 0 1 (rbl n (setB (l.take k))))]) (fun k=>k≤l.length) (fun k=>l.length - k) 0 ?_
 ((conv=>whnf);repeat(refine⟨rfl,?_⟩;conv=>whnf))
 refine ⟨by omega,by (repeat' (first | exact trivial | refine And.intro rfl ?_)),rfl,?_⟩
 rintro k hk
 ((conv=>whnf);repeat(refine⟨rfl,?_⟩;conv=>whnf))
 (apply zac; focus (repeat' constructor))
 ((conv=>whnf);repeat(refine⟨rfl,?_⟩;conv=>whnf))
 (refine zab (fun q0=>?_) (fun q0=>?_) <;> (rw [q0]; ((conv=>whnf);repeat(refine⟨rfl,?_⟩;conv=>whnf))))
 ·have q0 : k < l.length:=by ((try simp only[oo,reduceCtorEq]at*)<;>omega)
  have hx:=zaN hli (zaM q0)
  have e:=znN hli q0
  refine ⟨by omega,_,zaW (l:=l) (k:=k) (by omega) q0,?_⟩
  ((conv=>whnf);repeat(refine⟨rfl,?_⟩;conv=>whnf))
  generalize l.getD k 0 = x at *
  (refine ⟨by omega,(by first | omega | (simp; done) | (simp; omega) | (simp only [ll]; omega)),?_⟩; ((conv=>whnf);repeat(refine⟨rfl,?_⟩;conv=>whnf)))
  refine ⟨_,zay x.toNat (by omega) (by omega),?_⟩
  ((conv=>whnf);repeat(refine⟨rfl,?_⟩;conv=>whnf))
  (refine .inl ⟨by (unfold InR; rw [IntKind.wrap_i64]; omega),?_⟩; ((conv=>whnf);repeat(refine⟨rfl,?_⟩;conv=>whnf)))
  refine ⟨k + 1,by omega,by dsimp only; omega,zan (by (repeat' (first | exact trivial | refine And.intro rfl ?_))) ?_⟩
  rw [zfP (i:=x.toNat) (f':=setB (l.take (k + 1))) (by omega) fun v _=>e v]
  rfl
 have q0 : k = l.length:=by have : ¬ k < l.length:=by ((try simp only[oo,reduceCtorEq]at*)<;>omega)
                            omega
 subst q0
 rw [List.take_length]
 subst hsd
 unfold sdat zg3
 ((conv=>whnf);repeat(refine⟨rfl,?_⟩;conv=>whnf))
 rw [zgc]
 refine ⟨by omega,by omega,by omega,?_⟩
 rw [Int.toNat_natCast,show List.map D.sc [Value.bool false] = [D.sc (.bool false)] from rfl,zdT]
 ((conv=>whnf);repeat(refine⟨rfl,?_⟩;conv=>whnf))
 rw [zgc]
 refine zaT [1,4,8,11,35,36] (fun k : Nat=>[(37,.sc (.int .i64 k))]) (fun k=>[(4,.vec true 0 1 (rbl L.length fun v=>decide (v < k) && selS L sel l v))]) (fun k=>k≤L.length) (fun k=>L.length - k) 0 ?_
 ((conv=>whnf);repeat(refine⟨rfl,?_⟩;conv=>whnf))
 refine ⟨by omega,by (repeat' (first | exact trivial | refine And.intro rfl ?_)),by rw [show (fun v=>decide (v < 0) && selS L sel l v) = fun _=>false from funext fun v=>by simp]; rfl,?_⟩
 rintro k hk
 ((conv=>whnf);repeat(refine⟨rfl,?_⟩;conv=>whnf))
 (apply zac; focus (repeat' constructor))
 ((conv=>whnf);repeat(refine⟨rfl,?_⟩;conv=>whnf))
 (refine zab (fun q0=>?_) (fun q0=>?_) <;> (rw [q0]; ((conv=>whnf);repeat(refine⟨rfl,?_⟩;conv=>whnf))))
 ·have q0 : k < L.length:=by ((try simp only[oo,reduceCtorEq]at*)<;>omega)
  have hse:=hsel _ (zgj q0)
  have hii:=hin _ (zgj q0)
  have eS : selS L sel l k = setB l (sel (L.getD k (0,0))).toNat:=rfl
  refine ⟨by omega,_,zhq (k:=k) (by omega) q0,?_⟩
  ((conv=>whnf);repeat(refine⟨rfl,?_⟩;conv=>whnf))
  generalize L.getD k (0,0) = p at *
  (refine .inl ⟨_,hse,?_⟩; ((conv=>whnf);repeat(refine⟨rfl,?_⟩;conv=>whnf)))
  generalize sel p = x at *
  (refine ⟨by omega,(by first | omega | (simp; done) | (simp; omega) | (simp only [ll]; omega)),?_⟩; ((conv=>whnf);repeat(refine⟨rfl,?_⟩;conv=>whnf)))
  refine ⟨_,zay x.toNat (by omega) (by omega),?_⟩
  ((conv=>whnf);repeat(refine⟨rfl,?_⟩;conv=>whnf))
  (refine ⟨by omega,(by first | omega | (simp; done) | (simp; omega) | (simp only [ll]; omega)),?_⟩; ((conv=>whnf);repeat(refine⟨rfl,?_⟩;conv=>whnf)))
  refine ⟨_,zay k (by omega) q0,?_⟩
  ((conv=>whnf);repeat(refine⟨rfl,?_⟩;conv=>whnf))
  (refine .inl ⟨by (unfold InR; rw [IntKind.wrap_i64]; omega),?_⟩; ((conv=>whnf);repeat(refine⟨rfl,?_⟩;conv=>whnf)))
  refine ⟨k + 1,by omega,by dsimp only; omega,?_⟩
  rw [zfP (i:=k) (f':=fun v=>decide (v < k + 1) && selS L sel l v) (by omega) fun v _=>by
   by_cases e : v = k
   ·subst e; rw [if_pos rfl,← eS]; simp
   ·rw [if_neg e]
    by_cases e2 : v < k
    ·rw [decide_eq_true e2,decide_eq_true (show v < k + 1 by omega)]
    ·rw [decide_eq_false e2,decide_eq_false (show ¬ v < k + 1 by omega)]]
  (refine zal 5 (by simp) rfl ?_ ?_ <;> (repeat' (first | exact trivial | exact rfl | exact DeepM.refl _ | exact DeepML.refl _ | exact DeepMLL.refl _ | refine And.intro ?_ ?_ | (simp [zai,zae,zak,-List.map_take,-List.map_drop]; done))))
  all_goals first | exact zad _ hp | simp [zam,zbm,zcQ,zlj,zli] | skip
 have q0 : k = L.length:=by have : ¬ k < L.length:=by ((try simp only[oo,reduceCtorEq]at*)<;>omega)
                            omega
 subst q0
 refine ⟨(by unfold zaj; simp only [ll]; omega),?_⟩
 ((conv=>whnf);repeat(refine⟨rfl,?_⟩;conv=>whnf))
 refine ⟨.refl _,⟨rfl,.refl _,hpU _,trivial⟩,⟨rfl,.refl _,by simp [zae,zai]⟩,⟨rfl,rfl,rfl,?_,zaa _ (zdA _ _)⟩,trivial⟩
 rw [show zdW L.length (F ++ [selS L sel l]) = zdW L.length F ++ [[dbl L.length (selS L sel l)]] by simp [zdW]]
 exact .append _ _ _ _ (zah (zav (by simp))) (.cons _ _ _ _ (.cons _ _ _ _ (.own _ _ _ _ _ _ _ _ rfl rfl (zah (by rw [zav (by simp)]; exact zbK fun v hv=>by rw [decide_eq_true hv]; simp))) (.refl _)) (.refl _))
def c74 : PC:=.seq (.ops [q 1 (.box (.tmp 0)),q 2 (.move (.const (.int .i64 0)))] false) (.seq (.ops [q 3 (.faddr 0 (.tmp 1)),q 4 (.load1 (.tmp 3)),qm 2 4] false) (.ret))
theorem c74_ok : FunOK Tryz.prog 74 5 [.tmp 2] c74:=⟨⟨Tryz.f74,Tryz.func74,rfl,by kernel_rfl,rfl,by kernel_rfl⟩⟩
def c75 : PC:=.seq (.ops [q 1 (.box (.tmp 0)),q 2 (.move (.const (.int .i64 0)))] false) (.seq (.ops [q 3 (.faddr 1 (.tmp 1)),q 4 (.load1 (.tmp 3)),qm 2 4] false) (.ret))
theorem c75_ok : FunOK Tryz.prog 75 5 [.tmp 2] c75:=⟨⟨Tryz.f75,Tryz.func75,rfl,by kernel_rfl,rfl,by kernel_rfl⟩⟩
theorem em_first (p : Pr) : PCall Tryz.prog 74 [.agg (zfy p.1 p.2)] (.sc (.int .i64 p.1)):=by
 refine zag c74_ok (by simp) (by simp [zao,Pure,zfy]) ?_ (by simp [Pure])
 unfold zfy
 (apply zac; focus (repeat' constructor))
 ((conv=>whnf);repeat(refine⟨rfl,?_⟩;conv=>whnf))
 exact .refl _
theorem zo1 (p : Pr) : PCall Tryz.prog 75 [.agg (zfy p.1 p.2)] (.sc (.int .i64 p.2)):=by
 refine zag c75_ok (by simp) (by simp [zao,Pure,zfy]) ?_ (by simp [Pure])
 unfold zfy
 (apply zac; focus (repeat' constructor))
 ((conv=>whnf);repeat(refine⟨rfl,?_⟩;conv=>whnf))
 exact .refl _
def selL (L : List Pr) (sel : Pr→Int) (G : List (List Int)) (k : Nat) : List (Nat→Bool):=(G.take k).map (selS L sel)
theorem zku {L : List Pr} {sel : Pr→Int} {G : List (List Int)} {k : Nat} (h : k < G.length) : selL L sel G (k + 1) = selL L sel G k ++ [selS L sel (G.getD k [])]:=by
 unfold selL
 rw [List.take_add_one,List.getElem?_eq_getElem h,List.map_append,List.getD_eq_getElem?_getD,List.getElem?_eq_getElem h]
 rfl
theorem zff {L : List Pr} {sel : Pr→Int} {G : List (List Int)} {k : Nat} (h : k≤G.length) : (selL L sel G k).length = k:=by simp [selL]; omega
def zdY (W : WorldD) (A : AutoD) (L : List Pr) : List (Nat→Bool):=selL L (·.1) W.fair W.fair.length ++ selL L (·.2) A.fair A.fair.length
def c42_1 : PC:=.seq (.ops [q 17 (.bin .lss (.tmp 16) (.tmp 15))] false) (.seq (.cond (.tmp 17) (.skip) (.exit 0)) (.seq (.block 1 (.seq (.ops [q 18 (.iaddr 1 (.tmp 14) (.tmp 16)),q 19 (.load1 (.tmp 18)),qm 6 19] false) (.ops [qm 20 4,qm 21 6,q 22 (.load1 (.tmp 1)),q 23 (.nilchk (.tmp 22)),q 24 (.faddr 0 (.tmp 23)),q 25 (.faddr 1 (.tmp 24)),q 26 (.load1 (.tmp 25)),q 27 (.len (.tmp 26)),q 28 (.callv (.tmp 20) [(.tmp 21),(.func 74),(.tmp 27)])] false))) (.ops [q 29 (.bin .add (.tmp 16) (.const (.int .i64 1))),qm 16 29] false)))
def c42_2 : PC:=.seq (.ops [q 37 (.bin .lss (.tmp 36) (.tmp 35))] false) (.seq (.cond (.tmp 37) (.skip) (.exit 2)) (.seq (.block 3 (.seq (.ops [q 38 (.iaddr 1 (.tmp 34) (.tmp 36)),q 39 (.load1 (.tmp 38)),qm 8 39] false) (.ops [qm 40 4,qm 41 8,q 42 (.load1 (.tmp 1)),q 43 (.nilchk (.tmp 42)),q 44 (.faddr 4 (.tmp 43)),q 45 (.faddr 1 (.tmp 44)),q 46 (.load1 (.tmp 45)),q 47 (.len (.tmp 46)),q 48 (.callv (.tmp 40) [(.tmp 41),(.func 75),(.tmp 47)])] false))) (.ops [q 49 (.bin .add (.tmp 36) (.const (.int .i64 1))),qm 36 49] false)))
def c42 : PC:=.seq (.ops [q 1 (.box (.tmp 0)),q 2 (.move (.const (.slice none 0 0)))] false) (.seq (.ops [q 3 (.alloc [(.slice none 0 0)])] false) (.seq (.ops [q 9 (.mkfn (.func 73) [] [(.tmp 1),(.tmp 3)]),qm 4 9] false) (.seq (.seq (.ops [q 10 (.load1 (.tmp 1)),q 11 (.nilchk (.tmp 10)),q 12 (.faddr 0 (.tmp 11)),q 13 (.faddr 3 (.tmp 12)),q 14 (.load1 (.tmp 13)),q 15 (.len (.tmp 14)),q 16 (.move (.const (.int .i64 0)))] false) (.block 0 (.loop c42_1))) (.seq (.seq (.ops [q 30 (.load1 (.tmp 1)),q 31 (.nilchk (.tmp 30)),q 32 (.faddr 4 (.tmp 31)),q 33 (.faddr 4 (.tmp 32)),q 34 (.load1 (.tmp 33)),q 35 (.len (.tmp 34)),q 36 (.move (.const (.int .i64 0)))] false) (.block 2 (.loop c42_2))) (.seq (.ops [q 50 (.load1 (.tmp 3)),qm 2 50] false) (.ret))))))
theorem c42_ok : FunOK Tryz.prog 42 51 [.tmp 2] c42:=⟨⟨Tryz.f42,Tryz.func42,rfl,by kernel_rfl,rfl,by kernel_rfl⟩⟩
theorem em_sets {W : WorldD} {A : AutoD} (hWA : TwoW W A) (L : List Pr) (hL : L.length≤2000000) (hg : ∀ p∈L,GoodE W A p) (G : List (List Int)) (fr : List Int) : PCall Tryz.prog 42 [.ipt (sdat W A L G fr)] (dbls L.length (zdY W A L)):=by
 have hp:=zdm W A L G fr
 obtain ⟨w1,w2,w3,w4,w5,w6⟩:=zcP W hWA.cw
 obtain ⟨a1,a2,a3,a4,a5,a6,a7⟩:=zdy A hWA.ca
 have hP1:=fun k (hk : k < W.fair.length) F (hF : F.length≤1000)=>em_put W A L hL G fr 74 (·.1) W.next.length (by omega) (fun p _=>em_first p) (fun p hp=>(hg p hp).1) (W.fair.getD k []) (zed hWA.fw.fairEach k) (zbL w6 k) F hF
 have hP2:=fun k (hk : k < A.fair.length) F (hF : F.length≤1000)=>em_put W A L hL G fr 75 (·.2) A.next.length (by omega) (fun p _=>zo1 p) (fun p hp=>(hg p hp).2) (A.fair.getD k []) (zed hWA.fa.fairEach k) (zbL a7 k) F hF
 refine zag c42_ok (by simp) (by simp [zao,zd1 hp]) ?_ (zev _ _)
 have hpU:=fun m=>zaf (m:=m) _ (zd1 hp)
 obtain ⟨sd,hsd⟩ : ∃ sd : List D,sd = sdat W A L G fr:=⟨_,rfl⟩
 rw [← hsd] at hp hpU hP1 hP2 ⊢
 (apply zac; focus (repeat' constructor))
 ((conv=>whnf);repeat(refine⟨rfl,?_⟩;conv=>whnf))
 subst hsd
 unfold sdat
 ((conv=>whnf);repeat(refine⟨rfl,?_⟩;conv=>whnf))
 rw [List.length_map]
 refine zaA (zbp 1 0 1 (by simp) rfl rfl) ?_
 refine zaz [1,3,4,14,15] (fun k : Nat=>[(16,.sc (.int .i64 k))]) (fun k=>[.row true [.ipt (sdat W A L G fr)],.row true [.own 2 (selL L (·.1) W.fair k).length 0 (selL L (·.1) W.fair k).length],.vec true (selL L (·.1) W.fair k).length 1 (zdW L.length (selL L (·.1) W.fair k))]) (fun k=>k≤W.fair.length) (fun k=>W.fair.length - k) 0 ?_
 ((conv=>whnf);repeat(refine⟨rfl,?_⟩;conv=>whnf))
 refine ⟨by omega,by (repeat' (first | exact trivial | refine And.intro rfl ?_)),rfl,?_⟩
 rintro k hk
 have eL:=zff (L:=L) (sel:=(·.1)) hk
 ((conv=>whnf);repeat(refine⟨rfl,?_⟩;conv=>whnf))
 (apply zac; focus (repeat' constructor))
 ((conv=>whnf);repeat(refine⟨rfl,?_⟩;conv=>whnf))
 (refine zab (fun q0=>?_) (fun q0=>?_) <;> (rw [q0]; ((conv=>whnf);repeat(refine⟨rfl,?_⟩;conv=>whnf))))
 ·have q0 : k < W.fair.length:=by ((try simp only[oo,reduceCtorEq]at*)<;>omega)
  have hP:=hP1 k q0 (selL L (·.1) W.fair k) (by omega)
  have eS:=zku (L:=L) (sel:=(·.1)) q0
  refine ⟨by omega,_,zbx (g:=W.fair) (k:=k) (by omega) q0,?_⟩
  rw [← eS] at hP
  ((conv=>whnf);repeat(refine⟨rfl,?_⟩;conv=>whnf))
  rw [List.length_map]
  unfold sdat at hP
  (refine .inr (.inr (.inl ⟨rfl,_,_,hP,?_⟩)); ((conv=>whnf);repeat(refine⟨rfl,?_⟩;conv=>whnf)))
  (refine .inl ⟨by (unfold InR; rw [IntKind.wrap_i64]; omega),?_⟩; ((conv=>whnf);repeat(refine⟨rfl,?_⟩;conv=>whnf)))
  refine ⟨k + 1,by omega,by dsimp only; omega,?_⟩
  have eL2:=zff (L:=L) (sel:=(·.1)) (k:=k + 1) (show k + 1≤W.fair.length by omega)
  dsimp only
  rw [eL2,eL]
  (refine zal 3 (by simp) rfl ?_ ?_ <;> (repeat' (first | exact trivial | exact rfl | exact DeepM.refl _ | exact DeepML.refl _ | exact DeepMLL.refl _ | refine And.intro ?_ ?_ | (simp [zai,zae,zak,-List.map_take,-List.map_drop]; done))))
  all_goals first | exact hpU _ | skip
 have q0 : k = W.fair.length:=by have : ¬ k < W.fair.length:=by ((try simp only[oo,reduceCtorEq]at*)<;>omega)
                                 omega
 subst q0
 generalize hF0 : selL L (·.1) W.fair W.fair.length = F0 at *
 ((conv=>whnf);repeat(refine⟨rfl,?_⟩;conv=>whnf))
 rw [List.length_map]
 refine zaz [1,3,4,34,35] (fun k : Nat=>[(36,.sc (.int .i64 k))]) (fun k=>[.row true [.ipt (sdat W A L G fr)],.row true [.own 2 (F0 ++ selL L (·.2) A.fair k).length 0 (F0 ++ selL L (·.2) A.fair k).length],.vec true (F0 ++ selL L (·.2) A.fair k).length 1 (zdW L.length (F0 ++ selL L (·.2) A.fair k))]) (fun k=>k≤A.fair.length) (fun k=>A.fair.length - k) 0 ?_
 ((conv=>whnf);repeat(refine⟨rfl,?_⟩;conv=>whnf))
 refine ⟨by omega,by (repeat' (first | exact trivial | refine And.intro rfl ?_)),by simp [selL],?_⟩
 rintro k hk
 have eL':=zff (L:=L) (sel:=(·.2)) hk
 ((conv=>whnf);repeat(refine⟨rfl,?_⟩;conv=>whnf))
 (apply zac; focus (repeat' constructor))
 ((conv=>whnf);repeat(refine⟨rfl,?_⟩;conv=>whnf))
 (refine zab (fun q0=>?_) (fun q0=>?_) <;> (rw [q0]; ((conv=>whnf);repeat(refine⟨rfl,?_⟩;conv=>whnf))))
 ·have q0 : k < A.fair.length:=by ((try simp only[oo,reduceCtorEq]at*)<;>omega)
  have hP:=hP2 k q0 (F0 ++ selL L (·.2) A.fair k) (by rw [List.length_append]; omega)
  have eS:=zku (L:=L) (sel:=(·.2)) q0
  refine ⟨by omega,_,zbx (g:=A.fair) (k:=k) (by omega) q0,?_⟩
  rw [List.append_assoc,← eS] at hP
  ((conv=>whnf);repeat(refine⟨rfl,?_⟩;conv=>whnf))
  rw [List.length_map]
  unfold sdat at hP
  (refine .inr (.inr (.inl ⟨rfl,_,_,hP,?_⟩)); ((conv=>whnf);repeat(refine⟨rfl,?_⟩;conv=>whnf)))
  (refine .inl ⟨by (unfold InR; rw [IntKind.wrap_i64]; omega),?_⟩; ((conv=>whnf);repeat(refine⟨rfl,?_⟩;conv=>whnf)))
  refine ⟨k + 1,by omega,by dsimp only; omega,?_⟩
  have eL2 : (F0 ++ selL L (·.2) A.fair (k + 1)).length = (F0 ++ selL L (·.2) A.fair k).length + 1:=by rw [List.length_append,List.length_append,zff (by omega),eL']; rfl
  dsimp only
  rw [eL2]
  (refine zal 3 (by simp) rfl ?_ ?_ <;> (repeat' (first | exact trivial | exact rfl | exact DeepM.refl _ | exact DeepML.refl _ | exact DeepMLL.refl _ | refine And.intro ?_ ?_ | (simp [zai,zae,zak,-List.map_take,-List.map_drop]; done))))
  all_goals first | exact hpU _ | skip
 have q0 : k = A.fair.length:=by have : ¬ k < A.fair.length:=by ((try simp only[oo,reduceCtorEq]at*)<;>omega)
                                 omega
 subst q0
 unfold zdY
 rw [hF0]
 exact .own _ _ _ _ _ _ _ _ rfl (by rw [zav (by simp)]; exact zaq _)
end
section
open Go.RowKit
noncomputable def zeA (g : List (List Int)) (F : List (Nat→Bool)) (k : Nat) : Nat→Bool:=fun i=>okT g g.length i && (F.take k).all fun S=>hasF g S g.length i
theorem zmK {g : List (List Int)} {F : List (Nat→Bool)} {k : Nat} (h : k < F.length) (i : Nat) : zeA g F (k + 1) i = (zeA g F k i && hasF g (F.getD k noT) g.length i):=by
 unfold zeA
 rw [all_take h noT,Bool.and_assoc]
theorem zn7 {g : List (List Int)} {F : List (Nat→Bool)} : zeA g F F.length = zfA g F:=by
 funext i; unfold zeA zfA; rw [List.take_length]
def c76 : PC:=.seq (.ops [q 4 (.move (.const (.bool false)))] false) (.seq (.ops [q 5 (.load1 (.tmp 1)),qm 6 0,qd 7 (.iaddr 1 (.tmp 5) (.tmp 6)) 3,qd 8 (.load1 (.tmp 7)) 7,q 9 (.load1 (.tmp 1)),q 10 (.load1 (.tmp 2)),qd 11 (.iaddr 1 (.tmp 9) (.tmp 10)) 48,qd 12 (.load1 (.tmp 11)) 112,qd 13 (.bin .eql (.tmp 8) (.tmp 12)) 255,qw 4 13 511] true) (.ret))
theorem c76_ok : FunOK Tryz.prog 76 14 [.tmp 4] c76:=⟨⟨Tryz.f76,Tryz.func76,rfl,by kernel_rfl,rfl,by kernel_rfl⟩⟩
theorem em_same (g : List (List Int)) (x : Int) (hx : 0≤x∧x < (g.length : Int)) (n : Nat) (hn : n < g.length) : PCall Tryz.prog 76 [.sc (.int .i64 x),.ipt [zaD (zdp g)],.ipt [.sc (.int .i64 n)]] (.sc (.bool (partsG g x.toNat == partsG g n))):=by
 refine zag c76_ok (by simp) (by simp [zao,Pure,zam]) ?_ (by simp [Pure])
 unfold zdp zaD
 (apply zac; focus (repeat' constructor))
 ((conv=>whnf);repeat(refine⟨rfl,?_⟩;conv=>whnf))
 refine ⟨by omega,_,za5 x.toNat (by omega) (by omega),?_⟩
 ((conv=>whnf);repeat(refine⟨rfl,?_⟩;conv=>whnf))
 refine ⟨by omega,_,za5 n (by omega) hn,?_⟩
 ((conv=>whnf);repeat(refine⟨rfl,?_⟩;conv=>whnf))
 exact .refl _
def c43_1 : PC:=.seq (.ops [q 28 (.bin .lss (.tmp 27) (.tmp 26))] false) (.seq (.cond (.tmp 28) (.skip) (.exit 0)) (.seq (.block 1 (.seq (.ops [qm 29 27,q 30 (.iaddr 1 (.tmp 25) (.tmp 27)),q 31 (.load1 (.tmp 30)),q 8 (.alloc [(.int .i64 0)]),qn (.store 1 (.tmp 8) (.tmp 29)),qm 9 31] false) (.seq (.ops [qm 32 9,q 33 (.mkfn (.func 76) [] [(.tmp 4),(.tmp 8)]),q 34 (.call 57 [(.tmp 32),(.tmp 33)])] false) (.cond (.tmp 34) (.ops [qm 35 7,q 36 (.load1 (.tmp 4)),q 37 (.load1 (.tmp 8)),q 38 (.iaddr 1 (.tmp 36) (.tmp 37)),q 39 (.load1 (.tmp 38)),q 40 (.iaddr 1 (.tmp 35) (.tmp 39)),qn (.store 1 (.tmp 40) (.const (.bool true)))] false) (.skip))))) (.ops [q 41 (.bin .add (.tmp 27) (.const (.int .i64 1))),qm 27 41] false)))
def c43_3 : PC:=.seq (.ops [q 57 (.bin .lss (.tmp 56) (.tmp 55))] false) (.seq (.cond (.tmp 57) (.skip) (.exit 4)) (.seq (.block 5 (.seq (.ops [qm 58 56,q 59 (.iaddr 1 (.tmp 54) (.tmp 56)),q 60 (.load1 (.tmp 59)),qm 13 58,qm 14 60] false) (.ops [qm 61 12,q 62 (.load1 (.tmp 4)),qm 63 13,qd 64 (.iaddr 1 (.tmp 62) (.tmp 63)) 6,qd 65 (.load1 (.tmp 64)) 14,qm 66 12,q 67 (.load1 (.tmp 4)),qm 68 13,qd 69 (.iaddr 1 (.tmp 67) (.tmp 68)) 192,qd 70 (.load1 (.tmp 69)) 448,qd 71 (.iaddr 1 (.tmp 66) (.tmp 70)) 992,qd 72 (.load1 (.tmp 71)) 2016,qw 73 72 4064,⟨some 74,.move (.tmp 14),some (73,false),8160⟩,qd 75 (.pick (.tmp 73) (.const (.bool true)) (.tmp 74)) 16352,qd 76 (.iaddr 1 (.tmp 61) (.tmp 65)) 32767,qk (.store 1 (.tmp 76) (.tmp 75)) 65535] true))) (.ops [q 77 (.bin .add (.tmp 56) (.const (.int .i64 1))),qm 56 77] false)))
def c43_4 : PC:=.seq (.ops [q 81 (.bin .lss (.tmp 80) (.tmp 79))] false) (.seq (.cond (.tmp 81) (.skip) (.exit 6)) (.seq (.block 7 (.seq (.ops [qm 82 80,qm 15 82] false) (.ops [qm 83 7,qm 84 15,qm 85 7,qm 86 15,q 87 (.iaddr 1 (.tmp 85) (.tmp 86)),q 88 (.load1 (.tmp 87)),qm 89 88,⟨some 90,.move (.tmp 12),some (89,true),0⟩,⟨some 91,.move (.tmp 15),some (89,true),0⟩,⟨some 92,.iaddr 1 (.tmp 90) (.tmp 91),some (89,true),0⟩,⟨some 93,.load1 (.tmp 92),some (89,true),0⟩,q 94 (.pick (.tmp 89) (.tmp 93) (.const (.bool false))),q 95 (.iaddr 1 (.tmp 83) (.tmp 84)),qn (.store 1 (.tmp 95) (.tmp 94))] false))) (.ops [q 96 (.bin .add (.tmp 80) (.const (.int .i64 1))),qm 80 96] false)))
def c43_2 : PC:=.seq (.ops [q 45 (.bin .lss (.tmp 44) (.tmp 43))] false) (.seq (.cond (.tmp 45) (.skip) (.exit 2)) (.seq (.block 3 (.seq (.ops [q 46 (.iaddr 1 (.tmp 42) (.tmp 44)),q 47 (.load1 (.tmp 46)),qm 11 47] false) (.seq (.ops [qm 48 0,q 49 (.nilchk (.tmp 48)),q 50 (.faddr 10 (.tmp 49)),q 51 (.load1 (.tmp 50)),q 52 (.len (.tmp 51)),q 53 (.mslice 1 1 [(.bool false)] (.tmp 52) (.tmp 52)),qm 12 53] false) (.seq (.seq (.ops [qm 54 11,q 55 (.len (.tmp 54)),q 56 (.move (.const (.int .i64 0)))] false) (.block 4 (.loop c43_3))) (.seq (.ops [qm 78 7,q 79 (.len (.tmp 78)),q 80 (.move (.const (.int .i64 0)))] false) (.block 6 (.loop c43_4))))))) (.ops [q 97 (.bin .add (.tmp 44) (.const (.int .i64 1))),qm 44 97] false)))
def c43 : PC:=.seq (.ops [q 4 (.box (.tmp 1)),q 6 (.move (.const (.int .i64 0)))] false) (.seq (.ops [qm 16 0,q 17 (.nilchk (.tmp 16)),q 18 (.faddr 10 (.tmp 17)),q 19 (.load1 (.tmp 18)),q 20 (.len (.tmp 19)),q 21 (.mslice 1 1 [(.bool false)] (.tmp 20) (.tmp 20)),qm 7 21] false) (.seq (.seq (.ops [qm 22 0,q 23 (.nilchk (.tmp 22)),q 24 (.faddr 11 (.tmp 23)),q 25 (.load1 (.tmp 24)),q 26 (.len (.tmp 25)),q 27 (.move (.const (.int .i64 0)))] false) (.block 0 (.loop c43_1))) (.seq (.seq (.ops [qm 42 2,q 43 (.len (.tmp 42)),q 44 (.move (.const (.int .i64 0)))] false) (.block 2 (.loop c43_2))) (.seq (.ops [qm 98 7,q 99 (.call 77 [(.tmp 98),(.const (.bool true))]),qm 6 99] false) (.ret)))))
theorem c43_ok : FunOK Tryz.prog 43 100 [.tmp 6] c43:=⟨⟨Tryz.f43,Tryz.func43,rfl,by kernel_rfl,rfl,by kernel_rfl⟩⟩
theorem em_good (W : WorldD) (A : AutoD) (L : List Pr) (g : List (List Int)) (hLg : g.length = L.length) (fr : List Int) (hn : g.length≤2000000) (hin0 : ∀ l∈g,inB l g.length = true) (hF : FitsG g) (F : List (Nat→Bool)) (hFl : F.length≤1000) :
  PCall Tryz.prog 43 [.ipt (sdat W A L g fr),zaD (zdp g),dbls g.length F] (.sc (.int .i64 (idxF (fun b=>true == b) ((List.range g.length).map (zfA g F))))):=by
 have hrow:=fun k=>zbL hin0 k
 have hp:=zdm W A L g fr
 have hc:=fun k (hk : k < g.length)=>zdt (fun n=>.sc (.int .i64 n)) (fun a=>by simp [Pure]) (g.getD k []) (by have:=hF.at k; omega) (fun x=>partsG g x.toNat == partsG g k) 76 [.ipt [zaD (zdp g)],.ipt [.sc (.int .i64 k)]] (by simp [zao,Pure,zam]) fun a ha=>em_same g a (zaN (hrow k) ha) k hk
 have hI:=zmL ((List.range g.length).map (zfA g F)) (by simp; omega) true
 refine zag c43_ok (by simp) (by simp [zao,Pure,zam,hp,zev]) ?_ (by simp [Pure])
 unfold sdat zg3 dbls zbe
 (apply zac; focus (repeat' constructor))
 ((conv=>whnf);repeat(refine⟨rfl,?_⟩;conv=>whnf))
 rw [zgc,← hLg]
 refine ⟨by omega,by omega,by omega,?_⟩
 rw [Int.toNat_natCast,show List.map D.sc [Value.bool false] = [D.sc (.bool false)] from rfl,zdT]
 ((conv=>whnf);repeat(refine⟨rfl,?_⟩;conv=>whnf))
 rw [List.length_map]
 refine zaT [0,2,4,7,25,26] (fun k : Nat=>[(27,.sc (.int .i64 k))]) (fun k=>[(1,.vec true 0 1 (rbl g.length (okT g k)))]) (fun k=>k≤g.length) (fun k=>g.length - k) 0 ?_
 ((conv=>whnf);repeat(refine⟨rfl,?_⟩;conv=>whnf))
 refine ⟨by omega,by (repeat' (first | exact trivial | refine And.intro rfl ?_)),rfl,?_⟩
 rintro k hk
 ((conv=>whnf);repeat(refine⟨rfl,?_⟩;conv=>whnf))
 (apply zac; focus (repeat' constructor))
 ((conv=>whnf);repeat(refine⟨rfl,?_⟩;conv=>whnf))
 (refine zab (fun q0=>?_) (fun q0=>?_) <;> (rw [q0]; ((conv=>whnf);repeat(refine⟨rfl,?_⟩;conv=>whnf))))
 ·have q0 : k < g.length:=by ((try simp only[oo,reduceCtorEq]at*)<;>omega)
  have hpl:=zgx q0
  have e1:=okT_succ g k
  refine ⟨by omega,_,zbx (k:=k) (by omega) q0,?_⟩
  ((conv=>whnf);repeat(refine⟨rfl,?_⟩;conv=>whnf))
  (refine .inr (.inl ⟨_,_,(by (repeat' (first | exact Deep.refl _ | exact Deep.none _ | exact zaF _ | exact DeepL.nil | exact DeepLL.nil | refine Deep.agg _ _ ?_ | refine Deep.tup _ _ ?_ | refine Deep.own _ _ _ _ _ _ _ _ rfl ?_ | refine Deep.loc _ _ _ _ _ rfl ?_ | refine Deep.ifc _ _ _ ?_ | refine Deep.fn _ _ _ _ _ ?_ ?_ | refine DeepL.cons _ _ _ _ ?_ ?_ | refine DeepLL.cons _ _ _ _ ?_ ?_ | exact zaq _))),(hc k q0),rfl,?_⟩); ((conv=>whnf);repeat(refine⟨rfl,?_⟩;conv=>whnf)))
  rw [show ((g.getD k []).any fun x=>partsG g x.toNat == partsG g k) = zmQ g k from rfl]
  cases r : zmQ g k
  ·((conv=>whnf);repeat(refine⟨rfl,?_⟩;conv=>whnf))
   (refine .inl ⟨by (unfold InR; rw [IntKind.wrap_i64]; omega),?_⟩; ((conv=>whnf);repeat(refine⟨rfl,?_⟩;conv=>whnf)))
   refine ⟨k + 1,by omega,by dsimp only; omega,?_⟩
   (refine zal 2 (by simp) rfl ?_ ?_ <;> (repeat' (first | exact trivial | exact rfl | exact DeepM.refl _ | exact DeepML.refl _ | exact DeepMLL.refl _ | refine And.intro ?_ ?_ | (simp [zai,zae,zak,-List.map_take,-List.map_drop]; done))))
   all_goals first | exact zad _ hp | exact zah (zbK fun i _=>by rw [e1,r,Bool.and_false,Bool.or_false]) | skip
  ·((conv=>whnf);repeat(refine⟨rfl,?_⟩;conv=>whnf))
   refine ⟨by omega,_,za5 k (by omega) q0,?_⟩
   ((conv=>whnf);repeat(refine⟨rfl,?_⟩;conv=>whnf))
   (refine ⟨by omega,(by first | omega | (simp; done) | (simp; omega) | (simp only [ll]; omega)),?_⟩; ((conv=>whnf);repeat(refine⟨rfl,?_⟩;conv=>whnf)))
   refine ⟨_,zay (partsG g k).toNat (by omega) (by omega),?_⟩
   ((conv=>whnf);repeat(refine⟨rfl,?_⟩;conv=>whnf))
   (refine .inl ⟨by (unfold InR; rw [IntKind.wrap_i64]; omega),?_⟩; ((conv=>whnf);repeat(refine⟨rfl,?_⟩;conv=>whnf)))
   refine ⟨k + 1,by omega,by dsimp only; omega,?_⟩
   rw [zfP (i:=(partsG g k).toNat) (f':=okT g (k + 1)) (by omega) fun v _=>by
    rw [e1,r,Bool.and_true]
    by_cases e : v = (partsG g k).toNat
    ·rw [if_pos e,show (partsG g k == (v : Int)) = true by rw [beq_iff_eq]; omega,Bool.or_true]
    ·rw [if_neg e,show (partsG g k == (v : Int)) = false by rw [beq_eq_false_iff_ne]; omega,Bool.or_false]]
   (refine zal 2 (by simp) rfl ?_ ?_ <;> (repeat' (first | exact trivial | exact rfl | exact DeepM.refl _ | exact DeepML.refl _ | exact DeepMLL.refl _ | refine And.intro ?_ ?_ | (simp [zai,zae,zak,-List.map_take,-List.map_drop]; done))))
   all_goals first | exact zad _ hp | skip
 have q0 : k = g.length:=by have : ¬ k < g.length:=by ((try simp only[oo,reduceCtorEq]at*)<;>omega)
                            omega
 subst q0
 clear hc
 rw [List.length_map]
 refine zaT [0,4,7,42,43] (fun k : Nat=>[(44,.sc (.int .i64 k))]) (fun k=>[(1,.vec true 0 1 (rbl g.length (zeA g F k)))]) (fun k=>k≤F.length) (fun k=>F.length - k) 0 ?_
 ((conv=>whnf);repeat(refine⟨rfl,?_⟩;conv=>whnf))
 refine ⟨by omega,by (repeat' (first | exact trivial | refine And.intro rfl ?_)),by rw [show zeA g F 0 = okT g g.length from funext fun i=>by simp [zeA]]; rfl,?_⟩
 rintro k hk
 ((conv=>whnf);repeat(refine⟨rfl,?_⟩;conv=>whnf))
 (apply zac; focus (repeat' constructor))
 ((conv=>whnf);repeat(refine⟨rfl,?_⟩;conv=>whnf))
 (refine zab (fun q0=>?_) (fun q0=>?_) <;> (rw [q0]; ((conv=>whnf);repeat(refine⟨rfl,?_⟩;conv=>whnf))))
 ·have q0 : k < F.length:=by ((try simp only[oo,reduceCtorEq]at*)<;>omega)
  have eG:=fun i=>zmK (g:=g) q0 i
  refine ⟨by omega,_,zjh (n:=g.length) (F:=F) (k:=k) (by omega) q0,?_⟩
  ((conv=>whnf);repeat(refine⟨rfl,?_⟩;conv=>whnf))
  generalize F.getD k noT = S at *
  rw [zgc,← hLg]
  refine ⟨by omega,by omega,by omega,?_⟩
  rw [Int.toNat_natCast,show List.map D.sc [Value.bool false] = [D.sc (.bool false)] from rfl,zdT]
  ((conv=>whnf);repeat(refine⟨rfl,?_⟩;conv=>whnf))
  rw [rbl_len]
  refine zaT [0,4,7,12,42,43,44,54,55] (fun j : Nat=>[(56,.sc (.int .i64 j))]) (fun j=>[(2,.vec true 0 1 (rbl g.length (hasF g S j)))]) (fun j=>j≤g.length) (fun j=>g.length - j) 0 ?_
  ((conv=>whnf);repeat(refine⟨rfl,?_⟩;conv=>whnf))
  refine ⟨by omega,by (repeat' (first | exact trivial | refine And.intro rfl ?_)),by rw [show hasF g S 0 = fun _=>false from funext fun i=>rfl]; rfl,?_⟩
  rintro j hj
  ((conv=>whnf);repeat(refine⟨rfl,?_⟩;conv=>whnf))
  (apply zac; focus (repeat' constructor))
  ((conv=>whnf);repeat(refine⟨rfl,?_⟩;conv=>whnf))
  (refine zab (fun q2=>?_) (fun q2=>?_) <;> (rw [q2]; ((conv=>whnf);repeat(refine⟨rfl,?_⟩;conv=>whnf))))
  ·have q2 : j < g.length:=by ((try simp only[oo,reduceCtorEq]at*)<;>omega)
   have eH:=fun i=>znI g S j i
   have hpj:=zgx (g:=g) q2
   refine ⟨by omega,_,zay j (by omega) q2,?_⟩
   ((conv=>whnf);repeat(refine⟨rfl,?_⟩;conv=>whnf))
   refine ⟨by omega,_,za5 j (by omega) q2,?_⟩
   ((conv=>whnf);repeat(refine⟨rfl,?_⟩;conv=>whnf))
   refine ⟨by omega,_,za5 j (by omega) q2,?_⟩
   ((conv=>whnf);repeat(refine⟨rfl,?_⟩;conv=>whnf))
   (refine ⟨by omega,(by first | omega | (simp; done) | (simp; omega) | (simp only [ll]; omega)),?_⟩; ((conv=>whnf);repeat(refine⟨rfl,?_⟩;conv=>whnf)))
   refine ⟨_,zay (partsG g j).toNat (by omega) (by omega),?_⟩
   ((conv=>whnf);repeat(refine⟨rfl,?_⟩;conv=>whnf))
   have fin : ∀ v,(v = true↔hasF g S j (partsG g j).toNat = true∨S j = true)→(rbl g.length (hasF g S j)).set (partsG g j).toNat [.sc (.bool v)] = rbl g.length (hasF g S (j + 1)):=fun v hv =>
    zfP rfl fun q _=>by
     rw [eH]
     by_cases e : q = (partsG g j).toNat
     ·subst e
      rw [if_pos rfl,show (partsG g j == (((partsG g j).toNat : Nat) : Int)) = true by rw [beq_iff_eq]; omega,Bool.true_and,Bool.eq_iff_iff,Bool.or_eq_true,hv]
     ·rw [if_neg e,show (partsG g j == (q : Int)) = false by rw [beq_eq_false_iff_ne]; omega,Bool.false_and,Bool.or_false]
   cases r : hasF g S j (partsG g j).toNat
   ·((conv=>whnf);repeat(refine⟨rfl,?_⟩;conv=>whnf))
    (refine ⟨by omega,(by first | omega | (simp; done) | (simp; omega) | (simp only [ll]; omega)),?_⟩; ((conv=>whnf);repeat(refine⟨rfl,?_⟩;conv=>whnf)))
    refine ⟨_,zay (partsG g j).toNat (by omega) (by omega),?_⟩
    ((conv=>whnf);repeat(refine⟨rfl,?_⟩;conv=>whnf))
    (refine .inl ⟨by (unfold InR; rw [IntKind.wrap_i64]; omega),?_⟩; ((conv=>whnf);repeat(refine⟨rfl,?_⟩;conv=>whnf)))
    refine ⟨j + 1,by omega,by dsimp only; omega,zan (by (repeat' (first | exact trivial | refine And.intro rfl ?_))) ?_⟩
    have:=fin (S j) (by rw [r]; simp)
    rw [Nat.zero_add,this]
    rfl
   ·((conv=>whnf);repeat(refine⟨rfl,?_⟩;conv=>whnf))
    (refine ⟨by omega,(by first | omega | (simp; done) | (simp; omega) | (simp only [ll]; omega)),?_⟩; ((conv=>whnf);repeat(refine⟨rfl,?_⟩;conv=>whnf)))
    refine ⟨_,zay (partsG g j).toNat (by omega) (by omega),?_⟩
    ((conv=>whnf);repeat(refine⟨rfl,?_⟩;conv=>whnf))
    (refine .inl ⟨by (unfold InR; rw [IntKind.wrap_i64]; omega),?_⟩; ((conv=>whnf);repeat(refine⟨rfl,?_⟩;conv=>whnf)))
    refine ⟨j + 1,by omega,by dsimp only; omega,zan (by (repeat' (first | exact trivial | refine And.intro rfl ?_))) ?_⟩
    have:=fin true (by rw [r]; simp)
    rw [Nat.zero_add,this]
    rfl
  have q2 : j = g.length:=by have : ¬ j < g.length:=by ((try simp only[oo,reduceCtorEq]at*)<;>omega)
                             omega
  rw [q2]
  clear q2
  refine zaT [0,4,7,12,42,43,44,79] (fun i : Nat=>[(80,.sc (.int .i64 i))]) (fun i=>[(1,.vec true 0 1 (rbl g.length fun x=>if x < i then zeA g F (k + 1) x else zeA g F k x))]) (fun i=>i≤g.length) (fun i=>g.length - i) 0 ?_
  ((conv=>whnf);repeat(refine⟨rfl,?_⟩;conv=>whnf))
  refine ⟨by omega,by (repeat' (first | exact trivial | refine And.intro rfl ?_)),by simp; rfl,?_⟩
  rintro i hi
  ((conv=>whnf);repeat(refine⟨rfl,?_⟩;conv=>whnf))
  (apply zac; focus (repeat' constructor))
  ((conv=>whnf);repeat(refine⟨rfl,?_⟩;conv=>whnf))
  (refine zab (fun q3=>?_) (fun q3=>?_) <;> (rw [q3]; ((conv=>whnf);repeat(refine⟨rfl,?_⟩;conv=>whnf))))
  ·have q3 : i < g.length:=by ((try simp only[oo,reduceCtorEq]at*)<;>omega)
   have fin : (rbl g.length fun x=>if x < i then zeA g F (k + 1) x else zeA g F k x).set i [.sc (.bool (zeA g F (k + 1) i))] = rbl g.length fun x=>if x < i + 1 then zeA g F (k + 1) x else zeA g F k x :=
    zfP rfl fun q _=>by
     by_cases e : q = i
     ·subst e; rw [if_pos (by omega),if_pos rfl]
     ·rw [if_neg e]
      by_cases e2 : q < i
      ·rw [if_pos e2,if_pos (by omega)]
      ·rw [if_neg e2,if_neg (by omega)]
   have eGi:=eG i
   have hat : (rbl g.length fun x=>if x < i then zeA g F (k + 1) x else zeA g F k x)[i]? = some [.sc (.bool (zeA g F k i))]:=by
    rw [zay i rfl q3,if_neg (by omega)]
   (refine ⟨by omega,(by first | omega | (simp; done) | (simp; omega) | (simp only [ll]; omega)),?_⟩; ((conv=>whnf);repeat(refine⟨rfl,?_⟩;conv=>whnf)))
   refine ⟨_,by rw [Nat.zero_add]; exact hat,?_⟩
   ((conv=>whnf);repeat(refine⟨rfl,?_⟩;conv=>whnf))
   cases r : zeA g F k i
   ·rw [r,Bool.false_and] at eGi
    rw [eGi] at fin
    ((conv=>whnf);repeat(refine⟨rfl,?_⟩;conv=>whnf))
    (refine ⟨by omega,(by first | omega | (simp; done) | (simp; omega) | (simp only [ll]; omega)),?_⟩; ((conv=>whnf);repeat(refine⟨rfl,?_⟩;conv=>whnf)))
    refine ⟨_,by rw [Nat.zero_add]; exact hat,?_⟩
    ((conv=>whnf);repeat(refine⟨rfl,?_⟩;conv=>whnf))
    (refine .inl ⟨by (unfold InR; rw [IntKind.wrap_i64]; omega),?_⟩; ((conv=>whnf);repeat(refine⟨rfl,?_⟩;conv=>whnf)))
    refine ⟨i + 1,by omega,by dsimp only; omega,zan (by (repeat' (first | exact trivial | refine And.intro rfl ?_))) ?_⟩
    rw [Nat.zero_add,show (i : Int).toNat = i from Int.toNat_natCast i,fin]
    rfl
   ·rw [r,Bool.true_and] at eGi
    rw [eGi] at fin
    ((conv=>whnf);repeat(refine⟨rfl,?_⟩;conv=>whnf))
    (refine ⟨by omega,(by first | omega | (simp; done) | (simp; omega) | (simp only [ll]; omega)),?_⟩; ((conv=>whnf);repeat(refine⟨rfl,?_⟩;conv=>whnf)))
    refine ⟨_,zay i (by omega) q3,?_⟩
    ((conv=>whnf);repeat(refine⟨rfl,?_⟩;conv=>whnf))
    (refine ⟨by omega,(by first | omega | (simp; done) | (simp; omega) | (simp only [ll]; omega)),?_⟩; ((conv=>whnf);repeat(refine⟨rfl,?_⟩;conv=>whnf)))
    refine ⟨_,by rw [Nat.zero_add]; exact hat,?_⟩
    ((conv=>whnf);repeat(refine⟨rfl,?_⟩;conv=>whnf))
    (refine .inl ⟨by (unfold InR; rw [IntKind.wrap_i64]; omega),?_⟩; ((conv=>whnf);repeat(refine⟨rfl,?_⟩;conv=>whnf)))
    refine ⟨i + 1,by omega,by dsimp only; omega,zan (by (repeat' (first | exact trivial | refine And.intro rfl ?_))) ?_⟩
    rw [Nat.zero_add,show (i : Int).toNat = i from Int.toNat_natCast i,fin]
    rfl
  ·have q3 : i = g.length:=by have : ¬ i < g.length:=by ((try simp only[oo,reduceCtorEq]at*)<;>omega)
                              omega
   subst q3
   (refine .inl ⟨by (unfold InR; rw [IntKind.wrap_i64]; omega),?_⟩; ((conv=>whnf);repeat(refine⟨rfl,?_⟩;conv=>whnf)))
   refine ⟨k + 1,by omega,by dsimp only; omega,?_⟩
   dsimp only
   (refine zal 2 (by simp) rfl ?_ ?_ <;> (repeat' (first | exact trivial | exact rfl | exact DeepM.refl _ | exact DeepML.refl _ | exact DeepMLL.refl _ | refine And.intro ?_ ?_ | (simp [zai,zae,zak,-List.map_take,-List.map_drop]; done))))
   all_goals first | exact zad _ hp | exact zaa _ (zas _ (fun S=>by simp [zao,zbM]) F) | exact zah (zbK fun v hv=>by rw [if_pos hv]) | skip
 have q0 : k = F.length:=by have : ¬ k < F.length:=by ((try simp only[oo,reduceCtorEq]at*)<;>omega)
                            omega
 subst q0
 rw [zn7]
 rw [show ((List.range g.length).map (zfA g F)).map (fun a=>[D.sc (.bool a)]) = List.drop 0 (List.take g.length (rbl g.length (zfA g F))) by rw [zle,rbl_map]] at hI
 (refine .inr (.inl ⟨_,_,(by (repeat' (first | exact Deep.refl _ | exact Deep.none _ | exact zaF _ | exact DeepL.nil | exact DeepLL.nil | refine Deep.agg _ _ ?_ | refine Deep.tup _ _ ?_ | refine Deep.own _ _ _ _ _ _ _ _ rfl ?_ | refine Deep.loc _ _ _ _ _ rfl ?_ | refine Deep.ifc _ _ _ ?_ | refine Deep.fn _ _ _ _ _ ?_ ?_ | refine DeepL.cons _ _ _ _ ?_ ?_ | refine DeepLL.cons _ _ _ _ ?_ ?_ | exact zaq _))),hI,rfl,?_⟩); ((conv=>whnf);repeat(refine⟨rfl,?_⟩;conv=>whnf)))
 exact .refl _
end
end
section
open Go.RowKit
def revG (Z : List Int) (i : Nat) (p : Nat) : Int:=if p < i∨Z.length - i≤p then Z.getD (Z.length - 1 - p) 0 else Z.getD p 0
theorem gl_self (Z : List Int) : gl Z.length (fun p=>Z.getD p 0) = Z:=by
 apply List.ext_getElem (by simp)
 intro i h1 h2
 have:=zlq (n:=Z.length) (g:=fun p=>Z.getD p 0) h2
 rw [List.getD_eq_getElem?_getD,List.getElem?_eq_getElem h1,List.getD_eq_getElem?_getD,List.getElem?_eq_getElem h2] at this
 exact this
theorem gl_rev {Z : List Int} {g : Nat→Int} (h : ∀ p,p < Z.length→g p = Z.getD (Z.length - 1 - p) 0) : gl Z.length g = Z.reverse:=by
 apply List.ext_getElem (by simp)
 intro i h1 h2
 have hi : i < Z.length:=by simpa using h1
 have:=zlq (n:=Z.length) (g:=g) hi
 rw [List.getD_eq_getElem?_getD,List.getElem?_eq_getElem h1,h i hi,List.getD_eq_getElem?_getD,List.getElem?_eq_getElem (by omega)] at this
 rw [List.getElem_reverse]
 exact this
def c78_1 : PC:=.seq (.seq (.ops [qm 7 2,qm 8 3,q 9 (.bin .lss (.tmp 7) (.tmp 8))] false) (.cond (.tmp 9) (.skip) (.exit 0))) (.seq (.block 1 (.ops [qm 14 0,qm 15 2,qm 16 0,qm 17 3,qm 18 0,qm 19 3,qd 20 (.iaddr 1 (.tmp 18) (.tmp 19)) 48,qd 21 (.load1 (.tmp 20)) 112,qm 22 0,qm 23 2,qd 24 (.iaddr 1 (.tmp 22) (.tmp 23)) 768,qd 25 (.load1 (.tmp 24)) 1792,qd 26 (.iaddr 1 (.tmp 14) (.tmp 15)) 4083,qk (.store 1 (.tmp 26) (.tmp 21)) 8179,qd 27 (.iaddr 1 (.tmp 16) (.tmp 17)) 16383,qk (.store 1 (.tmp 27) (.tmp 25)) 32767] true)) (.ops [qm 10 2,q 11 (.bin .add (.tmp 10) (.const (.int .i64 1))),qm 12 3,q 13 (.bin .sub (.tmp 12) (.const (.int .i64 1))),qm 2 11,qm 3 13] false))
def c78 : PC:=.seq (.ops [qm 4 0,q 5 (.len (.tmp 4)),q 6 (.bin .sub (.tmp 5) (.const (.int .i64 1))),q 2 (.move (.const (.int .i64 0))),qm 3 6] false) (.block 0 (.loop c78_1))
theorem c78_ok : FunOK Tryz.prog 78 28 [] c78:=⟨⟨Tryz.f78,Tryz.func78,rfl,by kernel_rfl,rfl,by kernel_rfl⟩⟩
theorem zif (Z : List Int) (hl : Z.length≤17592186044416) (v : Nat) : ACall Tryz.prog 78 [.own 0 v 0 Z.length] [.vec true v 1 (i64s Z)] (.tup []) [.vec true v 1 (i64s Z.reverse)]:=by
 refine zb4 c78_ok (by simp) (by simp) ?_ (by simp [zai,zae]) (by simp [AObj.under])
 (apply zac; focus (repeat' constructor))
 ((conv=>whnf);repeat(refine⟨rfl,?_⟩;conv=>whnf))
 rw [Nat.sub_zero]
 (refine .inl ⟨by (unfold InR; rw [IntKind.wrap_i64]; omega),?_⟩; ((conv=>whnf);repeat(refine⟨rfl,?_⟩;conv=>whnf)))
 refine zaT [0] (fun i : Nat=>[(2,.sc (.int .i64 i)),(3,.sc (.int .i64 ((Z.length : Int) - 1 - i)))]) (fun i=>[(0,.vec true v 1 (i64s (gl Z.length (revG Z i))))]) (fun i=>2 * i≤Z.length + 1) (fun i=>Z.length + 1 - i) 0 ?_
 ((conv=>whnf);repeat(refine⟨rfl,?_⟩;conv=>whnf))
 refine ⟨by omega,⟨rfl,by show D.sc _ = D.sc _; simp,trivial⟩,by
  rw [zfl (g':=fun p=>Z.getD p 0) fun p hp=>by unfold revG; rw [if_neg (by omega)],gl_self]; rfl,?_⟩
 rintro i hi
 ((conv=>whnf);repeat(refine⟨rfl,?_⟩;conv=>whnf))
 (apply zac; focus (repeat' constructor))
 ((conv=>whnf);repeat(refine⟨rfl,?_⟩;conv=>whnf))
 (refine zab (fun h1=>?_) (fun h1=>?_) <;> (rw [h1]; ((conv=>whnf);repeat(refine⟨rfl,?_⟩;conv=>whnf))))
 ·have h1 : (i : Int) < (Z.length : Int) - 1 - i:=by ((try simp only[oo,reduceCtorEq]at*)<;>omega)
  (refine ⟨by omega,(by first | omega | (simp; done) | (simp; omega) | (simp only [ll]; omega)),?_⟩; ((conv=>whnf);repeat(refine⟨rfl,?_⟩;conv=>whnf)))
  refine ⟨_,za5 (Z.length - 1 - i) (by omega) (by omega),?_⟩
  ((conv=>whnf);repeat(refine⟨rfl,?_⟩;conv=>whnf))
  (refine ⟨by omega,(by first | omega | (simp; done) | (simp; omega) | (simp only [ll]; omega)),?_⟩; ((conv=>whnf);repeat(refine⟨rfl,?_⟩;conv=>whnf)))
  refine ⟨_,za5 i (by omega) (by omega),?_⟩
  ((conv=>whnf);repeat(refine⟨rfl,?_⟩;conv=>whnf))
  (refine ⟨by omega,(by first | omega | (simp; done) | (simp; omega) | (simp only [ll]; omega)),?_⟩; ((conv=>whnf);repeat(refine⟨rfl,?_⟩;conv=>whnf)))
  refine ⟨_,za5 i (by omega) (by omega),?_⟩
  ((conv=>whnf);repeat(refine⟨rfl,?_⟩;conv=>whnf))
  (refine ⟨by omega,(by first | omega | (simp; done) | (simp; omega) | (simp only [ll]; omega)),?_⟩; ((conv=>whnf);repeat(refine⟨rfl,?_⟩;conv=>whnf)))
  rw [zeR (k:=i) (by omega)]
  refine ⟨_,za5 (Z.length - 1 - i) (by omega) (by omega),?_⟩
  ((conv=>whnf);repeat(refine⟨rfl,?_⟩;conv=>whnf))
  (refine .inl ⟨by (unfold InR; rw [IntKind.wrap_i64]; omega),?_⟩; ((conv=>whnf);repeat(refine⟨rfl,?_⟩;conv=>whnf)))
  (refine .inl ⟨by (unfold InR; rw [IntKind.wrap_i64]; omega),?_⟩; ((conv=>whnf);repeat(refine⟨rfl,?_⟩;conv=>whnf)))
  refine ⟨i + 1,by omega,by dsimp only; omega,?_⟩
  refine zan ⟨rfl,by show D.sc _ = D.sc _; simp; omega,by (repeat' (first | exact trivial | refine And.intro rfl ?_))⟩ ?_
  rw [zeR (k:=Z.length - 1 - i) (by omega),zfl (g':=revG Z (i + 1)) fun p hp=>?_]
  ·rfl
  ·by_cases e1 : p = Z.length - 1 - i
   ·subst e1
    rw [zf8]
    unfold revG
    rw [if_neg (by omega),if_pos (by omega)]
    congr 1
    omega
   ·rw [zlD e1]
    by_cases e2 : p = i
    ·subst e2
     rw [zf8]
     unfold revG
     rw [if_neg (by omega),if_pos (by omega)]
    ·rw [zlD e2]
     unfold revG
     by_cases q : p < i∨Z.length - i≤p
     ·rw [if_pos q,if_pos (by omega)]
     ·rw [if_neg q,if_neg (by omega)]
 ·have h1 : ¬ (i : Int) < (Z.length : Int) - 1 - i:=by ((try simp only[oo,reduceCtorEq]at*)<;>omega)
  refine ⟨?_,by simp⟩
  rw [← gl_rev (Z:=Z) (g:=revG Z i) fun p hp=>?_]
  ·rfl
  ·unfold revG
   split
   ·rfl
   ·congr 1
    omega
end
section
section
def keysM (M : List Pr) : List Int:=M.map (·.1)
def wAdd (ok : Nat→Bool) (n : Int) : List Int→List Pr→List Pr
 | [],M=>M
 | k :: r,M=>wAdd ok n r (if (keysM M).contains k = false∧ok k.toNat = true then M ++ [(k,n)] else M)
def wSt : List Int→List Pr→List Pr
 | [],M=>M
 | k :: r,M=>wSt r (if (keysM M).contains k = false then M ++ [(k,-1)] else M)
def nodeM (M : List Pr) (h : Nat) : Int:=(M.getD h (0,0)).1
def wRun (g : List (List Int)) (to ok : Nat→Bool) : Nat→Nat→List Pr→Option (List Pr × Nat)
 | 0,_,_=>none
 | f + 1,h,M=>if h < M.length then (if to (nodeM M h).toNat = true then some (M,h) else wRun g to ok f (h + 1) (wAdd ok (nodeM M h) (g.getD (nodeM M h).toNat []) M)) else none
def upM (M : List Pr) (n : Int) : Int:=((M.find? fun p=>p.1 == n).map (·.2)).getD (-1)
def zeB (M : List Pr) : Nat→Int→List Int
 | 0,_=>[]
 | f + 1,n=>if n < 0 then [] else n :: zeB M f (upM M n)
def wayE (g : List (List Int)) (to ok : Nat→Bool) (from_ : List Int) : List Int :=
 match wRun g to ok (g.length + 1) 0 (wSt from_ []) with
 | some (M,h)=>(zeB M (M.length + 1) (nodeM M h)).reverse
 | none=>[]
structure WayI (g : List (List Int)) (ok : Nat→Bool) (from_ : List Int) (M : List Pr) : Prop where
 nd : (keysM M).Nodup
 rng : ∀ p∈M,0≤p.1∧p.1 < (g.length : Int)
 par : ∀ j,j < M.length→(M.getD j (0,0)).2 = -1∨∃ i,i < j∧(M.getD j (0,0)).2 = nodeM M i
 okF : ∀ p∈M,p.1∈from_∨ok p.1.toNat = true
theorem zdr (M : List Pr) : (keysM M).length = M.length:=by simp [keysM]
theorem zeH (M : List Pr) (p : Pr) : keysM (M ++ [p]) = keysM M ++ [p.1]:=by simp [keysM]
theorem zdL {M : List Pr} {p : Pr} {i : Nat} (h : i < M.length) : nodeM (M ++ [p]) i = nodeM M i:=by
 unfold nodeM
 rw [List.getD_eq_getElem?_getD,List.getElem?_append_left h,← List.getD_eq_getElem?_getD]
theorem WayI.len {g : List (List Int)} {ok : Nat→Bool} {from_ : List Int} {M : List Pr} (h : WayI g ok from_ M) : M.length≤g.length:=by
 rw [← zdr]
 have hnd:=h.nd
 refine zkT g.length (keysM M).length (fun i=>((keysM M).getD i 0).toNat) (fun i hi=>?_) fun i j hi hj he=>?_
 ·have hm : (keysM M).getD i 0∈keysM M:=by rw [List.getD_eq_getElem?_getD,List.getElem?_eq_getElem hi]; simp
  obtain ⟨p,hp,e⟩:=List.mem_map.1 hm
  have:=h.rng p hp
  rw [← e]; omega
 ·have hi' : (keysM M).getD i 0∈keysM M:=by rw [List.getD_eq_getElem?_getD,List.getElem?_eq_getElem hi]; simp
  have hj' : (keysM M).getD j 0∈keysM M:=by rw [List.getD_eq_getElem?_getD,List.getElem?_eq_getElem hj]; simp
  obtain ⟨p,hp,e1⟩:=List.mem_map.1 hi'
  obtain ⟨q,hq,e2⟩:=List.mem_map.1 hj'
  have a:=h.rng p hp
  have b:=h.rng q hq
  have hx : (keysM M).getD i 0 = (keysM M).getD j 0:=by rw [← e1,← e2] at he ⊢; omega
  rw [List.getD_eq_getElem?_getD,List.getD_eq_getElem?_getD,List.getElem?_eq_getElem hi,List.getElem?_eq_getElem hj] at hx
  simp only [Option.getD_some] at hx
  rcases Nat.lt_trichotomy i j with q | q | q
  ·exact absurd hx (List.pairwise_iff_getElem.1 hnd i j hi hj q)
  ·exact q
  ·exact absurd hx.symm (List.pairwise_iff_getElem.1 hnd j i hj hi q)
theorem WayI.push {g : List (List Int)} {ok : Nat→Bool} {from_ : List Int} {M : List Pr} (h : WayI g ok from_ M) {k n : Int} (hk : 0≤k∧k < (g.length : Int)) (hn : ¬ k∈keysM M) (hp : n = -1∨∃ i,i < M.length∧n = nodeM M i) (hf : k∈from_∨ok k.toNat = true) : WayI g ok from_ (M ++ [(k,n)]) where
 nd:=by
  rw [zeH,List.nodup_append]
  exact ⟨h.nd,by simp,fun a ha b hb=>by rw [List.mem_singleton] at hb; subst hb; exact fun e=>hn (e ▸ ha)⟩
 rng p hp:=by
  rcases List.mem_append.1 hp with q | q
  ·exact h.rng p q
  ·rw [List.mem_singleton] at q; subst q; exact hk
 par j hj:=by
  by_cases e : j < M.length
  ·rw [List.getD_eq_getElem?_getD,List.getElem?_append_left e,← List.getD_eq_getElem?_getD]
   rcases h.par j e with k1 | ⟨i,k1,k2⟩
   ·exact .inl k1
   ·exact .inr ⟨i,k1,by rw [k2,zdL (by omega)]⟩
  ·have ej : j = M.length:=by simp at hj; omega
   subst ej
   rw [List.getD_eq_getElem?_getD,List.getElem?_append_right (Nat.le_refl _),Nat.sub_self]
   show n = -1∨_
   rcases hp with k1 | ⟨i,k1,k2⟩
   ·exact .inl k1
   ·exact .inr ⟨i,k1,by show n = _; rw [k2,zdL k1]⟩
 okF p hp:=by
  rcases List.mem_append.1 hp with q | q
  ·exact h.okF p q
  ·rw [List.mem_singleton] at q; subst q; exact hf
theorem zby {l : List Int} {k : Int} (h : l.contains k = false) : ¬ k∈l:=fun q=>by rw [List.contains_iff_mem.2 q] at h; cases h
theorem zhd {l : List Int} {k : Int} (h : ¬ l.contains k = false) : k∈l:=List.contains_iff_mem.1 (by cases e : l.contains k <;> simp_all)
theorem znm {g : List (List Int)} {ok : Nat→Bool} {from_ : List Int} : ∀ (r : List Int) {M : List Pr},WayI g ok from_ M→(∀ x∈r,x∈from_∧0≤x∧x < (g.length : Int)) →
  WayI g ok from_ (wSt r M)∧(∀ x∈r,x∈keysM (wSt r M))∧∃ X,wSt r M = M ++ X
 | [],M,h,_=>⟨h,by simp,[],by simp [wSt]⟩
 | k :: r,M,h,hr=>by
  rw [wSt]
  by_cases q : (keysM M).contains k = false
  ·rw [if_pos q]
   obtain ⟨a,b,X,hX⟩:=znm r (h.push (hr k (by simp)).2 (zby q) (.inl rfl) (.inl (hr k (by simp)).1)) fun x hx=>hr x (by simp [hx])
   refine ⟨a,fun x hx=>?_,(k,-1) :: X,by rw [hX]; simp⟩
   rcases List.mem_cons.1 hx with rfl | hx
   ·rw [hX]; simp [keysM]
   ·exact b x hx
  ·rw [if_neg q]
   obtain ⟨a,b,X,hX⟩:=znm r h fun x hx=>hr x (by simp [hx])
   refine ⟨a,fun x hx=>?_,X,hX⟩
   rcases List.mem_cons.1 hx with rfl | hx
   ·have:=zhd q
    rw [hX]; unfold keysM at this ⊢; rw [List.map_append]; exact List.mem_append.2 (.inl this)
   ·exact b x hx
theorem zlL {g : List (List Int)} {ok : Nat→Bool} {from_ : List Int} {n : Int} {i0 : Nat} : ∀ (r : List Int) {M : List Pr},WayI g ok from_ M→i0 < M.length→n = nodeM M i0→(∀ x∈r,0≤x∧x < (g.length : Int)) →
  WayI g ok from_ (wAdd ok n r M)∧(∀ x∈r,ok x.toNat = true→x∈keysM (wAdd ok n r M))∧∃ X,wAdd ok n r M = M ++ X
 | [],M,h,_,_,_=>⟨h,by simp,[],by simp [wAdd]⟩
 | k :: r,M,h,hi,hn,hr=>by
  rw [wAdd]
  by_cases q : (keysM M).contains k = false∧ok k.toNat = true
  ·rw [if_pos q]
   obtain ⟨a,b,X,hX⟩:=zlL (n:=n) (i0:=i0) r (h.push (hr k (by simp)) (zby q.1) (.inr ⟨i0,hi,hn⟩) (.inr q.2)) (by rw [List.length_append]; omega) (by rw [zdL hi]; exact hn) fun x hx=>hr x (by simp [hx])
   refine ⟨a,fun x hx hx2=>?_,(k,n) :: X,by rw [hX]; simp⟩
   rcases List.mem_cons.1 hx with rfl | hx
   ·rw [hX]; simp [keysM]
   ·exact b x hx hx2
  ·rw [if_neg q]
   obtain ⟨a,b,X,hX⟩:=zlL (i0:=i0) r h hi hn fun x hx=>hr x (by simp [hx])
   refine ⟨a,fun x hx hx2=>?_,X,hX⟩
   rcases List.mem_cons.1 hx with rfl | hx
   ·have:=zhd fun z=>q ⟨z,hx2⟩
    rw [hX]; unfold keysM at this ⊢; rw [List.map_append]; exact List.mem_append.2 (.inl this)
   ·exact b x hx hx2
theorem WayI.none (g : List (List Int)) (ok : Nat→Bool) (from_ : List Int) : WayI g ok from_ [] where
 nd:=.nil
 rng p hp:=by cases hp
 par j hj:=by cases hj
 okF p hp:=by cases hp
theorem zoR {M : List Pr} (hnd : (keysM M).Nodup) {i : Nat} (hi : i < M.length) : M.find? (fun p=>p.1 == nodeM M i) = some (M.getD i (0,0)):=by
 have : M.getD i (0,0) = M[i]:=by rw [List.getD_eq_getElem?_getD,List.getElem?_eq_getElem hi]; rfl
 rw [this,List.find?_eq_some_iff_getElem]
 unfold nodeM
 rw [this]
 refine ⟨by simp,i,hi,rfl,fun j hj=>?_⟩
 have:=List.pairwise_iff_getElem.1 hnd j i (by simp [keysM]; omega) (by simp [keysM]; omega) hj
 simp only [keysM,List.getElem_map] at this
 simpa using this
theorem up_node {M : List Pr} (hnd : (keysM M).Nodup) {i : Nat} (hi : i < M.length) : upM M (nodeM M i) = (M.getD i (0,0)).2:=by
 unfold upM; rw [zoR hnd hi]; rfl
def atM (M : List Pr) (t : Nat) : Int:=if t = 0 then -1 else nodeM M (t - 1)
theorem WayI.up {g : List (List Int)} {ok : Nat→Bool} {from_ : List Int} {M : List Pr} (h : WayI g ok from_ M) {t : Nat} (ht : 0 < t) (hl : t≤M.length) : ∃ t',t' < t∧upM M (atM M t) = atM M t'∧(M.getD (t - 1) (0,0)).2 = atM M t'∧0≤atM M t∧atM M t < (g.length : Int):=by
 have e : atM M t = nodeM M (t - 1):=by unfold atM; rw [if_neg (by omega)]
 rw [e,up_node h.nd (by omega)]
 have hr:=h.rng _ (zbD (show t - 1 < M.length by omega))
 rcases h.par (t - 1) (by omega) with k | ⟨i,k1,k2⟩
 ·exact ⟨0,ht,by rw [k]; rfl,by rw [k]; rfl,hr⟩
 ·refine ⟨i + 1,by omega,?_,?_,hr⟩
  ·rw [k2]; unfold atM; rw [if_neg (by omega)]; rfl
  ·rw [k2]; unfold atM; rw [if_neg (by omega)]; rfl
theorem WayI.back {g : List (List Int)} {ok : Nat→Bool} {from_ : List Int} {M : List Pr} (h : WayI g ok from_ M) : ∀ (f t : Nat),t≤M.length→(∀ x∈zeB M f (atM M t),0≤x∧x < (g.length : Int))∧(zeB M f (atM M t)).length≤t
 | 0,t,_=>by simp [zeB]
 | f + 1,t,ht=>by
  rw [zeB]
  by_cases h0 : t = 0
  ·subst h0
   rw [if_pos (by simp [atM])]; simp
  ·obtain ⟨t',k1,k2,_,k3,k4⟩:=h.up (t:=t) (by omega) ht
   rw [if_neg (by omega),k2]
   obtain ⟨a,b⟩:=h.back f t' (by omega)
   refine ⟨fun x hx=>?_,by simp; omega⟩
   rcases List.mem_cons.1 hx with rfl | hx
   ·exact ⟨k3,k4⟩
   ·exact a x hx
def resO (g : List (List Int)) (ok : Nat→Bool) : List (List Int):=g.map fun l=>l.filter fun x=>ok x.toNat
theorem resO_mem {g : List (List Int)} {ok : Nat→Bool} {v : Nat} {x : Int} : x∈(resO g ok).getD v []↔x∈g.getD v []∧ok x.toNat = true:=by
 unfold resO
 rw [List.getD_eq_getElem?_getD,List.getD_eq_getElem?_getD,List.getElem?_map]
 cases g[v]? with
 | none=>simp
 | some l=>simp
theorem zoL {g : List (List Int)} (hin : ∀ l∈g,inB l g.length = true) {to ok : Nat→Bool} {from_ : List Int} : ∀ (f h : Nat) (M : List Pr),WayI g ok from_ M→h≤M.length→g.length + 1≤f + h→(∀ x∈from_,x∈keysM M)→(∀ i,i < h→to (nodeM M i).toNat = false∧∀ y∈g.getD (nodeM M i).toNat [],ok y.toNat = true→y∈keysM M) →
  match wRun g to ok f h M with
  | some (M',h')=>WayI g ok from_ M'∧h' < M'.length∧to (nodeM M' h').toNat = true
  | none=>∀ x∈from_,∀ v,To (resO g ok) x.toNat v→to v = false
 | 0,h,M,hI,hh,hf,_,_=>by have:=hI.len; omega
 | f + 1,h,M,hI,hh,hf,hst,hcl=>by
  rw [wRun]
  by_cases q : h < M.length
  ·rw [if_pos q]
   by_cases q2 : to (nodeM M h).toNat = true
   ·rw [if_pos q2]
    exact ⟨hI,q,q2⟩
   ·rw [if_neg q2]
    obtain ⟨a,b,X,hX⟩:=zlL (n:=nodeM M h) (g.getD (nodeM M h).toNat []) hI q rfl fun x hx=>zaN (zbL hin _) hx
    have hsub : ∀ x,x∈keysM M→x∈keysM (wAdd ok (nodeM M h) (g.getD (nodeM M h).toNat []) M):=fun x hx=>by
     rw [hX]; unfold keysM at hx ⊢; rw [List.map_append]; exact List.mem_append.2 (.inl hx)
    have hnode : ∀ i,i < M.length→nodeM (wAdd ok (nodeM M h) (g.getD (nodeM M h).toNat []) M) i = nodeM M i:=fun i hi=>by
     rw [hX]; unfold nodeM; rw [List.getD_eq_getElem?_getD,List.getElem?_append_left hi,← List.getD_eq_getElem?_getD]
    have hlen : M.length≤(wAdd ok (nodeM M h) (g.getD (nodeM M h).toNat []) M).length:=by rw [hX]; simp
    refine zoL hin f (h + 1) _ a (by omega) (by omega) (fun x hx=>hsub x (hst x hx)) fun i hi=>?_
    by_cases e : i = h
    ·subst e
     rw [hnode i q]
     exact ⟨by simpa using q2,b⟩
    ·rw [hnode i (by omega)]
     obtain ⟨c,d⟩:=hcl i (by omega)
     exact ⟨c,fun y hy hy2=>hsub y (d y hy hy2)⟩
  ·rw [if_neg q]
   intro x hx v hv
   have eh : h = M.length:=by omega
   subst eh
   have key : ((v : Nat) : Int)∈keysM M:=ze5 (g:=resO g ok) (s:=fun v=>((v : Nat) : Int)∈keysM M) (fun u hu y hy=>by
    obtain ⟨y1,y2⟩:=resO_mem.1 hy
    have hy0:=zaN (zbL hin u) y1
    obtain ⟨p,hp,ep⟩:=List.mem_map.1 hu
    obtain ⟨i,hi,rfl⟩:=List.mem_iff_getElem.1 hp
    have en : nodeM M i = (u : Int):=by unfold nodeM; rw [List.getD_eq_getElem?_getD,List.getElem?_eq_getElem hi]; exact ep
    have:=(hcl i hi).2 y (by rw [en]; exact y1) y2
    rwa [show ((y.toNat : Nat) : Int) = y by omega]) hv (by
    have h1:=hst x hx
    obtain ⟨p,hp,ep⟩:=List.mem_map.1 h1
    have:=hI.rng p hp
    have ep : p.1 = x:=ep
    rwa [show ((x.toNat : Nat) : Int) = x by omega])
   obtain ⟨p,hp,ep⟩:=List.mem_map.1 key
   obtain ⟨i,hi,rfl⟩:=List.mem_iff_getElem.1 hp
   have en : nodeM M i = (v : Int):=by unfold nodeM; rw [List.getD_eq_getElem?_getD,List.getElem?_eq_getElem hi]; exact ep
   have:=(hcl i hi).1
   rw [en] at this
   simpa using this
theorem zlu {g : List (List Int)} (hin : ∀ l∈g,inB l g.length = true) (to ok : Nat→Bool) {from_ : List Int} (hf : inB from_ g.length = true) : inB (wayE g to ok from_) g.length = true∧(wayE g to ok from_).length≤g.length ∧
  ((∃ x∈from_,∃ v,To (resO g ok) x.toNat v∧to v = true)→∃ init last,wayE g to ok from_ = init ++ [last]∧to last.toNat = true∧(last∈from_∨ok last.toNat = true)):=by
 obtain ⟨a,b,_⟩:=znm (ok:=ok) (from_:=from_) from_ (WayI.none g ok from_) fun x hx=>⟨hx,zaN hf hx⟩
 have hR:=zoL hin (to:=to) (ok:=ok) (g.length + 1) 0 (wSt from_ []) a (Nat.zero_le _) (by omega) b fun i hi=>by omega
 unfold wayE
 cases e : wRun g to ok (g.length + 1) 0 (wSt from_ []) with
 | none =>
  rw [e] at hR
  refine ⟨rfl,by simp,fun ⟨x,hx,v,h1,h2⟩=>?_⟩
  have:=hR x hx v h1
  rw [h2] at this; cases this
 | some q =>
  obtain ⟨M,h⟩:=q
  rw [e] at hR
  obtain ⟨hI,hh,ht⟩:=hR
  have en : nodeM M h = atM M (h + 1):=by unfold atM; rw [if_neg (by omega)]; rfl
  obtain ⟨c,d⟩:=hI.back (M.length + 1) (h + 1) (by omega)
  have hl:=hI.len
  dsimp only
  rw [en]
  refine ⟨zdP fun x hx=>c x (List.mem_reverse.1 hx),by rw [List.length_reverse]; omega,fun _=>?_⟩
  have hr:=hI.rng _ (zbD hh)
  rw [zeB,if_neg (by rw [← en]; unfold nodeM; omega),← en]
  exact ⟨_,_,by rw [List.reverse_cons],ht,hI.okF _ (zbD hh)⟩
end
section
open Go.RowKit
noncomputable def fIa (f : Value→Option Value) (M : List Pr) : Value→Option Value:=M.foldl (fun f p=>putF f (.int .i64 p.1) (.int .i64 p.2)) f
noncomputable def fI (M : List Pr) : Value→Option Value:=fIa (fun _=>none) M
theorem zgG (M : List Pr) (p : Pr) : fI (M ++ [p]) = putF (fI M) (.int .i64 p.1) (.int .i64 p.2):=by
 unfold fI fIa; rw [List.foldl_append]; rfl
theorem zhO {n : Int} : ∀ (M : List Pr) (f : Value→Option Value),¬ n∈keysM M→fIa f M (.int .i64 n) = f (.int .i64 n)
 | [],f,_=>rfl
 | p :: r,f,h=>by
  have h1 : p.1≠n:=fun e=>h (by simp [keysM,e])
  show fIa _ r _ = _
  rw [zhO r _ fun q=>h (by simp only [keysM,List.map_cons,List.mem_cons] at q ⊢; exact .inr q)]
  unfold putF
  dsimp only
  rw [if_neg fun e=>h1 (by injection e with _ e; exact e.symm)]
theorem zjj {n : Int} {M : List Pr} (h : ¬ n∈keysM M) : fI M (.int .i64 n) = none:=zhO M _ h
theorem fIa_at : ∀ (M : List Pr) (f : Value→Option Value),(keysM M).Nodup→∀ j,j < M.length→fIa f M (.int .i64 (nodeM M j)) = some (.int .i64 (M.getD j (0,0)).2)
 | [],_,_,j,hj=>by cases hj
 | p :: r,f,hnd,j,hj=>by
  have h1:=List.nodup_cons.1 (show (p.1 :: keysM r).Nodup from hnd)
  cases j with
  | zero =>
   show fIa _ r (.int .i64 p.1) = _
   rw [zhO r _ h1.1]
   unfold putF
   dsimp only
   rw [if_pos rfl]
   rfl
  | succ j =>
   show fIa _ r (.int .i64 (nodeM r j)) = _
   rw [fIa_at r _ h1.2 j (by simpa using hj)]
   rfl
theorem fI_at {M : List Pr} (hnd : (keysM M).Nodup) {j : Nat} (hj : j < M.length) : fI M (.int .i64 (nodeM M j)) = some (.int .i64 (M.getD j (0,0)).2):=fIa_at M _ hnd j hj
theorem zl3 {n : Int} {M : List Pr} (hnd : (keysM M).Nodup) (h : n∈keysM M) : ∃ v,fI M (.int .i64 n) = some v:=by
 obtain ⟨p,hp,rfl⟩:=List.mem_map.1 h
 obtain ⟨i,hi,rfl⟩:=List.mem_iff_getElem.1 hp
 have:=fI_at hnd hi
 rw [show nodeM M i = M[i].1 by unfold nodeM; rw [List.getD_eq_getElem?_getD,List.getElem?_eq_getElem hi]; rfl] at this
 exact ⟨_,this⟩
theorem keyedI {P : Program} {k : TypeId} {q : IntKind} (hu : P.underlying k = some (.int q)) : Maps.Keyed P k:=Maps.int_keyed hu
theorem zkp {P : Program} {k : TypeId} (hu : P.underlying k = some (.int .i64)) {n : Int} (hn : (Lit.int .i64 n).wf = true) : ∃ l,keyOf P k (.int .i64 n) = some l:=by
 unfold keyOf
 rw [hu]
 simp only [mapKey,hu]
 rw [if_pos ⟨trivial,hn⟩]
 exact ⟨_,rfl⟩
theorem ziw {n : Int} (h : 0≤n∧n≤1000000000000) : (Lit.int .i64 n).wf = true:=by
 have h1 : IntKind.min .i64 = -9223372036854775808:=by decide
 have h2 : IntKind.max .i64 = 9223372036854775807:=by decide
 simp only [Lit.wf,Bool.and_eq_true,decide_eq_true_eq]; omega
theorem zcF {ρ : Nat→Nat} (l : List Int) : zdo ρ (i64s l) = i64s l:=zbn _ (zas _ (fun _=>by simp [zao,Pure]) l)
noncomputable def okP (g : List (List Int)) (only : Int) : Nat→Bool:=fun k=>decide (only < 0) || partsG g k == only
def c44_1 : PC:=.seq (.ops [q 27 (.bin .lss (.tmp 26) (.tmp 25))] false) (.seq (.cond (.tmp 27) (.skip) (.exit 0)) (.seq (.block 1 (.seq (.ops [q 28 (.iaddr 1 (.tmp 24) (.tmp 26)),q 29 (.load1 (.tmp 28)),qm 14 29] false) (.seq (.ops [qm 31 11,qm 32 14,q 33 (.look 3 (.int .i64 0) (.tmp 31) (.tmp 32)),qm 30 33,q 34 (.ext 0 (.tmp 30)),q 35 (.ext 1 (.tmp 30)),qm 15 34,qm 16 35] false) (.seq (.ops [qm 36 16,q 37 (.un .not (.tmp 36))] false) (.cond (.tmp 37) (.seq (.ops [qm 38 11,qm 39 14,qn (.mput 3 (.tmp 38) (.tmp 39) (.const (.int .i64 (-1))))] false) (.ops [qm 40 12,qm 41 14,q 42 (.bslice 1 1 [(.tmp 41)]),q 43 (.append 1 8 (.tmp 40) (.tmp 42)),qm 12 43] false)) (.skip)))))) (.ops [q 44 (.bin .add (.tmp 26) (.const (.int .i64 1))),qm 26 44] false)))
def c44_3 : PC:=.seq (.seq (.ops [qm 56 17,q 57 (.bin .geq (.tmp 56) (.const (.int .i64 0)))] false) (.cond (.tmp 57) (.skip) (.exit 4))) (.seq (.block 5 (.ops [qm 61 18,qm 62 17,q 63 (.bslice 1 1 [(.tmp 62)]),q 64 (.append 1 8 (.tmp 61) (.tmp 63)),qm 18 64] false)) (.ops [qm 58 11,qm 59 17,q 60 (.lookv 3 (.tmp 58) (.tmp 59)),qm 17 60] false))
def c44_4 : PC:=.seq (.ops [q 77 (.bin .lss (.tmp 76) (.tmp 75))] false) (.seq (.cond (.tmp 77) (.skip) (.exit 6)) (.seq (.block 7 (.seq (.ops [q 78 (.iaddr 1 (.tmp 74) (.tmp 76)),q 79 (.load1 (.tmp 78)),qm 20 79] false) (.seq (.ops [qm 81 11,qm 82 20,q 83 (.look 3 (.int .i64 0) (.tmp 81) (.tmp 82)),qm 80 83,q 84 (.ext 0 (.tmp 80)),q 85 (.ext 1 (.tmp 80)),qm 21 84,qm 22 85] false) (.seq (.ops [qm 86 22,q 87 (.un .not (.tmp 86)),qm 88 87,⟨some 89,.move (.tmp 4),some (88,true),0⟩,⟨some 90,.bin .lss (.tmp 89) (.const (.int .i64 0)),some (88,true),0⟩,⟨some 91,.move (.tmp 90),some (88,true),0⟩,⟨some 92,.move (.tmp 3),some (91,false),0⟩,⟨some 93,.move (.tmp 20),some (91,false),0⟩,⟨some 94,.iaddr 1 (.tmp 92) (.tmp 93),some (91,false),0⟩,⟨some 95,.load1 (.tmp 94),some (91,false),0⟩,⟨some 96,.move (.tmp 4),some (91,false),0⟩,⟨some 97,.bin .eql (.tmp 95) (.tmp 96),some (91,false),0⟩,⟨some 98,.pick (.tmp 91) (.const (.bool true)) (.tmp 97),some (88,true),0⟩,q 99 (.pick (.tmp 88) (.tmp 98) (.const (.bool false)))] false) (.cond (.tmp 99) (.seq (.ops [qm 100 11,qm 101 20,qm 102 17,qn (.mput 3 (.tmp 100) (.tmp 101) (.tmp 102))] false) (.ops [qm 103 12,qm 104 20,q 105 (.bslice 1 1 [(.tmp 104)]),q 106 (.append 1 8 (.tmp 103) (.tmp 105)),qm 12 106] false)) (.skip)))))) (.ops [q 107 (.bin .add (.tmp 76) (.const (.int .i64 1))),qm 76 107] false)))
def c44_2 : PC:=.seq (.seq (.ops [qm 45 12,q 46 (.len (.tmp 45)),q 47 (.bin .gtr (.tmp 46) (.const (.int .i64 0)))] false) (.cond (.tmp 47) (.skip) (.exit 2))) (.block 3 (.seq (.ops [qm 48 12,q 49 (.iaddr 1 (.tmp 48) (.const (.int .i64 0))),q 50 (.load1 (.tmp 49)),qm 17 50] false) (.seq (.ops [qm 51 12,q 52 (.slc 1 (.tmp 51) (some (.const (.int .i64 1))) none none),qm 12 52] false) (.seq (.seq (.ops [qm 53 2,qm 54 17,q 55 (.callv (.tmp 53) [(.tmp 54)])] false) (.cond (.tmp 55) (.seq (.ops [q 18 (.move (.const (.slice none 0 0)))] false) (.seq (.block 4 (.loop c44_3)) (.seq (.ops [qm 65 18,q 66 (.call 78 [(.tmp 65)])] false) (.seq (.ops [qm 67 18,qm 10 67] false) (.ret))))) (.skip))) (.seq (.ops [qm 68 0,q 69 (.nilchk (.tmp 68)),q 70 (.faddr 11 (.tmp 69)),q 71 (.load1 (.tmp 70)),qm 72 17,q 73 (.iaddr 1 (.tmp 71) (.tmp 72)),q 74 (.load1 (.tmp 73)),q 75 (.len (.tmp 74)),q 76 (.move (.const (.int .i64 0)))] false) (.block 6 (.loop c44_4)))))))
def c44 : PC:=.seq (.ops [q 10 (.move (.const (.slice none 0 0)))] false) (.seq (.ops [q 23 (.mkmap 3),qm 11 23] false) (.seq (.ops [q 12 (.move (.const (.slice none 0 0)))] false) (.seq (.seq (.ops [qm 24 1,q 25 (.len (.tmp 24)),q 26 (.move (.const (.int .i64 0)))] false) (.block 0 (.loop c44_1))) (.seq (.block 2 (.loop c44_2)) (.seq (.ops [q 10 (.move (.const (.slice none 0 0)))] false) (.ret))))))
theorem c44_ok : FunOK Tryz.prog 44 108 [.tmp 10] c44:=⟨⟨Tryz.f44,Tryz.func44,rfl,by kernel_rfl,rfl,by kernel_rfl⟩⟩
theorem em_way (W : WorldD) (A : AutoD) (L : List Pr) (g : List (List Int)) (fr : List Int) (hn : g.length≤2000000) (hin0 : ∀ l∈g,inB l g.length = true) (hF : FitsG g) (to : Nat→Bool) (cl : FuncId) (caps : List D) (hcp : zao caps)
  (hcl : ∀ x : Int,0≤x→x < (g.length : Int)→PCall Tryz.prog cl (.sc (.int .i64 x) :: caps) (.sc (.bool (to x.toNat)))) (from_ : List Int) (hfl : from_.length≤17592186043904) (hf : inB from_ g.length = true) (only : Int) :
  PCall Tryz.prog 44 [.ipt (sdat W A L g fr),zaD from_,.fn (.func cl) [] caps,zaD (zdp g),.sc (.int .i64 only)] (zaD (wayE g to (okP g only) from_)):=by
 have hp:=zdm W A L g fr
 have hkd:=keyedI (P:=Tryz.prog) Tryz.underlying3
 have hkey:=fun x (h : 0≤x∧x < (g.length : Int))=>zkp (P:=Tryz.prog) Tryz.underlying3 (n:=x) (ziw ⟨h.1,by omega⟩)
 refine zag c44_ok (by simp) (by simp [zao,Pure,zam,hp,hcp]) ?_ (zam _)
 have hWE : wayE g to (okP g only) from_ = match wRun g to (okP g only) (g.length + 1) 0 (wSt from_ []) with | some (M,h)=>(zeB M (M.length + 1) (nodeM M h)).reverse | none=>[]:=rfl
 obtain ⟨sd,hsd⟩ : ∃ sd : D,sd = .ipt (sdat W A L g fr):=⟨_,rfl⟩
 have hsl : zao [sd]:=by subst hsd; exact ⟨zd1 hp,trivial⟩
 rw [← hsd]
 (apply zac; focus (repeat' constructor))
 ((conv=>whnf);repeat(refine⟨rfl,?_⟩;conv=>whnf))
 rw [List.length_map]
 refine zaA (zcu 12 1 (by simp) rfl) ?_
 refine zaz [0,2,3,4,11,24,25] (fun ((k,M) : Nat × List Pr)=>[(12,.own 1 M.length 0 M.length),(26,.sc (.int .i64 k))]) (fun (k,M)=>[.mapo true (zew Tryz.prog 3 (fI M)),.vec true M.length 1 (i64s (keysM M))])
  (fun (k,M)=>k≤from_.length∧WayI g (okP g only) from_ M∧wSt (from_.drop k) M = wSt from_ []) (fun (k,M)=>from_.length - k) (0,[]) ?_
 ((conv=>whnf);repeat(refine⟨rfl,?_⟩;conv=>whnf))
 refine ⟨⟨by omega,WayI.none _ _ _,rfl⟩,by (repeat' (first | exact trivial | refine And.intro rfl ?_)),rfl,?_⟩
 rintro ⟨k,M⟩ ⟨hk,hI,hS⟩
 have hMl:=hI.len
 have hKl:=zdr M
 ((conv=>whnf);repeat(refine⟨rfl,?_⟩;conv=>whnf))
 (apply zac; focus (repeat' constructor))
 ((conv=>whnf);repeat(refine⟨rfl,?_⟩;conv=>whnf))
 (refine zab (fun q0=>?_) (fun q0=>?_) <;> (rw [q0]; ((conv=>whnf);repeat(refine⟨rfl,?_⟩;conv=>whnf))))
 ·have q0 : k < from_.length:=by ((try simp only[oo,reduceCtorEq]at*)<;>omega)
  have hx:=zaN hf (zaM q0)
  have hxm:=zaM q0
  refine ⟨by omega,_,zaW (l:=from_) (k:=k) (by omega) q0,?_⟩
  ((conv=>whnf);repeat(refine⟨rfl,?_⟩;conv=>whnf))
  rw [zdf q0,wSt] at hS
  generalize from_.getD k 0 = x at *
  refine ⟨fI M,rfl,hkd,hkey x hx,fun v hv=>?_,fun hv=>?_⟩
  ·have hc : ¬ (keysM M).contains x = false:=fun e=>by
    have:=(zjj (zby e)).symm.trans hv
    cases this
   rw [if_neg hc] at hS
   ((conv=>whnf);repeat(refine⟨rfl,?_⟩;conv=>whnf))
   (refine .inl ⟨by (unfold InR; rw [IntKind.wrap_i64]; omega),?_⟩; ((conv=>whnf);repeat(refine⟨rfl,?_⟩;conv=>whnf)))
   refine ⟨(k + 1,M),⟨by omega,hI,hS⟩,by dsimp only; omega,?_⟩
   exact zan (by (repeat' (first | exact trivial | refine And.intro rfl ?_))) rfl
  ·have hc : (keysM M).contains x = false:=by
    cases e : (keysM M).contains x
    ·rfl
    ·obtain ⟨v,h⟩:=zl3 hI.nd (List.contains_iff_mem.1 e)
     have:=hv.symm.trans h
     cases this
   rw [if_pos hc] at hS
   have hI2:=hI.push hx (zby hc) (.inl rfl) (.inl hxm)
   ((conv=>whnf);repeat(refine⟨rfl,?_⟩;conv=>whnf))
   refine ⟨fI M,rfl,hkd,hkey x hx,hv,?_⟩
   ((conv=>whnf);repeat(refine⟨rfl,?_⟩;conv=>whnf))
   refine ⟨(by unfold zaj; simp only [ll]; omega),?_⟩
   ((conv=>whnf);repeat(refine⟨rfl,?_⟩;conv=>whnf))
   (refine .inl ⟨by (unfold InR; rw [IntKind.wrap_i64]; omega),?_⟩; ((conv=>whnf);repeat(refine⟨rfl,?_⟩;conv=>whnf)))
   refine ⟨(k + 1,M ++ [(x,-1)]),⟨by omega,hI2,hS⟩,by dsimp only; omega,?_⟩
   dsimp only
   rw [zgG,show (M ++ [(x,(-1 : Int))]).length = M.length + 1 by simp]
   (refine zal 2 (by simp) rfl ?_ ?_ <;> (repeat' (first | exact trivial | exact rfl | exact DeepM.refl _ | exact DeepML.refl _ | exact DeepMLL.refl _ | refine And.intro ?_ ?_ | (simp [zai,zae,zak,-List.map_take,-List.map_drop]; done))))
   all_goals first | exact zaf _ hsl.1 | exact zad _ hcp | exact zad _ hcp | exact zah (by rw [zeH,← zaR,zdr]) | skip
 have q0 : k = from_.length:=by have : ¬ k < from_.length:=by ((try simp only[oo,reduceCtorEq]at*)<;>omega)
                                omega
 subst q0
 rw [List.drop_length] at hS
 have hS : M = wSt from_ []:=hS
 rw [← hS] at hWE
 generalize hRes : wRun g to (okP g only) (g.length + 1) 0 M = R at hWE
 refine zaz [0,2,3,4,11] (fun ((h,M,Z,lo,hi,ver) : Nat × List Pr × List Int × Nat × Nat × Nat)=>[(12,.own 1 ver lo hi)]) (fun (h,M,Z,lo,hi,ver)=>[.mapo true (zew Tryz.prog 3 (fI M)),.vec true ver 1 (i64s Z)])
  (fun (h,M,Z,lo,hi,ver)=>WayI g (okP g only) from_ M∧h≤M.length∧lo≤hi∧hi≤Z.length∧(Z.take hi).drop lo = (keysM M).drop h∧wRun g to (okP g only) (g.length + 1 - h) h M = R) (fun (h,M,Z,lo,hi,ver)=>g.length + 1 - h) (0,M,keysM M,0,M.length,M.length) ?_
 ((conv=>whnf);repeat(refine⟨rfl,?_⟩;conv=>whnf))
 refine ⟨⟨hI,by omega,by omega,by omega,by rw [List.take_of_length_le (by omega)],hRes⟩,by (repeat' (first | exact trivial | refine And.intro rfl ?_)),rfl,?_⟩
 rintro ⟨h,M,Z,lo,hi,ver⟩ ⟨hI,hh,hlo,hhi,hZ,hR⟩
 have hMl:=hI.len
 have hKl:=zdr M
 have hZl : hi - lo = M.length - h:=by
  have:=congrArg List.length hZ
  rw [List.length_drop,List.length_drop,List.length_take] at this
  omega
 rw [show g.length + 1 - h = (g.length - h) + 1 by omega,wRun] at hR
 ((conv=>whnf);repeat(refine⟨rfl,?_⟩;conv=>whnf))
 (apply zac; focus (repeat' constructor))
 ((conv=>whnf);repeat(refine⟨rfl,?_⟩;conv=>whnf))
 (refine zab (fun q1=>?_) (fun q1=>?_) <;> (rw [q1]; ((conv=>whnf);repeat(refine⟨rfl,?_⟩;conv=>whnf))))
 ·have q1 : lo < hi:=by ((try simp only[oo,reduceCtorEq]at*)<;>omega)
  have hhM : h < M.length:=by omega
  rw [if_pos hhM] at hR
  have hx:=hI.rng _ (zbD hhM)
  have eN : (M.getD h (0,0)).1 = nodeM M h:=rfl
  rw [eN] at hx
  have hd : (keysM M).drop h = nodeM M h :: (keysM M).drop (h + 1):=by
   rw [List.drop_eq_getElem_cons (by omega)]
   unfold nodeM keysM
   rw [List.getElem_map,List.getD_eq_getElem?_getD,List.getElem?_eq_getElem hhM]
   rfl
  rw [headQ q1 hhi,hd] at hZ
  obtain ⟨hz1,hz2⟩:=List.cons.inj hZ
  (refine ⟨by omega,(by first | omega | (simp; done) | (simp; omega) | (simp only [ll]; omega)),?_⟩; ((conv=>whnf);repeat(refine⟨rfl,?_⟩;conv=>whnf)))
  refine ⟨_,zaW (l:=Z) (k:=lo) (by omega) (by omega),?_⟩
  ((conv=>whnf);repeat(refine⟨rfl,?_⟩;conv=>whnf))
  rw [hz1]
  refine ⟨by omega,by omega,by omega,?_⟩
  ((conv=>whnf);repeat(refine⟨rfl,?_⟩;conv=>whnf))
  rw [show lo + (hi - lo) = hi by omega]
  have hcx:=hcl (nodeM M h) hx.1 hx.2
  have en1 : nodeM M h = atM M (h + 1):=by unfold atM; rw [if_neg (by omega)]; rfl
  generalize hxe : nodeM M h = x at *
  (refine .inl ⟨_,hcx,?_⟩; ((conv=>whnf);repeat(refine⟨rfl,?_⟩;conv=>whnf)))
  cases hto : to x.toNat
  ·rw [hto,if_neg (by decide)] at hR
   ((conv=>whnf);repeat(refine⟨rfl,?_⟩;conv=>whnf))
   subst hsd
   unfold sdat zbe
   ((conv=>whnf);repeat(refine⟨rfl,?_⟩;conv=>whnf))
   refine ⟨by omega,_,zbx (g:=g) (k:=x.toNat) (by omega) (by omega),?_⟩
   ((conv=>whnf);repeat(refine⟨rfl,?_⟩;conv=>whnf))
   rw [List.length_map]
   have hrow:=fun y hy=>zaN (zbL hin0 x.toNat) (x:=y) hy
   have hrl:=hF.at x.toNat
   generalize g.getD x.toNat [] = row at *
   refine zaz [0,2,3,4,11,17,74,75] (fun ((k,M',Z',lo',hi',ver') : Nat × List Pr × List Int × Nat × Nat × Nat)=>[(12,.own 1 ver' lo' hi'),(76,.sc (.int .i64 k))]) (fun (k,M',Z',lo',hi',ver')=>[.mapo true (zew Tryz.prog 3 (fI M')),.vec true ver' 1 (i64s Z')])
    (fun (k,M',Z',lo',hi',ver')=>k≤row.length∧WayI g (okP g only) from_ M'∧h < M'.length∧nodeM M' h = x∧lo'≤hi'∧hi'≤Z'.length∧(Z'.take hi').drop lo' = (keysM M').drop (h + 1)∧wAdd (okP g only) x (row.drop k) M' = wAdd (okP g only) x row M) (fun (k,M',Z',lo',hi',ver')=>row.length - k) (0,M,Z,lo + 1,hi,ver) ?_
   ((conv=>whnf);repeat(refine⟨rfl,?_⟩;conv=>whnf))
   refine ⟨⟨by omega,hI,hhM,hxe,by omega,hhi,hz2,rfl⟩,by (repeat' (first | exact trivial | refine And.intro rfl ?_)),rfl,?_⟩
   rintro ⟨k,M',Z',lo',hi',ver'⟩ ⟨hk,hI',hhM',hx',hlo',hhi',hZ',hA'⟩
   have hMl':=hI'.len
   have hKl':=zdr M'
   have hZl' : hi' - lo' = M'.length - (h + 1):=by
    have:=congrArg List.length hZ'
    rw [List.length_drop,List.length_drop,List.length_take] at this
    omega
   ((conv=>whnf);repeat(refine⟨rfl,?_⟩;conv=>whnf))
   (apply zac; focus (repeat' constructor))
   ((conv=>whnf);repeat(refine⟨rfl,?_⟩;conv=>whnf))
   (refine zab (fun q2=>?_) (fun q2=>?_) <;> (rw [q2]; ((conv=>whnf);repeat(refine⟨rfl,?_⟩;conv=>whnf))))
   ·have q2 : k < row.length:=by ((try simp only[oo,reduceCtorEq]at*)<;>omega)
    have hy:=hrow _ (zaM q2)
    refine ⟨by omega,_,zaW (l:=row) (k:=k) (by omega) q2,?_⟩
    ((conv=>whnf);repeat(refine⟨rfl,?_⟩;conv=>whnf))
    rw [zdf q2,wAdd] at hA'
    generalize row.getD k 0 = y at *
    refine ⟨fI M',rfl,hkd,hkey y hy,fun v hv=>?_,fun hv=>?_⟩
    ·have hc : ¬ (keysM M').contains y = false:=fun e=>by
      have:=(zjj (zby e)).symm.trans hv
      cases this
     rw [if_neg fun q=>hc q.1] at hA'
     ((conv=>whnf);repeat(refine⟨rfl,?_⟩;conv=>whnf))
     (refine .inl ⟨by (unfold InR; rw [IntKind.wrap_i64]; omega),?_⟩; ((conv=>whnf);repeat(refine⟨rfl,?_⟩;conv=>whnf)))
     refine ⟨(k + 1,M',Z',lo',hi',ver'),⟨by omega,hI',hhM',hx',hlo',hhi',hZ',hA'⟩,by dsimp only; omega,?_⟩
     exact zan (by (repeat' (first | exact trivial | refine And.intro rfl ?_))) rfl
    ·have hc : (keysM M').contains y = false:=by
      cases e : (keysM M').contains y
      ·rfl
      ·obtain ⟨v,h⟩:=zl3 hI'.nd (List.contains_iff_mem.1 e)
       have:=hv.symm.trans h
       cases this
     have eok : okP g only y.toNat = (decide (only < 0) || partsG g y.toNat == only):=rfl
     ((conv=>whnf);repeat(refine⟨rfl,?_⟩;conv=>whnf))
     (refine zab (fun r=>?_) (fun r=>?_) <;> (rw [r]; ((conv=>whnf);repeat(refine⟨rfl,?_⟩;conv=>whnf))))
     ·rw [r,Bool.true_or] at eok
      rw [if_pos ⟨hc,eok⟩] at hA'
      have hI2:=hI'.push hy (zby hc) (.inr ⟨h,hhM',hx'.symm⟩) (.inr eok)
      refine ⟨fI M',rfl,hkd,hkey y hy,hv,?_⟩
      ((conv=>whnf);repeat(refine⟨rfl,?_⟩;conv=>whnf))
      refine ⟨(by unfold zaj; simp only [ll]; omega),?_⟩
      ((conv=>whnf);repeat(refine⟨rfl,?_⟩;conv=>whnf))
      (refine .inl ⟨by (unfold InR; rw [IntKind.wrap_i64]; omega),?_⟩; ((conv=>whnf);repeat(refine⟨rfl,?_⟩;conv=>whnf)))
      refine ⟨(k + 1,M' ++ [(y,x)],(Z'.take hi').drop lo' ++ [y],0,hi' - lo' + 1,ver' + 1),⟨by omega,hI2,by simp; omega,by rw [zdL hhM']; exact hx',by omega,by simp; omega,?_,hA'⟩,by dsimp only; omega,?_⟩
      ·rw [List.drop_zero,List.take_of_length_le (by simp; omega),hZ',zeH,List.drop_append_of_le_length (by omega)]
      ·dsimp only
       rw [zgG]
       (refine zal 2 (by simp) rfl ?_ ?_ <;> (repeat' (first | exact trivial | exact rfl | exact DeepM.refl _ | exact DeepML.refl _ | exact DeepMLL.refl _ | refine And.intro ?_ ?_ | (simp [zai,zae,zak,-List.map_take,-List.map_drop]; done))))
       all_goals first | exact zah zdF | exact zad _ hp | exact zad _ hcp | (simp; done) | skip
     ·refine ⟨by omega,_,za5 y.toNat (by omega) (by omega),?_⟩
      ((conv=>whnf);repeat(refine⟨rfl,?_⟩;conv=>whnf))
      rw [r,Bool.false_or] at eok
      (refine zab (fun r2=>?_) (fun r2=>?_) <;> (rw [r2]; ((conv=>whnf);repeat(refine⟨rfl,?_⟩;conv=>whnf))))
      ·have r2 : (partsG g y.toNat == only) = true:=r2
       rw [r2] at eok
       rw [if_pos ⟨hc,eok⟩] at hA'
       have hI2:=hI'.push hy (zby hc) (.inr ⟨h,hhM',hx'.symm⟩) (.inr eok)
       refine ⟨fI M',rfl,hkd,hkey y hy,hv,?_⟩
       ((conv=>whnf);repeat(refine⟨rfl,?_⟩;conv=>whnf))
       refine ⟨(by unfold zaj; simp only [ll]; omega),?_⟩
       ((conv=>whnf);repeat(refine⟨rfl,?_⟩;conv=>whnf))
       (refine .inl ⟨by (unfold InR; rw [IntKind.wrap_i64]; omega),?_⟩; ((conv=>whnf);repeat(refine⟨rfl,?_⟩;conv=>whnf)))
       refine ⟨(k + 1,M' ++ [(y,x)],(Z'.take hi').drop lo' ++ [y],0,hi' - lo' + 1,ver' + 1),⟨by omega,hI2,by simp; omega,by rw [zdL hhM']; exact hx',by omega,by simp; omega,?_,hA'⟩,by dsimp only; omega,?_⟩
       ·rw [List.drop_zero,List.take_of_length_le (by simp; omega),hZ',zeH,List.drop_append_of_le_length (by omega)]
       ·dsimp only
        rw [zgG]
        (refine zal 2 (by simp) rfl ?_ ?_ <;> (repeat' (first | exact trivial | exact rfl | exact DeepM.refl _ | exact DeepML.refl _ | exact DeepMLL.refl _ | refine And.intro ?_ ?_ | (simp [zai,zae,zak,-List.map_take,-List.map_drop]; done))))
        all_goals first | exact zah zdF | exact zad _ hp | exact zad _ hcp | (simp; done) | skip
      ·have r2 : (partsG g y.toNat == only) = false:=r2
       rw [r2] at eok
       rw [if_neg fun q=>by rw [eok] at q; cases q.2] at hA'
       (refine .inl ⟨by (unfold InR; rw [IntKind.wrap_i64]; omega),?_⟩; ((conv=>whnf);repeat(refine⟨rfl,?_⟩;conv=>whnf)))
       refine ⟨(k + 1,M',Z',lo',hi',ver'),⟨by omega,hI',hhM',hx',hlo',hhi',hZ',hA'⟩,by dsimp only; omega,?_⟩
       exact zan (by (repeat' (first | exact trivial | refine And.intro rfl ?_))) rfl
   ·have q2 : k = row.length:=by have : ¬ k < row.length:=by ((try simp only[oo,reduceCtorEq]at*)<;>omega)
                                 omega
    subst q2
    rw [List.drop_length] at hA'
    have hA' : M' = wAdd (okP g only) x row M:=hA'
    rw [← hA'] at hR
    refine ⟨(h + 1,M',Z',lo',hi',ver'),⟨hI',by omega,hlo',hhi',hZ',by rw [show g.length + 1 - (h + 1) = g.length - h by omega]; exact hR⟩,by dsimp only; omega,?_⟩
    exact zan (by (repeat' (first | exact trivial | refine And.intro rfl ?_))) rfl
  ·rw [hto,if_pos rfl] at hR
   subst hR
   ((conv=>whnf);repeat(refine⟨rfl,?_⟩;conv=>whnf))
   generalize hB0 : zeB M (M.length + 1) x = B
   refine zaA (zcu 18 1 (by simp) rfl) ?_
   refine zaz [11] (fun ((f,t,o) : Nat × Nat × List Int)=>[(17,.sc (.int .i64 (atM M t))),(18,.own 2 o.length 0 o.length)]) (fun (f,t,o)=>[.mapo true (zew Tryz.prog 3 (fI M)),.vec true ver 1 (i64s Z),.vec true o.length 1 (i64s o)])
    (fun (f,t,o)=>t≤f∧t≤M.length∧o.length + t≤M.length + 1∧o ++ zeB M f (atM M t) = B) (fun (f,t,o)=>t) (M.length + 1,h + 1,[]) ?_
   ((conv=>whnf);repeat(refine⟨rfl,?_⟩;conv=>whnf))
   refine ⟨⟨by omega,by omega,by simp; omega,by rw [← en1]; exact hB0⟩,⟨by show D.sc (.int .i64 x) = _; rw [en1],by (repeat' (first | exact trivial | refine And.intro rfl ?_))⟩,rfl,?_⟩
   rintro ⟨f,t,o⟩ ⟨hf1,ht,ho,hB⟩
   ((conv=>whnf);repeat(refine⟨rfl,?_⟩;conv=>whnf))
   (apply zac; focus (repeat' constructor))
   ((conv=>whnf);repeat(refine⟨rfl,?_⟩;conv=>whnf))
   (refine zab (fun q2=>?_) (fun q2=>?_) <;> (rw [q2]; ((conv=>whnf);repeat(refine⟨rfl,?_⟩;conv=>whnf))))
   ·have t0 : 0 < t:=by
     rcases Nat.eq_zero_or_pos t with e | e
     ·subst e; simp [atM] at q2
     ·exact e
    obtain ⟨t',k1,k2,k3,k4,k5⟩:=hI.up t0 ht
    have eA : atM M t = nodeM M (t - 1):=by unfold atM; rw [if_neg (by omega)]
    obtain ⟨f',rfl⟩ : ∃ f',f = f' + 1:=⟨f - 1,by omega⟩
    rw [zeB,if_neg (by omega),k2] at hB
    have hlook : fI M (.int .i64 (atM M t)) = some (.int .i64 (atM M t')):=by rw [eA,fI_at hI.nd (by omega),k3]
    refine ⟨(by unfold zaj; simp only [ll]; omega),?_⟩
    ((conv=>whnf);repeat(refine⟨rfl,?_⟩;conv=>whnf))
    refine ⟨fI M,rfl,hkd,hkey _ ⟨k4,k5⟩,_,hlook,?_⟩
    ((conv=>whnf);repeat(refine⟨rfl,?_⟩;conv=>whnf))
    refine ⟨(f',t',o ++ [atM M t]),⟨by omega,by omega,by simp; omega,by rw [List.append_assoc]; exact hB⟩,by dsimp only; omega,?_⟩
    dsimp only
    rw [show (o ++ [atM M t]).length = o.length + 1 by simp]
    (refine zal 3 (by simp) rfl ?_ ?_ <;> (repeat' (first | exact trivial | exact rfl | exact DeepM.refl _ | exact DeepML.refl _ | exact DeepMLL.refl _ | refine And.intro ?_ ?_ | (simp [zai,zae,zak,-List.map_take,-List.map_drop]; done))))
    all_goals first | exact zah (zaR o _) | skip
   ·have t0 : t = 0:=by
     rcases Nat.eq_zero_or_pos t with e | e
     ·exact e
     ·obtain ⟨t',k1,k2,k3,k4,k5⟩:=hI.up e ht
      exfalso; simp at q2; omega
    subst t0
    have hB : o = B:=by
     rw [← hB]
     cases f <;> simp [zeB,atM]
    subst hB
    (refine .inr (.inr (.inl ⟨rfl,_,_,(zcj (zif o (by omega) o.length) [.mapo true (zew Tryz.prog 3 (fI M)),.vec true ver 1 (i64s Z)] [] rfl (by simp [zae,zai]) (by simp [zbg,AObj.under]) (by simp only [renL,D.ren]; rfl) rfl (by simp only [List.map_cons,List.map_nil,AObj.ren,zcF]; rfl) (by simp only [List.map_cons,List.map_nil,AObj.ren,zcF]; rfl)),?_⟩)); ((conv=>whnf);repeat(refine⟨rfl,?_⟩;conv=>whnf)))
    have hEE : wayE g to (okP g only) from_ = o.reverse:=by
     rw [hWE]
     show (zeB M (M.length + 1) (nodeM M h)).reverse = _
     rw [hxe,hB0]
    rw [hEE]
    exact .own _ _ _ _ _ _ _ _ rfl (by rw [List.drop_zero,List.take_of_length_le (by simp [i64s])]; exact zaq _)
 ·have h0 : hi = lo:=by ((try simp only[oo,reduceCtorEq]at*)<;>omega)
  have hhM : ¬ h < M.length:=by omega
  rw [if_neg hhM] at hR
  subst hR
  rw [hWE]
  (repeat' (first | exact Deep.refl _ | exact Deep.none _ | exact zaF _ | exact DeepL.nil | exact DeepLL.nil | refine Deep.agg _ _ ?_ | refine Deep.tup _ _ ?_ | refine Deep.own _ _ _ _ _ _ _ _ rfl ?_ | refine Deep.loc _ _ _ _ _ rfl ?_ | refine Deep.ifc _ _ _ ?_ | refine Deep.fn _ _ _ _ _ ?_ ?_ | refine DeepL.cons _ _ _ _ ?_ ?_ | refine DeepLL.cons _ _ _ _ ?_ ?_ | exact zaq _))
theorem em_wayO (W : WorldD) (A : AutoD) (L : List Pr) (g : List (List Int)) (fr : List Int) (hn : g.length≤2000000) (hin0 : ∀ l∈g,inB l g.length = true) (hF : FitsG g) (to : Nat→Bool) (cl : FuncId)
  (hcl : ∀ x : Int,0≤x→x < (g.length : Int)→PCall Tryz.prog cl [.sc (.int .i64 x),.ipt [dbl g.length to]] (.sc (.bool (to x.toNat)))) (Z0 : List Int) (v0 : Nat) (hz0 : 0 < Z0.length) (hz1 : Z0.length≤1000000000000) (from_ : List Int) (hfr : from_ = [Z0.getD (Z0.length - 1) 0]) (hf : inB from_ g.length = true) (only : Int) :
  ACall Tryz.prog 44 [.ipt (sdat W A L g fr),.own 0 v0 (Z0.length - 1) Z0.length,.fn (.func cl) [] [.loc 1 0],zaD (zdp g),.sc (.int .i64 only)] [.vec true v0 1 (i64s Z0),.row true [dbl g.length to]] (zaD (wayE g to (okP g only) from_)) [.vec true v0 1 (i64s Z0),.row true [dbl g.length to]]:=by
 have hp:=zdm W A L g fr
 have hfl : from_.length≤17592186043904:=by rw [hfr]; simp
 have hkd:=keyedI (P:=Tryz.prog) Tryz.underlying3
 have hkey:=fun x (h : 0≤x∧x < (g.length : Int))=>zkp (P:=Tryz.prog) Tryz.underlying3 (n:=x) (ziw ⟨h.1,by omega⟩)
 have hUO : ∀ o∈[AObj.vec true v0 1 (i64s Z0),AObj.row true [dbl g.length to]],o.under 2:=by
  intro o ho
  simp only [List.mem_cons,List.not_mem_nil,or_false] at ho
  rcases ho with rfl | rfl
  ·exact zaa _ (zas _ (fun _=>by simp [zao,Pure]) _)
  ·exact zad _ ⟨zbM _ _,trivial⟩
 refine zcm c44_ok (by simp) (by simp) ?_ (zaf _ (zam _))
 have hWE : wayE g to (okP g only) from_ = match wRun g to (okP g only) (g.length + 1) 0 (wSt from_ []) with | some (M,h)=>(zeB M (M.length + 1) (nodeM M h)).reverse | none=>[]:=rfl
 obtain ⟨sd,hsd⟩ : ∃ sd : D,sd = .ipt (sdat W A L g fr):=⟨_,rfl⟩
 have hsl : zao [sd]:=by subst hsd; exact ⟨zd1 hp,trivial⟩
 rw [← hsd]
 (apply zac; focus (repeat' constructor))
 ((conv=>whnf);repeat(refine⟨rfl,?_⟩;conv=>whnf))
 rw [show Z0.length - (Z0.length - 1) = from_.length by rw [hfr]; simp; omega]
 refine zaA (zcu 12 1 (by simp) rfl) ?_
 refine zaz [0,2,3,4,11,24,25] (fun ((k,M) : Nat × List Pr)=>[(12,.own 3 M.length 0 M.length),(26,.sc (.int .i64 k))]) (fun (k,M)=>[.vec true v0 1 (i64s Z0),.row true [dbl g.length to],.mapo true (zew Tryz.prog 3 (fI M)),.vec true M.length 1 (i64s (keysM M))])
  (fun (k,M)=>k≤from_.length∧WayI g (okP g only) from_ M∧wSt (from_.drop k) M = wSt from_ []) (fun (k,M)=>from_.length - k) (0,[]) ?_
 ((conv=>whnf);repeat(refine⟨rfl,?_⟩;conv=>whnf))
 refine ⟨⟨by omega,WayI.none _ _ _,rfl⟩,by (repeat' (first | exact trivial | refine And.intro rfl ?_)),rfl,?_⟩
 rintro ⟨k,M⟩ ⟨hk,hI,hS⟩
 have hMl:=hI.len
 have hKl:=zdr M
 ((conv=>whnf);repeat(refine⟨rfl,?_⟩;conv=>whnf))
 (apply zac; focus (repeat' constructor))
 ((conv=>whnf);repeat(refine⟨rfl,?_⟩;conv=>whnf))
 (refine zab (fun q0=>?_) (fun q0=>?_) <;> (rw [q0]; ((conv=>whnf);repeat(refine⟨rfl,?_⟩;conv=>whnf))))
 ·have q0 : k < from_.length:=by ((try simp only[oo,reduceCtorEq]at*)<;>omega)
  have hx:=zaN hf (zaM q0)
  have hxm:=zaM q0
  have hk0 : k = 0:=by
   have h1 : from_.length = 1:=by rw [hfr]; rfl
   omega
  (refine ⟨by omega,(by first | omega | (simp; done) | (simp; omega) | (simp only [ll]; omega)),?_⟩; ((conv=>whnf);repeat(refine⟨rfl,?_⟩;conv=>whnf)))
  refine ⟨_,zaW (l:=Z0) (k:=Z0.length - 1) (by omega) (by omega),?_⟩
  ((conv=>whnf);repeat(refine⟨rfl,?_⟩;conv=>whnf))
  rw [show Z0.getD (Z0.length - 1) 0 = from_.getD k 0 by rw [hfr,hk0]; rfl]
  rw [zdf q0,wSt] at hS
  generalize from_.getD k 0 = x at *
  refine ⟨fI M,rfl,hkd,hkey x hx,fun v hv=>?_,fun hv=>?_⟩
  ·have hc : ¬ (keysM M).contains x = false:=fun e=>by
    have:=(zjj (zby e)).symm.trans hv
    cases this
   rw [if_neg hc] at hS
   ((conv=>whnf);repeat(refine⟨rfl,?_⟩;conv=>whnf))
   (refine .inl ⟨by (unfold InR; rw [IntKind.wrap_i64]; omega),?_⟩; ((conv=>whnf);repeat(refine⟨rfl,?_⟩;conv=>whnf)))
   refine ⟨(k + 1,M),⟨by omega,hI,hS⟩,by dsimp only; omega,?_⟩
   exact zan (by (repeat' (first | exact trivial | refine And.intro rfl ?_))) rfl
  ·have hc : (keysM M).contains x = false:=by
    cases e : (keysM M).contains x
    ·rfl
    ·obtain ⟨v,h⟩:=zl3 hI.nd (List.contains_iff_mem.1 e)
     have:=hv.symm.trans h
     cases this
   rw [if_pos hc] at hS
   have hI2:=hI.push hx (zby hc) (.inl rfl) (.inl hxm)
   ((conv=>whnf);repeat(refine⟨rfl,?_⟩;conv=>whnf))
   refine ⟨fI M,rfl,hkd,hkey x hx,hv,?_⟩
   ((conv=>whnf);repeat(refine⟨rfl,?_⟩;conv=>whnf))
   refine ⟨(by unfold zaj; simp only [ll]; omega),?_⟩
   ((conv=>whnf);repeat(refine⟨rfl,?_⟩;conv=>whnf))
   (refine .inl ⟨by (unfold InR; rw [IntKind.wrap_i64]; omega),?_⟩; ((conv=>whnf);repeat(refine⟨rfl,?_⟩;conv=>whnf)))
   refine ⟨(k + 1,M ++ [(x,-1)]),⟨by omega,hI2,hS⟩,by dsimp only; omega,?_⟩
   dsimp only
   rw [zgG,show (M ++ [(x,(-1 : Int))]).length = M.length + 1 by simp]
   (refine zal 4 (by simp) rfl ?_ ?_ <;> (repeat' (first | exact trivial | exact rfl | exact DeepM.refl _ | exact DeepML.refl _ | exact DeepMLL.refl _ | refine And.intro ?_ ?_ | (simp [zai,zae,zak,-List.map_take,-List.map_drop]; done))))
   all_goals first | exact zaf _ hsl.1 | (simp; done) | (simp; done) | exact zah (by rw [zeH,← zaR,zdr]) | skip
 have q0 : k = from_.length:=by have : ¬ k < from_.length:=by ((try simp only[oo,reduceCtorEq]at*)<;>omega)
                                omega
 subst q0
 rw [List.drop_length] at hS
 have hS : M = wSt from_ []:=hS
 rw [← hS] at hWE
 generalize hRes : wRun g to (okP g only) (g.length + 1) 0 M = R at hWE
 refine zaz [0,2,3,4,11] (fun ((h,M,Z,lo,hi,ver) : Nat × List Pr × List Int × Nat × Nat × Nat)=>[(12,.own 3 ver lo hi)]) (fun (h,M,Z,lo,hi,ver)=>[.vec true v0 1 (i64s Z0),.row true [dbl g.length to],.mapo true (zew Tryz.prog 3 (fI M)),.vec true ver 1 (i64s Z)])
  (fun (h,M,Z,lo,hi,ver)=>WayI g (okP g only) from_ M∧h≤M.length∧lo≤hi∧hi≤Z.length∧(Z.take hi).drop lo = (keysM M).drop h∧wRun g to (okP g only) (g.length + 1 - h) h M = R) (fun (h,M,Z,lo,hi,ver)=>g.length + 1 - h) (0,M,keysM M,0,M.length,M.length) ?_
 ((conv=>whnf);repeat(refine⟨rfl,?_⟩;conv=>whnf))
 refine ⟨⟨hI,by omega,by omega,by omega,by rw [List.take_of_length_le (by omega)],hRes⟩,by (repeat' (first | exact trivial | refine And.intro rfl ?_)),rfl,?_⟩
 rintro ⟨h,M,Z,lo,hi,ver⟩ ⟨hI,hh,hlo,hhi,hZ,hR⟩
 have hMl:=hI.len
 have hKl:=zdr M
 have hZl : hi - lo = M.length - h:=by
  have:=congrArg List.length hZ
  rw [List.length_drop,List.length_drop,List.length_take] at this
  omega
 rw [show g.length + 1 - h = (g.length - h) + 1 by omega,wRun] at hR
 ((conv=>whnf);repeat(refine⟨rfl,?_⟩;conv=>whnf))
 (apply zac; focus (repeat' constructor))
 ((conv=>whnf);repeat(refine⟨rfl,?_⟩;conv=>whnf))
 (refine zab (fun q1=>?_) (fun q1=>?_) <;> (rw [q1]; ((conv=>whnf);repeat(refine⟨rfl,?_⟩;conv=>whnf))))
 ·have q1 : lo < hi:=by ((try simp only[oo,reduceCtorEq]at*)<;>omega)
  have hhM : h < M.length:=by omega
  rw [if_pos hhM] at hR
  have hx:=hI.rng _ (zbD hhM)
  have eN : (M.getD h (0,0)).1 = nodeM M h:=rfl
  rw [eN] at hx
  have hd : (keysM M).drop h = nodeM M h :: (keysM M).drop (h + 1):=by
   rw [List.drop_eq_getElem_cons (by omega)]
   unfold nodeM keysM
   rw [List.getElem_map,List.getD_eq_getElem?_getD,List.getElem?_eq_getElem hhM]
   rfl
  rw [headQ q1 hhi,hd] at hZ
  obtain ⟨hz1,hz2⟩:=List.cons.inj hZ
  (refine ⟨by omega,(by first | omega | (simp; done) | (simp; omega) | (simp only [ll]; omega)),?_⟩; ((conv=>whnf);repeat(refine⟨rfl,?_⟩;conv=>whnf)))
  refine ⟨_,zaW (l:=Z) (k:=lo) (by omega) (by omega),?_⟩
  ((conv=>whnf);repeat(refine⟨rfl,?_⟩;conv=>whnf))
  rw [hz1]
  refine ⟨by omega,by omega,by omega,?_⟩
  ((conv=>whnf);repeat(refine⟨rfl,?_⟩;conv=>whnf))
  rw [show lo + (hi - lo) = hi by omega]
  have hcx:=hcl (nodeM M h) hx.1 hx.2
  have en1 : nodeM M h = atM M (h + 1):=by unfold atM; rw [if_neg (by omega)]; rfl
  generalize hxe : nodeM M h = x at *
  (refine .inr (.inl ⟨_,_,(by (repeat' (first | exact Deep.refl _ | exact Deep.none _ | exact zaF _ | exact DeepL.nil | exact DeepLL.nil | refine Deep.agg _ _ ?_ | refine Deep.tup _ _ ?_ | refine Deep.own _ _ _ _ _ _ _ _ rfl ?_ | refine Deep.loc _ _ _ _ _ rfl ?_ | refine Deep.ifc _ _ _ ?_ | refine Deep.fn _ _ _ _ _ ?_ ?_ | refine DeepL.cons _ _ _ _ ?_ ?_ | refine DeepLL.cons _ _ _ _ ?_ ?_ | exact zaq _))),hcx,rfl,?_⟩); ((conv=>whnf);repeat(refine⟨rfl,?_⟩;conv=>whnf)))
  cases hto : to x.toNat
  ·rw [hto,if_neg (by decide)] at hR
   ((conv=>whnf);repeat(refine⟨rfl,?_⟩;conv=>whnf))
   subst hsd
   unfold sdat zbe
   ((conv=>whnf);repeat(refine⟨rfl,?_⟩;conv=>whnf))
   refine ⟨by omega,_,zbx (g:=g) (k:=x.toNat) (by omega) (by omega),?_⟩
   ((conv=>whnf);repeat(refine⟨rfl,?_⟩;conv=>whnf))
   rw [List.length_map]
   have hrow:=fun y hy=>zaN (zbL hin0 x.toNat) (x:=y) hy
   have hrl:=hF.at x.toNat
   generalize g.getD x.toNat [] = row at *
   refine zaz [0,2,3,4,11,17,74,75] (fun ((k,M',Z',lo',hi',ver') : Nat × List Pr × List Int × Nat × Nat × Nat)=>[(12,.own 3 ver' lo' hi'),(76,.sc (.int .i64 k))]) (fun (k,M',Z',lo',hi',ver')=>[.vec true v0 1 (i64s Z0),.row true [dbl g.length to],.mapo true (zew Tryz.prog 3 (fI M')),.vec true ver' 1 (i64s Z')])
    (fun (k,M',Z',lo',hi',ver')=>k≤row.length∧WayI g (okP g only) from_ M'∧h < M'.length∧nodeM M' h = x∧lo'≤hi'∧hi'≤Z'.length∧(Z'.take hi').drop lo' = (keysM M').drop (h + 1)∧wAdd (okP g only) x (row.drop k) M' = wAdd (okP g only) x row M) (fun (k,M',Z',lo',hi',ver')=>row.length - k) (0,M,Z,lo + 1,hi,ver) ?_
   ((conv=>whnf);repeat(refine⟨rfl,?_⟩;conv=>whnf))
   refine ⟨⟨by omega,hI,hhM,hxe,by omega,hhi,hz2,rfl⟩,by (repeat' (first | exact trivial | refine And.intro rfl ?_)),rfl,?_⟩
   rintro ⟨k,M',Z',lo',hi',ver'⟩ ⟨hk,hI',hhM',hx',hlo',hhi',hZ',hA'⟩
   have hMl':=hI'.len
   have hKl':=zdr M'
   have hZl' : hi' - lo' = M'.length - (h + 1):=by
    have:=congrArg List.length hZ'
    rw [List.length_drop,List.length_drop,List.length_take] at this
    omega
   ((conv=>whnf);repeat(refine⟨rfl,?_⟩;conv=>whnf))
   (apply zac; focus (repeat' constructor))
   ((conv=>whnf);repeat(refine⟨rfl,?_⟩;conv=>whnf))
   (refine zab (fun q2=>?_) (fun q2=>?_) <;> (rw [q2]; ((conv=>whnf);repeat(refine⟨rfl,?_⟩;conv=>whnf))))
   ·have q2 : k < row.length:=by ((try simp only[oo,reduceCtorEq]at*)<;>omega)
    have hy:=hrow _ (zaM q2)
    refine ⟨by omega,_,zaW (l:=row) (k:=k) (by omega) q2,?_⟩
    ((conv=>whnf);repeat(refine⟨rfl,?_⟩;conv=>whnf))
    rw [zdf q2,wAdd] at hA'
    generalize row.getD k 0 = y at *
    refine ⟨fI M',rfl,hkd,hkey y hy,fun v hv=>?_,fun hv=>?_⟩
    ·have hc : ¬ (keysM M').contains y = false:=fun e=>by
      have:=(zjj (zby e)).symm.trans hv
      cases this
     rw [if_neg fun q=>hc q.1] at hA'
     ((conv=>whnf);repeat(refine⟨rfl,?_⟩;conv=>whnf))
     (refine .inl ⟨by (unfold InR; rw [IntKind.wrap_i64]; omega),?_⟩; ((conv=>whnf);repeat(refine⟨rfl,?_⟩;conv=>whnf)))
     refine ⟨(k + 1,M',Z',lo',hi',ver'),⟨by omega,hI',hhM',hx',hlo',hhi',hZ',hA'⟩,by dsimp only; omega,?_⟩
     exact zan (by (repeat' (first | exact trivial | refine And.intro rfl ?_))) rfl
    ·have hc : (keysM M').contains y = false:=by
      cases e : (keysM M').contains y
      ·rfl
      ·obtain ⟨v,h⟩:=zl3 hI'.nd (List.contains_iff_mem.1 e)
       have:=hv.symm.trans h
       cases this
     have eok : okP g only y.toNat = (decide (only < 0) || partsG g y.toNat == only):=rfl
     ((conv=>whnf);repeat(refine⟨rfl,?_⟩;conv=>whnf))
     (refine zab (fun r=>?_) (fun r=>?_) <;> (rw [r]; ((conv=>whnf);repeat(refine⟨rfl,?_⟩;conv=>whnf))))
     ·rw [r,Bool.true_or] at eok
      rw [if_pos ⟨hc,eok⟩] at hA'
      have hI2:=hI'.push hy (zby hc) (.inr ⟨h,hhM',hx'.symm⟩) (.inr eok)
      refine ⟨fI M',rfl,hkd,hkey y hy,hv,?_⟩
      ((conv=>whnf);repeat(refine⟨rfl,?_⟩;conv=>whnf))
      refine ⟨(by unfold zaj; simp only [ll]; omega),?_⟩
      ((conv=>whnf);repeat(refine⟨rfl,?_⟩;conv=>whnf))
      (refine .inl ⟨by (unfold InR; rw [IntKind.wrap_i64]; omega),?_⟩; ((conv=>whnf);repeat(refine⟨rfl,?_⟩;conv=>whnf)))
      refine ⟨(k + 1,M' ++ [(y,x)],(Z'.take hi').drop lo' ++ [y],0,hi' - lo' + 1,ver' + 1),⟨by omega,hI2,by simp; omega,by rw [zdL hhM']; exact hx',by omega,by simp; omega,?_,hA'⟩,by dsimp only; omega,?_⟩
      ·rw [List.drop_zero,List.take_of_length_le (by simp; omega),hZ',zeH,List.drop_append_of_le_length (by omega)]
      ·dsimp only
       rw [zgG]
       (refine zal 4 (by simp) rfl ?_ ?_ <;> (repeat' (first | exact trivial | exact rfl | exact DeepM.refl _ | exact DeepML.refl _ | exact DeepMLL.refl _ | refine And.intro ?_ ?_ | (simp [zai,zae,zak,-List.map_take,-List.map_drop]; done))))
       all_goals first | exact zah zdF | exact zad _ hp | exact zad _ hcp | (simp; done) | skip
     ·refine ⟨by omega,_,za5 y.toNat (by omega) (by omega),?_⟩
      ((conv=>whnf);repeat(refine⟨rfl,?_⟩;conv=>whnf))
      rw [r,Bool.false_or] at eok
      (refine zab (fun r2=>?_) (fun r2=>?_) <;> (rw [r2]; ((conv=>whnf);repeat(refine⟨rfl,?_⟩;conv=>whnf))))
      ·have r2 : (partsG g y.toNat == only) = true:=r2
       rw [r2] at eok
       rw [if_pos ⟨hc,eok⟩] at hA'
       have hI2:=hI'.push hy (zby hc) (.inr ⟨h,hhM',hx'.symm⟩) (.inr eok)
       refine ⟨fI M',rfl,hkd,hkey y hy,hv,?_⟩
       ((conv=>whnf);repeat(refine⟨rfl,?_⟩;conv=>whnf))
       refine ⟨(by unfold zaj; simp only [ll]; omega),?_⟩
       ((conv=>whnf);repeat(refine⟨rfl,?_⟩;conv=>whnf))
       (refine .inl ⟨by (unfold InR; rw [IntKind.wrap_i64]; omega),?_⟩; ((conv=>whnf);repeat(refine⟨rfl,?_⟩;conv=>whnf)))
       refine ⟨(k + 1,M' ++ [(y,x)],(Z'.take hi').drop lo' ++ [y],0,hi' - lo' + 1,ver' + 1),⟨by omega,hI2,by simp; omega,by rw [zdL hhM']; exact hx',by omega,by simp; omega,?_,hA'⟩,by dsimp only; omega,?_⟩
       ·rw [List.drop_zero,List.take_of_length_le (by simp; omega),hZ',zeH,List.drop_append_of_le_length (by omega)]
       ·dsimp only
        rw [zgG]
        (refine zal 4 (by simp) rfl ?_ ?_ <;> (repeat' (first | exact trivial | exact rfl | exact DeepM.refl _ | exact DeepML.refl _ | exact DeepMLL.refl _ | refine And.intro ?_ ?_ | (simp [zai,zae,zak,-List.map_take,-List.map_drop]; done))))
        all_goals first | exact zah zdF | exact zad _ hp | exact zad _ hcp | (simp; done) | skip
      ·have r2 : (partsG g y.toNat == only) = false:=r2
       rw [r2] at eok
       rw [if_neg fun q=>by rw [eok] at q; cases q.2] at hA'
       (refine .inl ⟨by (unfold InR; rw [IntKind.wrap_i64]; omega),?_⟩; ((conv=>whnf);repeat(refine⟨rfl,?_⟩;conv=>whnf)))
       refine ⟨(k + 1,M',Z',lo',hi',ver'),⟨by omega,hI',hhM',hx',hlo',hhi',hZ',hA'⟩,by dsimp only; omega,?_⟩
       exact zan (by (repeat' (first | exact trivial | refine And.intro rfl ?_))) rfl
   ·have q2 : k = row.length:=by have : ¬ k < row.length:=by ((try simp only[oo,reduceCtorEq]at*)<;>omega)
                                 omega
    subst q2
    rw [List.drop_length] at hA'
    have hA' : M' = wAdd (okP g only) x row M:=hA'
    rw [← hA'] at hR
    refine ⟨(h + 1,M',Z',lo',hi',ver'),⟨hI',by omega,hlo',hhi',hZ',by rw [show g.length + 1 - (h + 1) = g.length - h by omega]; exact hR⟩,by dsimp only; omega,?_⟩
    exact zan (by (repeat' (first | exact trivial | refine And.intro rfl ?_))) rfl
  ·rw [hto,if_pos rfl] at hR
   subst hR
   ((conv=>whnf);repeat(refine⟨rfl,?_⟩;conv=>whnf))
   generalize hB0 : zeB M (M.length + 1) x = B
   refine zaA (zcu 18 1 (by simp) rfl) ?_
   refine zaz [11] (fun ((f,t,o) : Nat × Nat × List Int)=>[(17,.sc (.int .i64 (atM M t))),(18,.own 4 o.length 0 o.length)]) (fun (f,t,o)=>[.vec true v0 1 (i64s Z0),.row true [dbl g.length to],.mapo true (zew Tryz.prog 3 (fI M)),.vec true ver 1 (i64s Z),.vec true o.length 1 (i64s o)])
    (fun (f,t,o)=>t≤f∧t≤M.length∧o.length + t≤M.length + 1∧o ++ zeB M f (atM M t) = B) (fun (f,t,o)=>t) (M.length + 1,h + 1,[]) ?_
   ((conv=>whnf);repeat(refine⟨rfl,?_⟩;conv=>whnf))
   refine ⟨⟨by omega,by omega,by simp; omega,by rw [← en1]; exact hB0⟩,⟨by show D.sc (.int .i64 x) = _; rw [en1],by (repeat' (first | exact trivial | refine And.intro rfl ?_))⟩,rfl,?_⟩
   rintro ⟨f,t,o⟩ ⟨hf1,ht,ho,hB⟩
   ((conv=>whnf);repeat(refine⟨rfl,?_⟩;conv=>whnf))
   (apply zac; focus (repeat' constructor))
   ((conv=>whnf);repeat(refine⟨rfl,?_⟩;conv=>whnf))
   (refine zab (fun q2=>?_) (fun q2=>?_) <;> (rw [q2]; ((conv=>whnf);repeat(refine⟨rfl,?_⟩;conv=>whnf))))
   ·have t0 : 0 < t:=by
     rcases Nat.eq_zero_or_pos t with e | e
     ·subst e; simp [atM] at q2
     ·exact e
    obtain ⟨t',k1,k2,k3,k4,k5⟩:=hI.up t0 ht
    have eA : atM M t = nodeM M (t - 1):=by unfold atM; rw [if_neg (by omega)]
    obtain ⟨f',rfl⟩ : ∃ f',f = f' + 1:=⟨f - 1,by omega⟩
    rw [zeB,if_neg (by omega),k2] at hB
    have hlook : fI M (.int .i64 (atM M t)) = some (.int .i64 (atM M t')):=by rw [eA,fI_at hI.nd (by omega),k3]
    refine ⟨(by unfold zaj; simp only [ll]; omega),?_⟩
    ((conv=>whnf);repeat(refine⟨rfl,?_⟩;conv=>whnf))
    refine ⟨fI M,rfl,hkd,hkey _ ⟨k4,k5⟩,_,hlook,?_⟩
    ((conv=>whnf);repeat(refine⟨rfl,?_⟩;conv=>whnf))
    refine ⟨(f',t',o ++ [atM M t]),⟨by omega,by omega,by simp; omega,by rw [List.append_assoc]; exact hB⟩,by dsimp only; omega,?_⟩
    dsimp only
    rw [show (o ++ [atM M t]).length = o.length + 1 by simp]
    (refine zal 5 (by simp) rfl ?_ ?_ <;> (repeat' (first | exact trivial | exact rfl | exact DeepM.refl _ | exact DeepML.refl _ | exact DeepMLL.refl _ | refine And.intro ?_ ?_ | (simp [zai,zae,zak,-List.map_take,-List.map_drop]; done))))
    all_goals first | exact zah (zaR o _) | skip
   ·have t0 : t = 0:=by
     rcases Nat.eq_zero_or_pos t with e | e
     ·exact e
     ·obtain ⟨t',k1,k2,k3,k4,k5⟩:=hI.up e ht
      exfalso; simp at q2; omega
    subst t0
    have hB : o = B:=by
     rw [← hB]
     cases f <;> simp [zeB,atM]
    subst hB
    (refine .inr (.inr (.inl ⟨rfl,_,_,(zcj (zif o (by omega) o.length) [.vec true v0 1 (i64s Z0),.row true [dbl g.length to],.mapo true (zew Tryz.prog 3 (fI M)),.vec true ver 1 (i64s Z)] [] rfl (by simp [zae,zai]) (by simp [zbg,AObj.under]) (by simp only [renL,D.ren]; rfl) rfl (by simp only [List.map_cons,List.map_nil,AObj.ren,zcF]; rfl) (by simp only [List.map_cons,List.map_nil,AObj.ren,zcF]; rfl)),?_⟩)); ((conv=>whnf);repeat(refine⟨rfl,?_⟩;conv=>whnf)))
    have hEE : wayE g to (okP g only) from_ = o.reverse:=by
     rw [hWE]
     show (zeB M (M.length + 1) (nodeM M h)).reverse = _
     rw [hxe,hB0]
    rw [hEE]
    exact ⟨.own _ _ _ _ _ _ _ _ rfl rfl (zah (by rw [List.drop_zero,List.take_of_length_le (by simp [i64s])]; rfl)),zaK _ [_,_,_] hUO⟩
 ·have h0 : hi = lo:=by ((try simp only[oo,reduceCtorEq]at*)<;>omega)
  have hhM : ¬ h < M.length:=by omega
  rw [if_neg hhM] at hR
  subst hR
  rw [hWE]
  exact ⟨.none _,zaK _ [_,_] hUO⟩
end
section
open Go.RowKit
def lastE (l : List Int) : Int:=l.getD (l.length - 1) 0
theorem zko (l : List Int) (x : Int) : lastE (l ++ [x]) = x:=by
 unfold lastE
 rw [List.length_append,List.length_singleton,Nat.add_sub_cancel,List.getD_eq_getElem?_getD,List.getElem?_append_right (Nat.le_refl _),Nat.sub_self]
 rfl
theorem zkc {l : List Int} (h : l≠[]) : lastE l∈l:=by
 have:=List.length_pos_iff.2 h
 unfold lastE
 rw [List.getD_eq_getElem?_getD,List.getElem?_eq_getElem (by omega)]
 simp
noncomputable def rndO (g : List (List Int)) (F : List (Nat→Bool)) (e : Nat) : Nat→List Int
 | 0=>[(e : Int)]
 | k + 1=>if (rndO g F e k).any (fun x=>(F.getD k noT) x.toNat) = true then rndO g F e k else rndO g F e k ++ (wayE g (F.getD k noT) (okP g (partsG g e)) [lastE (rndO g F e k)]).drop 1
def toE (e : Nat) : Nat→Bool:=fun k=>((k : Nat) : Int) == (e : Int)
noncomputable def zhi (g : List (List Int)) (o : List Int) (e : Nat) (k : Nat) : List Int:=((g.getD (lastE o).toNat []).take k).filter fun x=>partsG g x.toNat == partsG g e
noncomputable def ziv (g : List (List Int)) (o : List Int) (e : Nat) : List Int:=wayE g (toE e) (okP g (partsG g e)) (zhi g o e (g.getD (lastE o).toNat []).length)
noncomputable def rndE (g : List (List Int)) (F : List (Nat→Bool)) (e : Nat) : List Int :=
 rndO g F e F.length ++ (ziv g (rndO g F e F.length) e).take ((ziv g (rndO g F e F.length) e).length - 1)
structure RH (g : List (List Int)) (F : List (Nat→Bool)) (e : Nat) : Prop where
 he : e < g.length
 hin : ∀ l∈g,inB l g.length = true
 nt : Nontriv g e
 has : ∀ S∈F,∃ d,d < g.length∧S d = true∧partsG g d = partsG g e
theorem zpn {g : List (List Int)} {e v : Nat} (he : e < g.length) : okP g (partsG g e) v = true↔partsG g v = partsG g e:=by
 have:=(zgx he).1
 unfold okP
 rw [decide_eq_false (show ¬ partsG g e < 0 by omega),Bool.false_or,beq_iff_eq]
theorem zj3 {g : List (List Int)} (hin : ∀ l∈g,inB l g.length = true) (v : Nat) (x : Int) (hx : x∈g.getD v []) : 0≤x∧x.toNat < g.length:=by
 have:=zaN (zbL hin v) hx; omega
theorem to_lt2 {g : List (List Int)} (hin : ∀ l∈g,inB l g.length = true) {u v : Nat} (hu : u < g.length) (h : To g u v) : v < g.length:=to_lt (fun v x hx=>(zj3 hin v x hx).2) hu h
theorem znH {g : List (List Int)} (hin : ∀ l∈g,inB l g.length = true) {e a b : Nat} (he : e < g.length) (ha : a < g.length) (hb : b < g.length) (h1 : partsG g a = partsG g e) (h2 : partsG g b = partsG g e) : To (resO g (okP g (partsG g e))) a b:=by
 obtain ⟨m1,m2⟩:=mutB_iff.1 ((zdq ha hb).1 (h1.trans h2.symm))
 have key : ∀ v,To g a v→To g v a→To (resO g (okP g (partsG g e))) a v:=by
  intro v hv
  induction hv with
  | base m=>intro _; exact .base m
  | step k hx ih =>
   rename_i u x
   intro hba
   have hu:=ih (zbq (zcL hx) hba)
   refine .step hu (resO_mem.2 ⟨hx,(zpn he).2 ?_⟩)
   have hul:=to_lt2 hin ha k
   have hxl:=(zj3 hin u x hx).2
   rw [(zdq hxl ha).2 (mutB_iff.2 ⟨hba,.step k hx⟩),h1]
 exact key b m1 m2
structure RndOk (g : List (List Int)) (e : Nat) (o : List Int) : Prop where
 ne : o≠[]
 rng : inB o g.length = true
 last : partsG g (lastE o).toNat = partsG g e
theorem RndOk.lt {g : List (List Int)} {e : Nat} {o : List Int} (h : RndOk g e o) : 0≤lastE o∧lastE o < (g.length : Int):=zaN h.rng (zkc h.ne)
theorem ziM {l m : List Int} {n : Nat} (h : inB l n = true) (k : inB m n = true) : inB (l ++ m) n = true:=zdP fun x hx=>(List.mem_append.1 hx).elim (zaN h) (zaN k)
theorem RndOk.way {g : List (List Int)} {F : List (Nat→Bool)} {e : Nat} {o : List Int} (H : RH g F e) (h : RndOk g e o) {S : Nat→Bool} (hS : S∈F) :
  RndOk g e (o ++ (wayE g S (okP g (partsG g e)) [lastE o]).drop 1)∧(wayE g S (okP g (partsG g e)) [lastE o])≠[]∧(wayE g S (okP g (partsG g e)) [lastE o]).length≤g.length:=by
 have hl:=h.lt
 obtain ⟨w1,w2,w3⟩:=zlu H.hin S (okP g (partsG g e)) (from_:=[lastE o]) (zdP fun x hx=>by rw [List.mem_singleton] at hx; subst hx; exact hl)
 obtain ⟨d,d1,d2,d3⟩:=H.has S hS
 obtain ⟨init,last,e1,e2,e3⟩:=w3 ⟨lastE o,by simp,d,znH H.hin H.he (by omega) d1 h.last d3,d2⟩
 refine ⟨⟨by simp [h.ne],ziM h.rng (zdP fun x hx=>zaN w1 (List.mem_of_mem_drop hx)),?_⟩,by rw [e1]; simp,w2⟩
 cases init with
 | nil=>rw [e1]; simp [h.last]
 | cons a r =>
  rw [e1,List.cons_append,List.drop_succ_cons,List.drop_zero,← List.append_assoc,zko]
  rcases e3 with q | q
  ·rw [List.mem_singleton] at q; rw [q]; exact h.last
  ·exact (zpn H.he).1 q
theorem zoY {g : List (List Int)} {F : List (Nat→Bool)} {e : Nat} (H : RH g F e) : ∀ k,k≤F.length→RndOk g e (rndO g F e k)∧(rndO g F e k).length≤1 + k * g.length
 | 0,_=>by
  have:=H.he
  exact ⟨⟨by simp [rndO],zdP fun x hx=>by simp [rndO] at hx; omega,by simp [rndO,lastE]⟩,by simp [rndO]⟩
 | k + 1,hk=>by
  obtain ⟨h1,h2⟩:=zoY H k (by omega)
  rw [rndO]
  have : (k + 1) * g.length = k * g.length + g.length:=by rw [Nat.add_mul,Nat.one_mul]
  split
  ·exact ⟨h1,by omega⟩
  ·have hS : F.getD k noT∈F:=by rw [List.getD_eq_getElem?_getD,List.getElem?_eq_getElem (show k < F.length by omega)]; simp
   obtain ⟨a,b,c⟩:=h1.way H hS
   refine ⟨a,?_⟩
   rw [List.length_append,List.length_drop]
   omega
theorem RndOk.home {g : List (List Int)} {F : List (Nat→Bool)} {e : Nat} {o : List Int} (H : RH g F e) (h : RndOk g e o) : inB (zhi g o e (g.getD (lastE o).toNat []).length) g.length = true∧ziv g o e≠[]∧inB (ziv g o e) g.length = true∧(ziv g o e).length≤g.length:=by
 have hl:=h.lt
 have hT : inB (zhi g o e (g.getD (lastE o).toNat []).length) g.length = true:=zdP fun x hx=>zaN (zbL H.hin _) (List.mem_of_mem_take (List.mem_filter.1 hx).1)
 obtain ⟨w1,w2,w3⟩:=zlu H.hin (toE e) (okP g (partsG g e)) hT
 have hlt : (lastE o).toNat < g.length:=by omega
 obtain ⟨m1,m2⟩:=mutB_iff.1 ((zdq hlt H.he).1 h.last)
 obtain ⟨x,x1,x2⟩:=zfI H.nt m2 m1
 have hx:=zj3 H.hin _ x x1
 have hpx : partsG g x.toNat = partsG g e:=by rw [(zdq hx.2 hlt).2 (mutB_iff.2 ⟨x2,zcL x1⟩),h.last]
 obtain ⟨init,last,e1,_,_⟩:=w3 ⟨x,List.mem_filter.2 ⟨by rw [List.take_length]; exact x1,by rw [hpx]; simp⟩,e,znH H.hin H.he hx.2 H.he hpx rfl,by simp [toE]⟩
 exact ⟨hT,by unfold ziv; rw [e1]; simp,w1,w2⟩
theorem rndE_ok {g : List (List Int)} {F : List (Nat→Bool)} {e : Nat} (H : RH g F e) : inB (rndE g F e) g.length = true∧(rndE g F e).length≤1 + F.length * g.length + g.length:=by
 obtain ⟨h1,h2⟩:=zoY H F.length (Nat.le_refl _)
 obtain ⟨_,_,h4,h5⟩:=h1.home H
 refine ⟨ziM h1.rng (zdP fun x hx=>zaN h4 (List.mem_of_mem_take hx)),?_⟩
 unfold rndE
 rw [List.length_append,List.length_take]
 omega
end
section
open Go.RowKit
theorem zkP (o l : List Int) (a b : Nat) : List.drop 0 (List.take o.length (i64s o)) ++ List.drop a (List.take b (i64s l)) = i64s (o ++ (l.take b).drop a):=by
 rw [zav (by simp [i64s])]
 simp [i64s,List.map_drop,List.map_take]
theorem zdB (l : List Int) : zbd (i64s l):=zas _ (fun _=>by simp [zao,Pure]) l
def c79 : PC:=.seq (.ops [q 3 (.move (.const (.bool false)))] false) (.seq (.ops [q 4 (.load1 (.tmp 1)),qm 5 0,q 6 (.iaddr 1 (.tmp 4) (.tmp 5)),q 7 (.load1 (.tmp 6)),qm 3 7] false) (.ret))
theorem c79_ok : FunOK Tryz.prog 79 8 [.tmp 3] c79:=⟨⟨Tryz.f79,Tryz.func79,rfl,by kernel_rfl,rfl,by kernel_rfl⟩⟩
theorem em_pick1 (n : Nat) (S : Nat→Bool) (x : Int) (h0 : 0≤x) (hx : x < (n : Int)) : PCall Tryz.prog 79 [.sc (.int .i64 x),.ipt [dbl n S]] (.sc (.bool (S x.toNat))):=by
 refine zag c79_ok (by simp) (by simp [zao,Pure,zbM]) ?_ (by simp [Pure])
 unfold dbl
 (apply zac; focus (repeat' constructor))
 ((conv=>whnf);repeat(refine⟨rfl,?_⟩;conv=>whnf))
 refine ⟨by omega,_,zay x.toNat (by omega) (by omega),?_⟩
 ((conv=>whnf);repeat(refine⟨rfl,?_⟩;conv=>whnf))
 exact .refl _
def c80 : PC:=.seq (.ops [q 3 (.move (.const (.bool false)))] false) (.seq (.ops [q 4 (.load1 (.tmp 1)),qm 5 0,q 6 (.iaddr 1 (.tmp 4) (.tmp 5)),q 7 (.load1 (.tmp 6)),qm 3 7] false) (.ret))
theorem c80_ok : FunOK Tryz.prog 80 8 [.tmp 3] c80:=⟨⟨Tryz.f80,Tryz.func80,rfl,by kernel_rfl,rfl,by kernel_rfl⟩⟩
theorem em_pick2 (n : Nat) (S : Nat→Bool) (x : Int) (h0 : 0≤x) (hx : x < (n : Int)) : PCall Tryz.prog 80 [.sc (.int .i64 x),.ipt [dbl n S]] (.sc (.bool (S x.toNat))):=by
 refine zag c80_ok (by simp) (by simp [zao,Pure,zbM]) ?_ (by simp [Pure])
 unfold dbl
 (apply zac; focus (repeat' constructor))
 ((conv=>whnf);repeat(refine⟨rfl,?_⟩;conv=>whnf))
 refine ⟨by omega,_,zay x.toNat (by omega) (by omega),?_⟩
 ((conv=>whnf);repeat(refine⟨rfl,?_⟩;conv=>whnf))
 exact .refl _
def c81 : PC:=.seq (.ops [q 3 (.move (.const (.bool false)))] false) (.seq (.ops [qm 4 0,q 5 (.load1 (.tmp 1)),q 6 (.bin .eql (.tmp 4) (.tmp 5)),qm 3 6] false) (.ret))
theorem c81_ok : FunOK Tryz.prog 81 7 [.tmp 3] c81:=⟨⟨Tryz.f81,Tryz.func81,rfl,by kernel_rfl,rfl,by kernel_rfl⟩⟩
theorem em_here (e : Nat) (x : Int) (h0 : 0≤x) : PCall Tryz.prog 81 [.sc (.int .i64 x),.ipt [.sc (.int .i64 e)]] (.sc (.bool (toE e x.toNat))):=by
 refine zag c81_ok (by simp) (by simp [zao,Pure]) ?_ (by simp [Pure])
 (apply zac; focus (repeat' constructor))
 ((conv=>whnf);repeat(refine⟨rfl,?_⟩;conv=>whnf))
 exact zbW (by unfold toE; rw [Int.toNat_of_nonneg h0])
def c45 : PC:=.seq (.ops [q 4 (.move (.const (.bool false)))] false) (.seq (.ops [q 5 (.load1 (.tmp 1)),qm 6 0,qd 7 (.iaddr 1 (.tmp 5) (.tmp 6)) 3,qd 8 (.load1 (.tmp 7)) 7,q 9 (.load1 (.tmp 2)),qd 10 (.bin .eql (.tmp 8) (.tmp 9)) 31,qw 4 10 63] true) (.ret))
theorem c45_ok : FunOK Tryz.prog 45 11 [.tmp 4] c45:=⟨⟨Tryz.f45,Tryz.func45,rfl,by kernel_rfl,rfl,by kernel_rfl⟩⟩
theorem znE (g : List (List Int)) (p : Int) (x : Int) (h0 : 0≤x) (hx : x < (g.length : Int)) : PCall Tryz.prog 45 [.sc (.int .i64 x),.ipt [zaD (zdp g)],.ipt [.sc (.int .i64 p)]] (.sc (.bool (partsG g x.toNat == p))):=by
 refine zag c45_ok (by simp) (by simp [zao,Pure,zam]) ?_ (by simp [Pure])
 unfold zdp zaD
 (apply zac; focus (repeat' constructor))
 ((conv=>whnf);repeat(refine⟨rfl,?_⟩;conv=>whnf))
 refine ⟨by omega,_,za5 x.toNat (by omega) (by omega),?_⟩
 ((conv=>whnf);repeat(refine⟨rfl,?_⟩;conv=>whnf))
 exact .refl _
theorem zmW {g : List (List Int)} {o : List Int} {e k : Nat} (h : k < (g.getD (lastE o).toNat []).length) : zhi g o e (k + 1) = if (partsG g ((g.getD (lastE o).toNat []).getD k 0).toNat == partsG g e) = true then zhi g o e k ++ [(g.getD (lastE o).toNat []).getD k 0] else zhi g o e k:=by
 unfold zhi
 rw [List.take_add_one,List.getElem?_eq_getElem h,List.filter_append,List.getD_eq_getElem?_getD (l:=g.getD (lastE o).toNat []),List.getElem?_eq_getElem h]
 simp only [Option.toList_some,Option.getD_some,List.filter_cons,List.filter_nil]
 split <;> simp
theorem znA (g : List (List Int)) (o : List Int) (e k : Nat) : (zhi g o e k).length≤k:=Nat.le_trans (List.length_filter_le _ _) (by simp; omega)
def c46_1 : PC:=.seq (.ops [q 27 (.bin .lss (.tmp 26) (.tmp 25))] false) (.seq (.cond (.tmp 27) (.skip) (.exit 0)) (.seq (.block 1 (.seq (.ops [q 28 (.iaddr 1 (.tmp 24) (.tmp 26)),q 29 (.load1 (.tmp 28)),q 12 (.alloc [(.slice none 0 0)]),qn (.store 1 (.tmp 12) (.tmp 29))] false) (.seq (.seq (.ops [qm 30 10,q 31 (.mkfn (.func 79) [] [(.tmp 12)]),q 32 (.call 57 [(.tmp 30),(.tmp 31)])] false) (.cond (.tmp 32) (.exit 1) (.skip))) (.seq (.ops [qm 33 0,qm 34 10,qm 35 10,q 36 (.len (.tmp 35)),q 37 (.bin .sub (.tmp 36) (.const (.int .i64 1))),q 38 (.slc 1 (.tmp 34) (some (.tmp 37)) none none),q 39 (.mkfn (.func 80) [] [(.tmp 12)]),qm 40 2,qm 41 9,q 42 (.call 44 [(.tmp 33),(.tmp 38),(.tmp 39),(.tmp 40),(.tmp 41)]),qm 13 42] false) (.ops [qm 43 10,qm 44 13,q 45 (.slc 1 (.tmp 44) (some (.const (.int .i64 1))) none none),q 46 (.append 1 8 (.tmp 43) (.tmp 45)),qm 10 46] false))))) (.ops [q 47 (.bin .add (.tmp 26) (.const (.int .i64 1))),qm 26 47] false)))
def c46_2 : PC:=.seq (.ops [q 62 (.bin .lss (.tmp 61) (.tmp 60))] false) (.seq (.cond (.tmp 62) (.skip) (.exit 2)) (.seq (.block 3 (.seq (.ops [q 63 (.iaddr 1 (.tmp 59) (.tmp 61)),q 64 (.load1 (.tmp 63)),qm 16 64] false) (.seq (.ops [qm 65 2,qm 66 16,q 67 (.iaddr 1 (.tmp 65) (.tmp 66)),q 68 (.load1 (.tmp 67)),qm 69 9,q 70 (.bin .eql (.tmp 68) (.tmp 69))] false) (.cond (.tmp 70) (.ops [qm 71 14,qm 72 16,q 73 (.bslice 1 1 [(.tmp 72)]),q 74 (.append 1 8 (.tmp 71) (.tmp 73)),qm 14 74] false) (.skip))))) (.ops [q 75 (.bin .add (.tmp 61) (.const (.int .i64 1))),qm 61 75] false)))
def c46 : PC:=.seq (.ops [q 5 (.box (.tmp 1)),q 8 (.move (.const (.slice none 0 0)))] false) (.seq (.ops [qm 18 2,q 19 (.load1 (.tmp 5)),q 20 (.iaddr 1 (.tmp 18) (.tmp 19)),q 21 (.load1 (.tmp 20)),qm 9 21] false) (.seq (.ops [q 22 (.load1 (.tmp 5)),q 23 (.bslice 1 1 [(.tmp 22)]),qm 10 23] false) (.seq (.seq (.ops [qm 24 3,q 25 (.len (.tmp 24)),q 26 (.move (.const (.int .i64 0)))] false) (.block 0 (.loop c46_1))) (.seq (.ops [q 14 (.move (.const (.slice none 0 0)))] false) (.seq (.seq (.ops [qm 48 0,qd 49 (.nilchk (.tmp 48)) 1,qd 50 (.faddr 11 (.tmp 49)) 3,qd 51 (.load1 (.tmp 50)) 7,qm 52 10,qm 53 10,qd 54 (.len (.tmp 53)) 32,qd 55 (.bin .sub (.tmp 54) (.const (.int .i64 1))) 96,qd 56 (.iaddr 1 (.tmp 52) (.tmp 55)) 240,qd 57 (.load1 (.tmp 56)) 496,qd 58 (.iaddr 1 (.tmp 51) (.tmp 57)) 1023,qd 59 (.load1 (.tmp 58)) 2047,qd 60 (.len (.tmp 59)) 4095,q 61 (.move (.const (.int .i64 0)))] true) (.block 2 (.loop c46_2))) (.seq (.ops [qm 76 0,qm 77 14,q 78 (.mkfn (.func 81) [] [(.tmp 5)]),qm 79 2,qm 80 9,q 81 (.call 44 [(.tmp 76),(.tmp 77),(.tmp 78),(.tmp 79),(.tmp 80)]),qm 17 81] false) (.seq (.ops [qm 82 10,qm 83 17,qm 84 17,q 85 (.len (.tmp 84)),q 86 (.bin .sub (.tmp 85) (.const (.int .i64 1))),q 87 (.slc 1 (.tmp 83) none (some (.tmp 86)) none),q 88 (.append 1 8 (.tmp 82) (.tmp 87)),qm 8 88] false) (.ret))))))))
theorem c46_ok : FunOK Tryz.prog 46 89 [.tmp 8] c46:=⟨⟨Tryz.f46,Tryz.func46,rfl,by kernel_rfl,rfl,by kernel_rfl⟩⟩
theorem em_round (W : WorldD) (A : AutoD) (L : List Pr) (g : List (List Int)) (fr : List Int) (hn : g.length≤2000000) (hF : FitsG g) (F : List (Nat→Bool)) (hFl : F.length≤1000) (e : Nat) (H : RH g F e) :
  PCall Tryz.prog 46 [.ipt (sdat W A L g fr),.sc (.int .i64 e),zaD (zdp g),dbls g.length F] (zaD (rndE g F e)):=by
 have hp:=zdm W A L g fr
 have he:=H.he
 have hpe:=zgx he
 refine zag c46_ok (by simp) (by simp [zao,Pure,zam,hp,zev]) ?_ (zam _)
 obtain ⟨sd,hsd⟩ : ∃ sd : D,sd = .ipt (sdat W A L g fr):=⟨_,rfl⟩
 have hsl : zao [sd]:=by subst hsd; exact ⟨zd1 hp,trivial⟩
 have hsr : ∀ ρ,D.ren ρ sd = sd:=fun ρ=>zbE _ hsl.1
 rw [← hsd]
 unfold dbls
 (apply zac; focus (repeat' constructor))
 ((conv=>whnf);repeat(refine⟨rfl,?_⟩;conv=>whnf))
 refine ⟨by omega,_,za5 e (by omega) he,?_⟩
 ((conv=>whnf);repeat(refine⟨rfl,?_⟩;conv=>whnf))
 rw [List.length_map]
 refine zaz [0,2,5,9,24,25] (fun ((k,ver) : Nat × Nat)=>[(10,.own 1 ver 0 (rndO g F e k).length),(26,.sc (.int .i64 k))]) (fun (k,ver)=>[.row true [.sc (.int .i64 e)],.vec true ver 1 (i64s (rndO g F e k))]) (fun (k,ver)=>k≤F.length) (fun (k,ver)=>F.length - k) (0,0) ?_
 ((conv=>whnf);repeat(refine⟨rfl,?_⟩;conv=>whnf))
 refine ⟨by omega,by (repeat' (first | exact trivial | refine And.intro rfl ?_)),rfl,?_⟩
 rintro ⟨k,ver⟩ hk
 obtain ⟨hO,hOl⟩:=zoY H k hk
 have hOl2 : (rndO g F e k).length≤4000000000:=by
  have:=Nat.mul_le_mul (show k≤1000 by omega) hn
  omega
 have hOn:=List.length_pos_iff.2 hO.ne
 have eR : rndO g F e (k + 1) = if (rndO g F e k).any (fun x=>(F.getD k noT) x.toNat) = true then rndO g F e k else rndO g F e k ++ (wayE g (F.getD k noT) (okP g (partsG g e)) [lastE (rndO g F e k)]).drop 1:=rfl
 ((conv=>whnf);repeat(refine⟨rfl,?_⟩;conv=>whnf))
 (apply zac; focus (repeat' constructor))
 ((conv=>whnf);repeat(refine⟨rfl,?_⟩;conv=>whnf))
 (refine zab (fun q0=>?_) (fun q0=>?_) <;> (rw [q0]; ((conv=>whnf);repeat(refine⟨rfl,?_⟩;conv=>whnf))))
 ·have q0 : k < F.length:=by ((try simp only[oo,reduceCtorEq]at*)<;>omega)
  have hS : F.getD k noT∈F:=by rw [List.getD_eq_getElem?_getD,List.getElem?_eq_getElem q0]; simp
  refine ⟨by omega,_,zjh (n:=g.length) (F:=F) (k:=k) (by omega) q0,?_⟩
  obtain ⟨_,hw2,hw3⟩:=hO.way H hS
  generalize F.getD k noT = S at *
  ((conv=>whnf);repeat(refine⟨rfl,?_⟩;conv=>whnf))
  generalize hoe : rndO g F e k = o at *
  have hC:=zdt (fun n=>.sc (.int .i64 n)) (fun a=>by simp [Pure]) o (by omega) (fun x=>S x.toNat) 79 [.ipt [dbl g.length S]] (by simp [zao,Pure,zbM]) fun a ha=>em_pick1 g.length S a (zaN hO.rng ha).1 (zaN hO.rng ha).2
  rw [show (o.map fun n=>[D.sc (.int .i64 n)]) = List.drop 0 (List.take o.length (i64s o)) from (zav (by simp [i64s])).symm] at hC
  (refine .inr (.inl ⟨_,_,(by (repeat' (first | exact Deep.refl _ | exact Deep.none _ | exact zaF _ | exact DeepL.nil | exact DeepLL.nil | refine Deep.agg _ _ ?_ | refine Deep.tup _ _ ?_ | refine Deep.own _ _ _ _ _ _ _ _ rfl ?_ | refine Deep.loc _ _ _ _ _ rfl ?_ | refine Deep.ifc _ _ _ ?_ | refine Deep.fn _ _ _ _ _ ?_ ?_ | refine DeepL.cons _ _ _ _ ?_ ?_ | refine DeepLL.cons _ _ _ _ ?_ ?_ | exact zaq _))),hC,rfl,?_⟩); ((conv=>whnf);repeat(refine⟨rfl,?_⟩;conv=>whnf)))
  cases r : o.any (fun x=>S x.toNat)
  ·rw [r,if_neg (by decide)] at eR
   ((conv=>whnf);repeat(refine⟨rfl,?_⟩;conv=>whnf))
   (refine .inl ⟨by (unfold InR; rw [IntKind.wrap_i64]; omega),?_⟩; ((conv=>whnf);repeat(refine⟨rfl,?_⟩;conv=>whnf)))
   refine ⟨by omega,by omega,by omega,?_⟩
   ((conv=>whnf);repeat(refine⟨rfl,?_⟩;conv=>whnf))
   have hWy:=em_wayO W A L g fr hn H.hin hF S 80 (fun x h1 h2=>em_pick2 g.length S x h1 h2) o ver hOn (by omega) [lastE o] rfl (zdP fun x hx=>by rw [List.mem_singleton] at hx; subst hx; exact hO.lt) (partsG g e)
   rw [← hsd] at hWy
   generalize wayE g S (okP g (partsG g e)) [lastE o] = l at *
   have hln:=List.length_pos_iff.2 hw2
   rw [show 0 + (((o.length - 0 : Nat) : Int) - 1).toNat = o.length - 1 by omega,show 0 + (o.length - 0) = o.length by omega]
   (refine .inr (.inr (.inl ⟨rfl,_,_,(zcj hWy [.row true [.sc (.int .i64 e)]] [] rfl (by simp [zae,zai,zaf _ hsl.1]) ⟨zaa _ (zdB _),zad _ ⟨zbM _ _,trivial⟩,trivial⟩ (by simp only [renL,D.ren,hsr,zb9]; rfl) (zb9 _) (by simp only [List.map_cons,List.map_nil,AObj.ren,zcF,renL,zbE _ (zbM _ _)]; rfl) (by simp only [List.map_cons,List.map_nil,AObj.ren,zcF,renL,zbE _ (zbM _ _)]; rfl)),?_⟩)); ((conv=>whnf);repeat(refine⟨rfl,?_⟩;conv=>whnf)))
   rw [List.length_map]
   refine ⟨by omega,by omega,by omega,?_⟩
   ((conv=>whnf);repeat(refine⟨rfl,?_⟩;conv=>whnf))
   refine ⟨(by unfold zaj; simp only [ll]; omega),?_⟩
   ((conv=>whnf);repeat(refine⟨rfl,?_⟩;conv=>whnf))
   (refine .inl ⟨by (unfold InR; rw [IntKind.wrap_i64]; omega),?_⟩; ((conv=>whnf);repeat(refine⟨rfl,?_⟩;conv=>whnf)))
   refine ⟨(k + 1,ver + 1),by omega,by dsimp only; omega,?_⟩
   dsimp only
   rw [eR]
   have hle : (o ++ l.drop 1).length = o.length + (l.length - 1):=by rw [List.length_append,List.length_drop]
   rw [hle,show (List.drop (Int.toNat 1) (List.take l.length (List.map (fun n=>[D.sc (Value.int .i64 n)]) l))).length = l.length - 1 by simp]
   (refine zal 2 (by simp) rfl ?_ ?_ <;> (repeat' (first | exact trivial | exact rfl | exact DeepM.refl _ | exact DeepML.refl _ | exact DeepMLL.refl _ | refine And.intro ?_ ?_ | (simp [zai,zae,zak,-List.map_take,-List.map_drop]; done))))
   all_goals first | exact zaf _ hsl.1 | exact zaa _ (zas _ (fun S=>by simp [zao,zbM]) F) | exact zah (by have:=zkP o l 1 l.length; rw [List.take_length] at this; exact this) | skip
  ·rw [r,if_pos rfl] at eR
   ((conv=>whnf);repeat(refine⟨rfl,?_⟩;conv=>whnf))
   (refine .inl ⟨by (unfold InR; rw [IntKind.wrap_i64]; omega),?_⟩; ((conv=>whnf);repeat(refine⟨rfl,?_⟩;conv=>whnf)))
   refine ⟨(k + 1,ver),by omega,by dsimp only; omega,?_⟩
   dsimp only
   rw [eR]
   (refine zal 2 (by simp) rfl ?_ ?_ <;> (repeat' (first | exact trivial | exact rfl | exact DeepM.refl _ | exact DeepML.refl _ | exact DeepMLL.refl _ | refine And.intro ?_ ?_ | (simp [zai,zae,zak,-List.map_take,-List.map_drop]; done))))
   all_goals first | exact zaf _ hsl.1 | exact zaa _ (zas _ (fun S=>by simp [zao,zbM]) F) | skip
 ·have q0 : k = F.length:=by have : ¬ k < F.length:=by ((try simp only[oo,reduceCtorEq]at*)<;>omega)
                             omega
  subst q0
  have eE : rndE g F e = rndO g F e F.length ++ (ziv g (rndO g F e F.length) e).take ((ziv g (rndO g F e F.length) e).length - 1):=rfl
  subst hsd
  unfold sdat zbe
  ((conv=>whnf);repeat(refine⟨rfl,?_⟩;conv=>whnf))
  obtain ⟨ht1,hh1,hh2,hh3⟩:=hO.home H
  have hlt:=hO.lt
  (refine .inl ⟨by (unfold InR; rw [IntKind.wrap_i64]; omega),?_⟩; ((conv=>whnf);repeat(refine⟨rfl,?_⟩;conv=>whnf)))
  (refine ⟨by omega,(by first | omega | (simp; done) | (simp; omega) | (simp only [ll]; omega)),?_⟩; ((conv=>whnf);repeat(refine⟨rfl,?_⟩;conv=>whnf)))
  generalize hoe : rndO g F e F.length = o at *
  refine ⟨_,zaW (l:=o) (k:=o.length - 1) (by omega) (by omega),?_⟩
  ((conv=>whnf);repeat(refine⟨rfl,?_⟩;conv=>whnf))
  rw [show o.getD (o.length - 1) 0 = lastE o from rfl]
  refine ⟨by omega,_,zbx (g:=g) (k:=(lastE o).toNat) (by omega) (by omega),?_⟩
  ((conv=>whnf);repeat(refine⟨rfl,?_⟩;conv=>whnf))
  rw [List.length_map]
  have hrl:=hF.at (lastE o).toNat
  have eT:=fun k hk=>zmW (g:=g) (o:=o) (e:=e) (k:=k) hk
  have hTl:=fun k=>znA g o e k
  have hrow:=fun y hy=>zaN (zbL H.hin (lastE o).toNat) (x:=y) hy
  have hhE : ziv g o e = wayE g (toE e) (okP g (partsG g e)) (zhi g o e (g.getD (lastE o).toNat []).length):=rfl
  have hT0 : zhi g o e 0 = []:=by simp [zhi]
  generalize g.getD (lastE o).toNat [] = row at *
  generalize zhi g o e = T at *
  refine zaA (zcu 14 1 (by simp) rfl) ?_
  refine zaz [0,2,5,9,10,59,60] (fun ((k,c) : Nat × Nat)=>[(14,.own 2 c 0 c),(61,.sc (.int .i64 k))]) (fun (k,c)=>[.row true [.sc (.int .i64 e)],.vec true ver 1 (i64s o),.vec true c 1 (i64s (T k))]) (fun (k,c)=>k≤row.length∧(T k).length = c) (fun (k,c)=>row.length - k) (0,0) ?_
  ((conv=>whnf);repeat(refine⟨rfl,?_⟩;conv=>whnf))
  refine ⟨⟨by omega,by rw [hT0]; rfl⟩,by (repeat' (first | exact trivial | refine And.intro rfl ?_)),by dsimp only; rw [hT0,← hoe]; rfl,?_⟩
  rintro ⟨k,c⟩ ⟨hk,hc⟩
  have hTk:=hTl k
  ((conv=>whnf);repeat(refine⟨rfl,?_⟩;conv=>whnf))
  (apply zac; focus (repeat' constructor))
  ((conv=>whnf);repeat(refine⟨rfl,?_⟩;conv=>whnf))
  (refine zab (fun q1=>?_) (fun q1=>?_) <;> (rw [q1]; ((conv=>whnf);repeat(refine⟨rfl,?_⟩;conv=>whnf))))
  ·have q1 : k < row.length:=by ((try simp only[oo,reduceCtorEq]at*)<;>omega)
   have hy:=hrow _ (zaM q1)
   have eS:=eT k q1
   refine ⟨by omega,_,zaW (l:=row) (k:=k) (by omega) q1,?_⟩
   ((conv=>whnf);repeat(refine⟨rfl,?_⟩;conv=>whnf))
   generalize row.getD k 0 = y at *
   refine ⟨by omega,_,za5 y.toNat (by omega) (by omega),?_⟩
   ((conv=>whnf);repeat(refine⟨rfl,?_⟩;conv=>whnf))
   (refine zab (fun r2=>?_) (fun r2=>?_) <;> (rw [r2]; ((conv=>whnf);repeat(refine⟨rfl,?_⟩;conv=>whnf))))
   ·have r2 : (partsG g y.toNat == partsG g e) = true:=r2
    rw [r2,if_pos rfl] at eS
    refine ⟨(by unfold zaj; simp only [ll]; omega),?_⟩
    ((conv=>whnf);repeat(refine⟨rfl,?_⟩;conv=>whnf))
    (refine .inl ⟨by (unfold InR; rw [IntKind.wrap_i64]; omega),?_⟩; ((conv=>whnf);repeat(refine⟨rfl,?_⟩;conv=>whnf)))
    refine ⟨(k + 1,c + 1),⟨by omega,by rw [eS,List.length_append,hc]; rfl⟩,by dsimp only; omega,?_⟩
    dsimp only
    rw [eS]
    (refine zal 3 (by simp) rfl ?_ ?_ <;> (repeat' (first | exact trivial | exact rfl | exact DeepM.refl _ | exact DeepML.refl _ | exact DeepMLL.refl _ | refine And.intro ?_ ?_ | (simp [zai,zae,zak,-List.map_take,-List.map_drop]; done))))
    all_goals first | exact zad _ hp | exact zah (by rw [← hc,zaR]) | skip
   ·have r2 : (partsG g y.toNat == partsG g e) = false:=r2
    rw [r2,if_neg (by decide)] at eS
    (refine .inl ⟨by (unfold InR; rw [IntKind.wrap_i64]; omega),?_⟩; ((conv=>whnf);repeat(refine⟨rfl,?_⟩;conv=>whnf)))
    refine ⟨(k + 1,c),⟨by omega,by rw [eS]; exact hc⟩,by dsimp only; omega,zan (by (repeat' (first | exact trivial | refine And.intro rfl ?_))) ?_⟩
    dsimp only
    rw [eS]
  ·have q1 : k = row.length:=by have : ¬ k < row.length:=by ((try simp only[oo,reduceCtorEq]at*)<;>omega)
                                omega
   subst q1
   have hWy:=em_way W A L g fr hn H.hin hF (toE e) 81 [.ipt [.sc (.int .i64 e)]] (by simp [zao,Pure]) (fun x h1 _=>em_here e x h1) (T row.length) (by omega) ht1 (partsG g e)
   rw [← hhE] at hWy
   generalize ziv g o e = l at *
   have hln:=List.length_pos_iff.2 hh1
   (refine .inr (.inr (.inr (.inr (.inl ⟨_,_,_,(zf1 (args0:=[.ipt (sdat W A L g fr),.own 1 c 0 c,.fn (.func 81) [] [.loc 0 0],zaD (zdp g),.sc (.int .i64 (partsG g e))]) (H0:=[.row true [.sc (.int .i64 e)],.vec true c 1 (i64s (T row.length))])
    (.cons _ _ _ _ (.refl _) (.cons _ _ _ _ (.own _ _ _ _ _ _ _ _ rfl (by rw [zav (by simp [i64s]; omega)]; exact zaq _)) (.cons _ _ _ _ (.fn _ _ _ _ _ .nil (.cons _ _ _ _ (.loc _ _ _ _ _ rfl (zc4 _)) .nil)) (.cons _ _ _ _ (.refl _) (.cons _ _ _ _ (.refl _) .nil))))) hWy (zam _) [0,2] rfl (by decide) (by simp [zae,zai,zad _ hp]) ⟨zad _ (by simp [zao,Pure]),zaa _ (zdB _),trivial⟩ (by simp only [renL,D.ren,zb9,zbA _ hp]; rfl) (fun i o ho=>by
     rcases i with _ | _ | i
     ·simp at ho; subst ho; rfl
     ·simp at ho; subst ho; simp only [AObj.ren,zcF]; rfl
     ·simp at ho)),?_⟩)))); ((conv=>whnf);repeat(refine⟨rfl,?_⟩;conv=>whnf)))
   rw [List.length_map]
   (refine .inl ⟨by (unfold InR; rw [IntKind.wrap_i64]; omega),?_⟩; ((conv=>whnf);repeat(refine⟨rfl,?_⟩;conv=>whnf)))
   refine ⟨by omega,by omega,by simp,?_⟩
   ((conv=>whnf);repeat(refine⟨rfl,?_⟩;conv=>whnf))
   refine ⟨(by unfold zaj; simp only [ll]; omega),?_⟩
   ((conv=>whnf);repeat(refine⟨rfl,?_⟩;conv=>whnf))
   rw [eE]
   refine .own _ _ _ _ _ _ _ _ rfl ?_
   rw [show (((l.length : Nat) : Int) - 1).toNat = l.length - 1 by omega]
   have hh:=zkP o l 0 (l.length - 1)
   rw [List.drop_zero] at hh
   rw [show List.drop 0 (List.take o.length (i64s o)) ++ List.drop 0 (List.take (l.length - 1) (List.map (fun n=>[D.sc (Value.int .i64 n)]) l)) = i64s (o ++ l.take (l.length - 1)) from hh]
   rw [zav (by simp [i64s])]
   exact zaq _
end
section
open Go.RowKit
def nxE (W : WorldD) (A : AutoD) (p : Pr) : List Pr:=zbc W A (W.next.getD p.1.toNat []) (A.next.getD p.2.toNat [])
structure BigW (W : WorldD) (A : AutoD) : Prop where
 two : TwoW W A
 sw : W.start.length≤1048576
 sa : A.start.length≤1048576
 rw_ : ∀ l∈W.next,l.length≤1048576
 ra : ∀ l∈A.next,l.length≤1048576
theorem BigW.next {W : WorldD} {A : AutoD} (h : BigW W A) (p : Pr) : (∀ q∈nxE W A p,GoodE W A q)∧(nxE W A p).length≤1099511627776:=by
 obtain ⟨_,_,_,_,w5,_⟩:=zcP W h.two.cw
 obtain ⟨_,_,_,_,_,a6,_⟩:=zdy A h.two.ca
 refine ⟨zhX (zbL w5 _) (zbL a6 _),?_⟩
 have h1:=ziy W A (W.next.getD p.1.toNat []) (A.next.getD p.2.toNat [])
 have h2:=Nat.mul_le_mul (zed h.rw_ p.1.toNat) (zed h.ra p.2.toNat)
 unfold nxE
 omega
theorem BigW.begin {W : WorldD} {A : AutoD} (h : BigW W A) : (∀ q∈zbc W A W.start A.start,GoodE W A q)∧(zbc W A W.start A.start).length≤1099511627776:=by
 obtain ⟨_,_,_,w4,_,_⟩:=zcP W h.two.cw
 obtain ⟨_,_,_,_,a5,_,_⟩:=zdy A h.two.ca
 refine ⟨zhX w4 a5,?_⟩
 have h1:=ziy W A W.start A.start
 have h2:=Nat.mul_le_mul h.sw h.sa
 omega
theorem zgg {Q : Pr→Prop} {ps L : List Pr} {o : List Int} (h : ∀ p∈L,Q p) (k : ∀ p∈ps,Q p) : ∀ p∈(eAdd ps L o).1,Q p:=fun p hp=>((zfp ps L o p).1 hp).elim (h p) (k p)
theorem zpc {W : WorldD} {A : AutoD} (h : BigW W A) {start : List Pr} : ∀ (f n : Nat) (L : List Pr) (T : List (List Int)),NumI start (nxE W A) n L T→(∀ p∈L,GoodE W A p)→W.next.length * A.next.length + 2≤f + n →
  NumF start (nxE W A) (eRun (nxE W A) f n L T).1 (eRun (nxE W A) f n L T).2∧∀ p∈(eRun (nxE W A) f n L T).1,GoodE W A p
 | 0,n,L,T,hI,hg,hf=>by have:=hI.le; have:=GoodE.le h.two hI.nd hg; omega
 | f + 1,n,L,T,hI,hg,hf=>by
  rw [eRun]
  split
  ·rename_i q
   exact zpc h f (n + 1) _ _ (hI.next q) (zgg hg (h.next _).1) (by omega)
  ·rename_i q
   exact ⟨hI.fin q,hg⟩
def zb3 (W : WorldD) (A : AutoD) : List Pr × List Int:=eAdd (zbc W A W.start A.start) [] []
def finE (W : WorldD) (A : AutoD) : List Pr × List (List Int):=eRun (nxE W A) (W.next.length * A.next.length + 2) 0 (zb3 W A).1 []
theorem zhR {W : WorldD} {A : AutoD} (h : BigW W A) : NumF (zbc W A W.start A.start) (nxE W A) (finE W A).1 (finE W A).2∧∀ p∈(finE W A).1,GoodE W A p :=
 zpc h _ 0 _ [] (NumI.begin _ _) (zgg (by simp) h.begin.1) (by omega)
theorem zl6 (nx : Pr→List Pr) : ∀ (f n : Nat) (L : List Pr) (T : List (List Int)),∃ X,(eRun nx f n L T).1 = L ++ X
 | 0,n,L,T=>⟨[],by simp [eRun]⟩
 | f + 1,n,L,T=>by
  rw [eRun]
  split
  ·obtain ⟨X,hX⟩:=zfn (nx (L.getD n (0,0))) L []
   obtain ⟨Y,hY⟩:=zl6 nx f (n + 1) (eAdd (nx (L.getD n (0,0))) L []).1 (T ++ [(eAdd (nx (L.getD n (0,0))) L []).2])
   exact ⟨X ++ Y,by rw [hY,hX,List.append_assoc]⟩
  ·exact ⟨[],by simp⟩
theorem zkh {W : WorldD} {A : AutoD} : (zb3 W A).2 = (zbc W A W.start A.start).map fun p=>(idxP (finE W A).1 p : Int):=by
 obtain ⟨X,hX⟩:=zl6 (nxE W A) (W.next.length * A.next.length + 2) 0 (zb3 W A).1 []
 have hX' : (finE W A).1 = (zb3 W A).1 ++ X:=hX
 rw [hX']
 unfold zb3
 rw [zjg,List.nil_append]
 refine List.map_congr_left fun p hp=>?_
 rw [zlC ((zfp _ [] [] p).2 (.inr hp))]
theorem NumF.fits {W : WorldD} {A : AutoD} (h : BigW W A) {start L : List Pr} {G : List (List Int)} (hN : NumF start (nxE W A) L G) (hg : ∀ p∈L,GoodE W A p) : G.length≤1228800∧FitsG G:=by
 have h1:=GoodE.le h.two hN.nd hg
 have h2:=zl2 h.two
 have h3:=hN.len
 refine ⟨by omega,by omega,fun l hl=>?_⟩
 obtain ⟨i,hi,rfl⟩:=List.mem_iff_getElem.1 hl
 have:=hN.row i (by omega)
 rw [List.getD_eq_getElem?_getD,List.getElem?_eq_getElem hi] at this
 simp only [Option.getD_some] at this
 rw [this,List.length_map]
 have:=(h.next (L.getD i (0,0))).2
 omega
theorem zmr {W : WorldD} {A : AutoD} (h : BigW W A) : inB (zb3 W A).2 (finE W A).2.length = true∧(zb3 W A).2.length≤1099511627776:=by
 obtain ⟨hN,hg⟩:=zhR h
 rw [zkh]
 refine ⟨zdP fun x hx=>?_,by rw [List.length_map]; exact h.begin.2⟩
 obtain ⟨p,hp,rfl⟩:=List.mem_map.1 hx
 have:=ziF (hN.st p hp)
 have:=hN.len
 omega
theorem resO_all {g : List (List Int)} {ok : Nat→Bool} (h : ∀ v,ok v = true) {u v : Nat} (k : To g u v) : To (resO g ok) u v:=by
 unfold To at k
 induction k with
 | base m=>exact .base m
 | step k hx ih=>exact .step ih (resO_mem.2 ⟨hx,h _⟩)
theorem znF {g : List (List Int)} (hin : ∀ l∈g,inB l g.length = true) {F : List (Nat→Bool)} {i : Nat} (h : zfA g F i = true) : (∃ v,v < g.length∧partsG g v = (i : Int))∧∀ e,e < g.length→partsG g e = (i : Int)→RH g F e:=by
 unfold zfA at h
 rw [Bool.and_eq_true,List.all_eq_true] at h
 obtain ⟨h1,h2⟩:=h
 unfold okT at h1
 obtain ⟨v,hv,h3⟩:=List.any_eq_true.1 h1
 rw [Bool.and_eq_true,beq_iff_eq] at h3
 have hv:=List.mem_range.1 hv
 refine ⟨⟨v,hv,h3.1⟩,fun e he hp=>⟨he,hin,?_,fun S hS=>?_⟩⟩
 ·have hn:=(zjo (fun v x hx=>(zj3 hin v x hx).2) hv).1 h3.2
  obtain ⟨m1,m2⟩:=mutB_iff.1 ((zdq hv he).1 (h3.1.trans hp.symm))
  exact zfI hn m1 m2
 ·have:=h2 S hS
  unfold hasF at this
  obtain ⟨d,hd,h4⟩:=List.any_eq_true.1 this
  rw [Bool.and_eq_true,beq_iff_eq] at h4
  exact ⟨d,List.mem_range.1 hd,h4.2,h4.1.trans hp.symm⟩
noncomputable def pE (g : List (List Int)) (F : List (Nat→Bool)) : Int:=idxF (fun b=>true == b) ((List.range g.length).map (zfA g F))
noncomputable def zct (g : List (List Int)) (F : List (Nat→Bool)) (fr : List Int) : List Int:=wayE g (fun k=>partsG g k == pE g F) (okP g (-1)) fr
def zgW (L : List Pr) (l : List Int) : List Int:=l.map fun n=>(L.getD n.toNat (0,0)).1
noncomputable def znc (W : WorldD) (A : AutoD) (L : List Pr) (g : List (List Int)) (fr : List Int) : D :=
 if pE g (zdY W A L) < 0 then .tup [.agg [zaD [],zaD []],.sc (.bool false),.sc (.int .i64 0)] else
  .tup [.agg [zaD (zgW L ((zct g (zdY W A L) fr).take ((zct g (zdY W A L) fr).length - 1))),zaD (zgW L (rndE g (zdY W A L) (lastE (zct g (zdY W A L) fr)).toNat))],.sc (.bool true),.sc (.int .i64 0)]
theorem pE_some {g : List (List Int)} {F : List (Nat→Bool)} (h : ¬ pE g F < 0) : ∃ i : Nat,pE g F = (i : Int)∧zfA g F i = true:=by
 obtain ⟨k,h1,hk,h2,_⟩:=zhP (show 0≤idxF (fun b=>true == b) ((List.range g.length).map (zfA g F)) from by unfold pE at h; omega)
 refine ⟨k,h1,?_⟩
 simpa using h2
theorem pE_iff {g : List (List Int)} (hin : ∀ l∈g,inB l g.length = true) {F : List (Nat→Bool)} : (¬ pE g F < 0)↔∃ v,v < g.length∧Fw g F v:=by
 rw [← zpe (fun v x hx=>(zj3 hin v x hx).2) F]
 have h1:=zdb (fun b=>true == b) ((List.range g.length).map (zfA g F))
 have h2 : (¬ pE g F < 0)↔decide (pE g F≥0) = true:=by rw [decide_eq_true_iff]; omega
 rw [h2,pE,h1,List.any_eq_true]
 constructor
 ·rintro ⟨b,hb,hb2⟩
  obtain ⟨i,hi,rfl⟩:=List.mem_map.1 hb
  exact ⟨i,List.mem_range.1 hi,by simpa using hb2⟩
 ·rintro ⟨i,hi,h⟩
  exact ⟨_,List.mem_map.2 ⟨i,List.mem_range.2 hi,rfl⟩,by simpa using h⟩
theorem stemE_ok {W : WorldD} {A : AutoD} (h : BigW W A) {F : List (Nat→Bool)} (hp : ¬ pE (finE W A).2 F < 0) :
  inB (zct (finE W A).2 F (zb3 W A).2) (finE W A).2.length = true∧(zct (finE W A).2 F (zb3 W A).2).length≤(finE W A).2.length∧zct (finE W A).2 F (zb3 W A).2≠[]∧RH (finE W A).2 F (lastE (zct (finE W A).2 F (zb3 W A).2)).toNat:=by
 obtain ⟨hN,hg⟩:=zhR h
 obtain ⟨i,e1,hG⟩:=pE_some hp
 obtain ⟨⟨v,hv,hpv⟩,hR⟩:=znF hN.inG hG
 obtain ⟨b1,_⟩:=zmr h
 obtain ⟨w1,w2,w3⟩:=zlu hN.inG (fun k=>partsG (finE W A).2 k == pE (finE W A).2 F) (okP (finE W A).2 (-1)) b1
 obtain ⟨q,hq,hT⟩:=hN.come v (by have:=hN.len; omega)
 obtain ⟨init,last,s1,s2,_⟩:=w3 ⟨(idxP (finE W A).1 q : Int),by rw [zkh]; exact List.mem_map.2 ⟨q,hq,rfl⟩,v,by
  rw [Int.toNat_natCast]
  exact resO_all (fun v=>by unfold okP; rw [decide_eq_true (by omega : (-1 : Int) < 0)]; rfl) hT,by rw [hpv,e1]; simp⟩
 refine ⟨w1,w2,by unfold zct; rw [s1]; simp,?_⟩
 have hl : lastE (zct (finE W A).2 F (zb3 W A).2) = last:=by unfold zct; rw [s1,zko]
 have hr:=zaN w1 (x:=last) (by rw [s1]; simp)
 rw [hl]
 exact hR last.toNat (by omega) (by rw [beq_iff_eq] at s2; rw [s2,e1])
def znk (d : Nat) (W : WorldD) (A : AutoD) (n t : Nat) (S : D) : List D:=[zaD W.start,zbe W.next,dlet W.label,zbe W.fair,zaD A.start,zbe A.next,dlet A.must,dlet A.nots,zbe A.fair,.mp d,.own (d + 2) n 0 n,.own (d + 3) t 0 t,S]
noncomputable def zke (d : Nat) (W : WorldD) (A : AutoD) (L : List Pr) (S : D) (T : List (List Int)) : List AObj :=
 [.mapo true (zew Tryz.prog 78 (fP L)),.row true (znk d W A L.length T.length S),.vec true L.length 2 (zgQ L),.vec true T.length 1 (zba T)]
theorem zj1 {ρ : Nat→Nat} (l : List Int) : D.ren ρ (dlet l) = dlet l:=zbE _ (zcQ l)
theorem zgo {W : WorldD} {A : AutoD} {L : List Pr} {S : D} (hS : Pure S) {T : List (List Int)} : (zcX W A L S T).map (AObj.ren fun i=>3 + i) = zke 3 W A L S T:=by
 simp only [zcX,zke,sbox,znk,List.map_cons,List.map_nil,AObj.ren,renL,D.ren,zbn _ (zgA L),zbn _ (zaP T),zbE _ hS,zb9,zkz,zj1]
def c12_1 : PC:=.seq (.seq (.ops [qm 42 10,qm 43 9,q 44 (.nilchk (.tmp 43)),q 45 (.faddr 10 (.tmp 44)),q 46 (.load1 (.tmp 45)),q 47 (.len (.tmp 46)),q 48 (.bin .lss (.tmp 42) (.tmp 47))] false) (.cond (.tmp 48) (.skip) (.exit 0))) (.seq (.block 1 (.ops [qm 51 9,qm 52 9,qd 53 (.nilchk (.tmp 52)) 2,qd 54 (.faddr 11 (.tmp 53)) 6,qd 55 (.load1 (.tmp 54)) 14,qm 56 9,q 57 (.faddr 1 (.tmp 2)),qd 58 (.load1 (.tmp 57)) 64,qm 59 9,qd 60 (.nilchk (.tmp 59)) 256,qd 61 (.faddr 10 (.tmp 60)) 768,qd 62 (.load1 (.tmp 61)) 1792,qm 63 10,qd 64 (.iaddr 2 (.tmp 62) (.tmp 63)) 7936,qd 65 (.faddr 0 (.tmp 64)) 16128,qd 66 (.load1 (.tmp 65)) 32512,qd 67 (.iaddr 1 (.tmp 58) (.tmp 66)) 65472,qd 68 (.load1 (.tmp 67)) 131008,q 69 (.faddr 1 (.tmp 3)),qd 70 (.load1 (.tmp 69)) 262144,qm 71 9,qd 72 (.nilchk (.tmp 71)) 1048576,qd 73 (.faddr 10 (.tmp 72)) 3145728,qd 74 (.load1 (.tmp 73)) 7340032,qm 75 10,qd 76 (.iaddr 2 (.tmp 74) (.tmp 75)) 32505856,qd 77 (.faddr 1 (.tmp 76)) 66060288,qd 78 (.load1 (.tmp 77)) 133169152,qd 79 (.iaddr 1 (.tmp 70) (.tmp 78)) 268173312,qd 80 (.load1 (.tmp 79)) 536608768,qd 81 (.call 40 [(.tmp 56),(.tmp 68),(.tmp 80)]) 1073741792,qd 82 (.bslice 1 1 [(.tmp 81)]) 2147483616,qd 83 (.append 1 24 (.tmp 55) (.tmp 82)) 4294967294,qd 84 (.nilchk (.tmp 51)) 8589934591,qd 85 (.faddr 11 (.tmp 84)) 17179869183,qk (.store 1 (.tmp 85) (.tmp 83)) 34359738367] true)) (.ops [qm 49 10,q 50 (.bin .add (.tmp 49) (.const (.int .i64 1))),qm 10 50] false))
def c12 : PC:=.seq (.ops [q 2 (.box (.tmp 0)),q 3 (.box (.tmp 1)),q 4 (.alloc [(.slice none 0 0),(.slice none 0 0)]),q 5 (.move (.const (.bool false))),q 6 (.move (.const (.int .i64 0)))] false) (.seq (.seq (.ops [q 16 (.loadA 4 (.tmp 2)),q 17 (.call 9 [(.tmp 16)]),qm 7 17] false) (.seq (.ops [qm 18 7,q 19 (.bin .neq (.tmp 18) (.const (.int .i64 0)))] false) (.cond (.tmp 19) (.seq (.ops [q 20 (.build [(.slice none 0 0),(.slice none 0 0)] []),qm 21 7,qn (.store 2 (.tmp 4) (.tmp 20)),q 5 (.move (.const (.bool false))),qm 6 21] false) (.ret)) (.skip)))) (.seq (.seq (.ops [q 22 (.loadA 5 (.tmp 3)),q 23 (.call 39 [(.tmp 22)]),qm 8 23] false) (.seq (.ops [qm 24 8,q 25 (.bin .neq (.tmp 24) (.const (.int .i64 0)))] false) (.cond (.tmp 25) (.seq (.ops [q 26 (.build [(.slice none 0 0),(.slice none 0 0)] []),qm 27 8,qn (.store 2 (.tmp 4) (.tmp 26)),q 5 (.move (.const (.bool false))),qm 6 27] false) (.ret)) (.skip)))) (.seq (.ops [q 28 (.loadA 4 (.tmp 2)),q 29 (.loadA 5 (.tmp 3)),q 30 (.mkmap 78),q 31 (.build [(.slice none 0 0),(.slice none 0 0),(.slice none 0 0),(.slice none 0 0),(.slice none 0 0),(.slice none 0 0),(.slice none 0 0),(.slice none 0 0),(.slice none 0 0),(.map none),(.slice none 0 0),(.slice none 0 0),(.slice none 0 0)] [(0,4,(.tmp 28)),(4,5,(.tmp 29)),(9,1,(.tmp 30))]),q 32 (.box (.tmp 31)),qm 9 32] false) (.seq (.stop (.ops [qm 33 9,qm 34 9,q 35 (.faddr 0 (.tmp 2)),q 36 (.load1 (.tmp 35)),q 37 (.faddr 0 (.tmp 3)),q 38 (.load1 (.tmp 37)),q 39 (.call 40 [(.tmp 34),(.tmp 36),(.tmp 38)]),q 40 (.nilchk (.tmp 33)),q 41 (.faddr 12 (.tmp 40)),qn (.store 1 (.tmp 41) (.tmp 39))] false)) (.seq (.seq (.ops [q 10 (.move (.const (.int .i64 0)))] false) (.block 0 (.loop c12_1))) (.seq (.stop (.ops [qm 86 9,q 87 (.nilchk (.tmp 86)),q 88 (.faddr 11 (.tmp 87)),q 89 (.load1 (.tmp 88)),q 90 (.call 41 [(.tmp 89)]),q 11 (.alloc [(.slice none 0 0)]),qn (.store 1 (.tmp 11) (.tmp 90))] false)) (.seq (.ops [qm 91 9,q 92 (.call 42 [(.tmp 91)]),qm 12 92] false) (.seq (.ops [qm 93 9,q 94 (.load1 (.tmp 11)),qm 95 12,q 96 (.call 43 [(.tmp 93),(.tmp 94),(.tmp 95)]),q 13 (.alloc [(.int .i64 0)]),qn (.store 1 (.tmp 13) (.tmp 96))] false) (.seq (.seq (.ops [q 97 (.load1 (.tmp 13)),q 98 (.bin .lss (.tmp 97) (.const (.int .i64 0)))] false) (.cond (.tmp 98) (.seq (.ops [q 99 (.build [(.slice none 0 0),(.slice none 0 0)] []),qn (.store 2 (.tmp 4) (.tmp 99)),q 5 (.move (.const (.bool false))),q 6 (.move (.const (.int .i64 0)))] false) (.ret)) (.skip))) (.seq (.ops [qm 100 9,qm 101 9,qd 102 (.nilchk (.tmp 101)) 2,qd 103 (.faddr 12 (.tmp 102)) 6,qd 104 (.load1 (.tmp 103)) 14,q 105 (.mkfn (.func 45) [] [(.tmp 11),(.tmp 13)]),q 106 (.load1 (.tmp 11)),qd 107 (.call 44 [(.tmp 100),(.tmp 104),(.tmp 105),(.tmp 106),(.const (.int .i64 (-1)))]) 127,qw 14 107 255] true) (.seq (.ops [qm 108 9,qm 109 14,qm 110 14,qd 111 (.len (.tmp 110)) 4,qd 112 (.bin .sub (.tmp 111) (.const (.int .i64 1))) 12,qd 113 (.iaddr 1 (.tmp 109) (.tmp 112)) 30,qd 114 (.load1 (.tmp 113)) 62,q 115 (.load1 (.tmp 11)),qm 116 12,qd 117 (.call 46 [(.tmp 108),(.tmp 114),(.tmp 115),(.tmp 116)]) 511,qw 15 117 1023] true) (.seq (.ops [qm 118 9,qm 119 14,qm 120 14,q 121 (.len (.tmp 120)),q 122 (.bin .sub (.tmp 121) (.const (.int .i64 1))),q 123 (.slc 1 (.tmp 119) none (some (.tmp 122)) none),q 124 (.call 47 [(.tmp 118),(.tmp 123)]),qm 125 9,qm 126 15,q 127 (.call 47 [(.tmp 125),(.tmp 126)]),q 128 (.build [(.slice none 0 0),(.slice none 0 0)] [(0,1,(.tmp 124)),(1,1,(.tmp 127))]),qn (.store 2 (.tmp 4) (.tmp 128)),q 5 (.move (.const (.bool true))),q 6 (.move (.const (.int .i64 0)))] false) (.ret)))))))))))))
theorem c12_ok : FunOK Tryz.prog 12 129 [.agg 4 2,.tmp 5,.tmp 6] c12:=⟨⟨Tryz.f12,Tryz.func12,rfl,by kernel_rfl,rfl,by kernel_rfl⟩⟩
theorem em_Find {W : WorldD} {A : AutoD} (h : BigW W A) : PCall Tryz.prog 12 [zcR W,zeh A] (znc W A (finE W A).1 (finE W A).2 (zb3 W A).2):=by
 obtain ⟨w1,w2,w3,w4,w5,w6⟩:=zcP W h.two.cw
 obtain ⟨a1,a2,a3,a4,a5,a6,a7⟩:=zdy A h.two.ca
 have hN2:=zl2 h.two
 have hCW:=zmx W h.two.fw
 rw [h.two.cw] at hCW
 have hCA:=au_Check A h.two.fa
 rw [h.two.ca] at hCA
 have hX:=fun L hnd hLg S hS T=>zmz h.two W.start A.start h.sw h.sa w4 a5 L hnd hLg S hS T
 have hX2:=fun (p : Pr) L hnd hLg S hS T=>zmz h.two (W.next.getD p.1.toNat []) (A.next.getD p.2.toNat []) (zed h.rw_ p.1.toNat) (zed h.ra p.2.toNat) (zbL w5 p.1.toNat) (zbL a6 p.2.toNat) L hnd hLg S hS T
 have hpW:=zdh W
 have hpA:=zdj A
 refine zag c12_ok (by simp) (by simp [zao,zb5,zbY]) ?_ (by unfold znc; split <;> simp [Pure,zao,zam])
 have hfin : finE W A = eRun (nxE W A) (W.next.length * A.next.length + 2) 0 (zb3 W A).1 []:=rfl
 unfold zcR zeh at *
 unfold WorldD.cells AutoD.cells at *
 (apply zac; focus (repeat' constructor))
 ((conv=>whnf);repeat(refine⟨rfl,?_⟩;conv=>whnf))
 (refine .inl ⟨_,hCW,?_⟩; ((conv=>whnf);repeat(refine⟨rfl,?_⟩;conv=>whnf)))
 (refine .inl ⟨_,hCA,?_⟩; ((conv=>whnf);repeat(refine⟨rfl,?_⟩;conv=>whnf)))
 refine zaA (zb1 (zbp 4 10 2 (by simp) rfl rfl) (zbp 4 11 1 (by simp) rfl rfl)) ?_
 (apply zac; focus (repeat' constructor))
 ((conv=>whnf);repeat(refine⟨rfl,?_⟩;conv=>whnf))
 have hnil : Pure nilV:=trivial
 have hX0:=hX [] .nil (by simp) nilV hnil []
 rw [show eAdd (zbc W A W.start A.start) [] [] = zb3 W A from rfl] at hX0
 have hN0:=NumI.begin (zbc W A W.start A.start) (nxE W A)
 rw [show eAdd (zbc W A W.start A.start) [] [] = zb3 W A from rfl] at hN0
 have hG0 : ∀ p∈(zb3 W A).1,GoodE W A p:=zgg (by simp) h.begin.1
 have hRR : ∀ L G,finE W A = (L,G)→NumF (zbc W A W.start A.start) (nxE W A) L G∧(∀ p∈L,GoodE W A p)∧inB (zb3 W A).2 G.length = true∧(zb3 W A).2.length≤1099511627776∧∀ F,¬ pE G F < 0→inB (zct G F (zb3 W A).2) G.length = true∧(zct G F (zb3 W A).2).length≤G.length∧zct G F (zb3 W A).2≠[]∧RH G F (lastE (zct G F (zb3 W A).2)).toNat:=fun L G e=>by
  have k1:=zhR h
  have k2:=zmr h
  have k3:=fun F hp=>stemE_ok h (F:=F) hp
  rw [e] at k1 k2 k3
  exact ⟨k1.1,k1.2,k2.1,k2.2,k3⟩
 generalize zb3 W A = B at *
 obtain ⟨L0,fr⟩:=B
 dsimp only at *
 have hSf:=zam fr
 (refine .inr (.inr (.inl ⟨rfl,_,_,(zcj hX0 [.row true [zaD W.start,zbe W.next,dlet W.label,zbe W.fair],.row true [zaD A.start,zbe A.next,dlet A.must,dlet A.nots,zbe A.fair],.row true [nilV,nilV]] [] rfl (by simp [zcX,zae,zai]) (zeS hnil (by simp [zcX])) (by simp only [renL,D.ren,zb9]; rfl) (zb9 _) (congrArg (_ ++ ·) ((List.append_nil _).trans (zgo hnil))) (congrArg (_ ++ ·) ((List.append_nil _).trans (zgo hnil)))),?_⟩)); ((conv=>whnf);repeat(refine⟨rfl,?_⟩;conv=>whnf)))
 refine zaz [2,3,4,9] (fun ((n,M,T) : Nat × List Pr × List (List Int))=>[(10,.sc (.int .i64 n))]) (fun (n,M,T)=>[.row true [zaD W.start,zbe W.next,dlet W.label,zbe W.fair],.row true [zaD A.start,zbe A.next,dlet A.must,dlet A.nots,zbe A.fair],.row true [nilV,nilV]] ++ zke 3 W A M (zaD fr) T)
  (fun (n,M,T)=>NumI (zbc W A W.start A.start) (nxE W A) n M T∧(∀ p∈M,GoodE W A p)∧eRun (nxE W A) (W.next.length * A.next.length + 2 - n) n M T = finE W A) (fun (n,M,T)=>W.next.length * A.next.length + 2 - n) (0,L0,[]) ?_
 ((conv=>whnf);repeat(refine⟨rfl,?_⟩;conv=>whnf))
 refine ⟨⟨hN0,hG0,hfin.symm⟩,by (repeat' (first | exact trivial | refine And.intro rfl ?_)),rfl,?_⟩
 rintro ⟨n,M,T⟩ ⟨hI,hMg,hF⟩
 have hMl:=GoodE.le h.two hI.nd hMg
 have hIl:=hI.le
 have hTl:=hI.len
 rw [show W.next.length * A.next.length + 2 - n = (W.next.length * A.next.length + 1 - n) + 1 by omega,eRun] at hF
 unfold zke znk
 ((conv=>whnf);repeat(refine⟨rfl,?_⟩;conv=>whnf))
 (apply zac; focus (repeat' constructor))
 ((conv=>whnf);repeat(refine⟨rfl,?_⟩;conv=>whnf))
 (refine zab (fun q0=>?_) (fun q0=>?_) <;> (rw [q0]; ((conv=>whnf);repeat(refine⟨rfl,?_⟩;conv=>whnf))))
 ·have q0 : n < M.length:=by ((try simp only[oo,reduceCtorEq]at*)<;>omega)
  rw [if_pos q0] at hF
  have hgp:=hMg _ (zgj q0)
  obtain ⟨⟨g1,g2⟩,g3,g4⟩:=hgp
  have hNx:=hI.next q0
  have hnx:=h.next (M.getD n (0,0))
  have hC:=zcj (hX2 (M.getD n (0,0)) M hI.nd hMg (zaD fr) hSf T) [.row true [zaD W.start,zbe W.next,dlet W.label,zbe W.fair],.row true [zaD A.start,zbe A.next,dlet A.must,dlet A.nots,zbe A.fair],.row true [nilV,nilV]] [] rfl (by simp [zcX,zae,zai]) (zeS hSf (by simp [zcX])) (by simp only [renL,D.ren,zb9]; rfl) (zb9 _) (congrArg (_ ++ ·) ((List.append_nil _).trans (zgo hSf))) (congrArg (_ ++ ·) ((List.append_nil _).trans (zgo hSf)))
  rw [show zbc W A (W.next.getD (M.getD n (0,0)).1.toNat []) (A.next.getD (M.getD n (0,0)).2.toNat []) = nxE W A (M.getD n (0,0)) from rfl] at hC
  (refine ⟨by omega,(by first | omega | (simp; done) | (simp; omega) | (simp only [ll]; omega)),?_⟩; ((conv=>whnf);repeat(refine⟨rfl,?_⟩;conv=>whnf)))
  refine ⟨_,zhq (l:=M) (k:=n) (by omega) q0,?_⟩
  ((conv=>whnf);repeat(refine⟨rfl,?_⟩;conv=>whnf))
  refine ⟨by omega,_,zbx (g:=W.next) (k:=(M.getD n (0,0)).1.toNat) (by omega) (by omega),?_⟩
  ((conv=>whnf);repeat(refine⟨rfl,?_⟩;conv=>whnf))
  (refine ⟨by omega,(by first | omega | (simp; done) | (simp; omega) | (simp only [ll]; omega)),?_⟩; ((conv=>whnf);repeat(refine⟨rfl,?_⟩;conv=>whnf)))
  refine ⟨_,zhq (l:=M) (k:=n) (by omega) q0,?_⟩
  ((conv=>whnf);repeat(refine⟨rfl,?_⟩;conv=>whnf))
  refine ⟨by omega,_,zbx (g:=A.next) (k:=(M.getD n (0,0)).2.toNat) (by omega) (by omega),?_⟩
  ((conv=>whnf);repeat(refine⟨rfl,?_⟩;conv=>whnf))
  unfold zke znk at hC
  have hgd:=zgg (o:=[]) hMg hnx.1
  generalize nxE W A (M.getD n (0,0)) = ps at *
  generalize eAdd ps M [] = Q at *
  obtain ⟨M',o⟩:=Q
  dsimp only at *
  (refine .inr (.inr (.inr (.inl ⟨_,_,by simp [zae,zak,zbg,AObj.under,zai],by simp [zae,zak,zbg,AObj.under,zai],hC,?_⟩))); ((conv=>whnf);repeat(refine⟨rfl,?_⟩;conv=>whnf)))
  refine ⟨(by unfold zaj; simp only [ll]; omega),?_⟩
  ((conv=>whnf);repeat(refine⟨rfl,?_⟩;conv=>whnf))
  (refine .inl ⟨by (unfold InR; rw [IntKind.wrap_i64]; omega),?_⟩; ((conv=>whnf);repeat(refine⟨rfl,?_⟩;conv=>whnf)))
  refine ⟨(n + 1,M',T ++ [o]),⟨hNx,hgd,by rw [show W.next.length * A.next.length + 2 - (n + 1) = W.next.length * A.next.length + 1 - n by omega]; exact hF⟩,by dsimp only; omega,?_⟩
  dsimp only
  rw [show (T ++ [o]).length = T.length + 1 by simp]
  (refine zal 7 (by simp) rfl ?_ ?_ <;> (repeat' (first | exact trivial | exact rfl | exact DeepM.refl _ | exact DeepML.refl _ | exact DeepMLL.refl _ | refine And.intro ?_ ?_ | (simp [zai,zae,zak,-List.map_take,-List.map_drop]; done))))
  all_goals first | exact zad _ hpW | exact zad _ hpA | exact zah (zly rfl) | (simp [zaf _ (zcQ _)]; done) | skip
 ·have q0 : ¬ n < M.length:=by ((try simp only[oo,reduceCtorEq]at*)<;>omega)
  rw [if_neg q0] at hF
  obtain ⟨hNF,hg2,hfi,hfl,hst⟩:=hRR M T hF.symm
  obtain ⟨hTn,hTF⟩:=hNF.fits h hg2
  have hin:=hNF.inG
  rw [← hF]
  have hTM:=hNF.len
  have hSe:=em_sets h.two M (by omega) hg2 T fr
  rw [← hTM] at hSe
  have hFl : (zdY W A M).length≤1000:=by unfold zdY; rw [List.length_append,zff (Nat.le_refl _),zff (Nat.le_refl _)]; omega
  have hfr : znc W A M T fr = if pE T (zdY W A M) < 0 then .tup [.agg [zaD [],zaD []],.sc (.bool false),.sc (.int .i64 0)] else
    .tup [.agg [zaD (zgW M ((zct T (zdY W A M) fr).take ((zct T (zdY W A M) fr).length - 1))),zaD (zgW M (rndE T (zdY W A M) (lastE (zct T (zdY W A M) fr)).toNat))],.sc (.bool true),.sc (.int .i64 0)]:=rfl
  have hps:=zdm W A M T fr
  generalize zdY W A M = F at *
  have hGo:=em_good W A M T hTM fr (by omega) hin hTF F hFl
  rw [show idxF (fun b=>true == b) ((List.range T.length).map (zfA T F)) = pE T F from rfl] at hGo
  have hst:=hst F
  refine zaA (zej (fun i=>i == 4 || i == 5 || i == 6) (env':=[(4,.loc 2 0),(9,.ipt (sdat W A M T fr))]) (H':=[.row true [zaD W.start,zbe W.next,dlet W.label,zbe W.fair],.row true [zaD A.start,zbe A.next,dlet A.must,dlet A.nots,zbe A.fair],.row true [nilV,nilV],.mapo true (zew Tryz.prog 78 (fP M)),.row false (znk 3 W A M.length T.length (zaD fr)),.vec false M.length 2 (zgQ M),.vec false T.length 1 (zba T)])
   ⟨.refl _,.loc _ _ _ _ _ rfl rfl (.cons _ _ _ _ (.refl _) (.cons _ _ _ _ (.refl _) (.cons _ _ _ _ (.refl _) (.cons _ _ _ _ (.refl _) (.cons _ _ _ _ (.refl _) (.cons _ _ _ _ (.refl _) (.cons _ _ _ _ (.refl _) (.cons _ _ _ _ (.refl _) (.cons _ _ _ _ (.refl _) (.cons _ _ _ _ (.junk _) (.cons _ _ _ _ (.own _ _ _ _ _ _ _ _ rfl rfl (zah (zav (by simp)))) (.cons _ _ _ _ (.own _ _ _ _ _ _ _ _ rfl rfl (zah (zav (by simp)))) (.refl _))))))))))))),trivial⟩
   ⟨⟨.inl rfl,fun h=>absurd h (by decide),.refl _⟩,⟨.inl rfl,fun h=>absurd h (by decide),.refl _⟩,⟨.inl rfl,fun h=>absurd h (by decide),.refl _⟩,⟨.inl rfl,fun h=>absurd h (by decide),rfl⟩,⟨.inr ⟨rfl,rfl⟩,fun _=>rfl,.refl _⟩,⟨.inr ⟨rfl,rfl⟩,fun _=>rfl,rfl,rfl,.refl _⟩,⟨.inr ⟨rfl,rfl⟩,fun _=>rfl,rfl,rfl,.refl _⟩,trivial⟩) ?_
  have hSp:=zpd T (by omega) hin hTF
  unfold sdat at hSe hGo
  unfold sdat znk
  (apply zac; focus (repeat' constructor))
  ((conv=>whnf);repeat(refine⟨rfl,?_⟩;conv=>whnf))
  (refine .inl ⟨_,hSp,?_⟩; ((conv=>whnf);repeat(refine⟨rfl,?_⟩;conv=>whnf)))
  (refine .inl ⟨_,hSe,?_⟩; ((conv=>whnf);repeat(refine⟨rfl,?_⟩;conv=>whnf)))
  (refine .inl ⟨_,hGo,?_⟩; ((conv=>whnf);repeat(refine⟨rfl,?_⟩;conv=>whnf)))
  rw [hfr]
  (refine zab (fun p0=>?_) (fun p0=>?_) <;> (rw [p0]; ((conv=>whnf);repeat(refine⟨rfl,?_⟩;conv=>whnf))))
  ·have p0 : pE T F < 0:=of_decide_eq_true p0
   rw [if_pos p0]
   exact .tup _ _ (.cons _ _ _ _ (.agg _ _ (.cons _ _ _ _ (.none _) (.cons _ _ _ _ (.none _) .nil))) (.cons _ _ _ _ (.refl _) (.cons _ _ _ _ (.refl _) .nil)))
  ·have p0 : ¬ pE T F < 0:=of_decide_eq_false p0
   rw [if_neg p0]
   obtain ⟨s1,s2,s3,s4⟩:=hst p0
   have hsn:=List.length_pos_iff.2 s3
   have hlE:=zaN s1 (zkc s3)
   have hWy:=em_way W A M T fr (by omega) hin hTF (fun k=>partsG T k == pE T F) 45 [.ipt [zaD (zdp T)],.ipt [.sc (.int .i64 (pE T F))]] (by simp [zao,Pure,zam]) (fun x h1 h2=>znE T (pE T F) x h1 h2) fr (by omega) hfi (-1)
   rw [show wayE T (fun k=>partsG T k == pE T F) (okP T (-1)) fr = zct T F fr from rfl] at hWy
   have hRd:=em_round W A M T fr (by omega) hTF F hFl (lastE (zct T F fr)).toNat s4
   rw [show (((lastE (zct T F fr)).toNat : Nat) : Int) = lastE (zct T F fr) by omega] at hRd
   obtain ⟨r1,r2⟩:=rndE_ok s4
   have hS1:=zkq W A M T fr ((zct T F fr).take ((zct T F fr).length - 1)) (by rw [List.length_take]; omega) (by rw [← hTM]; exact zdP fun x hx=>zaN s1 (List.mem_of_mem_take hx))
   have hrl : (rndE T F (lastE (zct T F fr)).toNat).length≤1000000000000:=by
    have:=Nat.mul_le_mul hFl hTn
    omega
   have hS2:=zkq W A M T fr (rndE T F (lastE (zct T F fr)).toNat) hrl (by rw [← hTM]; exact r1)
   rw [show ((zct T F fr).take ((zct T F fr).length - 1)).map (fun n=>(M.getD n.toNat (0,0)).1) = zgW M ((zct T F fr).take ((zct T F fr).length - 1)) from rfl] at hS1
   rw [show (rndE T F (lastE (zct T F fr)).toNat).map (fun n=>(M.getD n.toNat (0,0)).1) = zgW M (rndE T F (lastE (zct T F fr)).toNat) from rfl] at hS2
   generalize rndE T F (lastE (zct T F fr)).toNat = rnd at *
   generalize zct T F fr = st at *
   generalize pE T F = p at *
   unfold sdat at hWy hRd hS1 hS2 hps
   ((conv=>whnf);repeat(refine⟨rfl,?_⟩;conv=>whnf))
   (refine .inr (.inr (.inr (.inr (.inl ⟨_,_,_,(zf1 (args0:=[.ipt [zaD W.start,zbe W.next,dlet W.label,zbe W.fair,zaD A.start,zbe A.next,dlet A.must,dlet A.nots,zbe A.fair,.junk,zg3 M,zbe T,zaD fr],zaD fr,.fn (.func 45) [] [.loc 0 0,.loc 1 0],zaD (zdp T),.sc (.int .i64 (-1))]) (H0:=[.row true [zaD (zdp T)],.row true [.sc (.int .i64 p)]])
    (.cons _ _ _ _ (.refl _) (.cons _ _ _ _ (.refl _) (.cons _ _ _ _ (.fn _ _ _ _ _ .nil (.cons _ _ _ _ (.loc _ _ _ _ _ rfl (zc4 _)) (.cons _ _ _ _ (.loc _ _ _ _ _ rfl (zc4 _)) .nil))) (.cons _ _ _ _ (.refl _) (.cons _ _ _ _ (.refl _) .nil))))) hWy (zam _) [7,8] rfl (by decide) ⟨zaf _ (zd1 hps),zaf _ (zam _),by simp [zae,zai],zaf _ (zam _),trivial,trivial⟩ ⟨zad _ ⟨zam _,trivial⟩,zad _ ⟨trivial,trivial⟩,trivial⟩ (by simp only [renL,D.ren,zb9,zkz,zj1,zbE _ (zfM _)]; rfl) (fun i o ho=>by
     rcases i with _ | _ | i
     ·simp at ho; subst ho; simp only [AObj.ren,renL,zb9]; rfl
     ·simp at ho; subst ho; rfl
     ·simp at ho)),?_⟩)))); ((conv=>whnf);repeat(refine⟨rfl,?_⟩;conv=>whnf)))
   rw [List.length_map]
   (refine .inl ⟨by (unfold InR; rw [IntKind.wrap_i64]; omega),?_⟩; ((conv=>whnf);repeat(refine⟨rfl,?_⟩;conv=>whnf)))
   refine ⟨by omega,_,zaW (l:=st) (k:=st.length - 1) (by omega) (by omega),?_⟩
   ((conv=>whnf);repeat(refine⟨rfl,?_⟩;conv=>whnf))
   rw [show st.getD (st.length - 1) 0 = lastE st from rfl,show D.ren (fun i=>[7,8].getD i 0) (zaD (zdp T)) = zaD (zdp T) from zb9 _]
   (refine .inl ⟨_,hRd,?_⟩; ((conv=>whnf);repeat(refine⟨rfl,?_⟩;conv=>whnf)))
   rw [List.length_map]
   (refine .inl ⟨by (unfold InR; rw [IntKind.wrap_i64]; omega),?_⟩; ((conv=>whnf);repeat(refine⟨rfl,?_⟩;conv=>whnf)))
   refine ⟨by omega,by omega,by simp,?_⟩
   ((conv=>whnf);repeat(refine⟨rfl,?_⟩;conv=>whnf))
   rw [show (D.lst 1 (List.drop 0 (List.take (((st.length : Nat) : Int) - 1).toNat (List.map (fun n=>[D.sc (Value.int .i64 n)]) st)))) = zaD (st.take (st.length - 1)) by
    rw [show (((st.length : Nat) : Int) - 1).toNat = st.length - 1 by omega,List.drop_zero,← List.map_take]; rfl]
   (refine .inl ⟨_,hS1,?_⟩; ((conv=>whnf);repeat(refine⟨rfl,?_⟩;conv=>whnf)))
   (refine .inl ⟨_,hS2,?_⟩; ((conv=>whnf);repeat(refine⟨rfl,?_⟩;conv=>whnf)))
   exact .refl _
end
end
section
open Go.RowKit
def c22_1 : PC:=.seq (.seq (.ops [qm 9 6,qm 10 0,q 11 (.len (.tmp 10)),q 12 (.bin .lss (.tmp 9) (.tmp 11))] false) (.cond (.tmp 12) (.skip) (.exit 0))) (.seq (.block 1 (.ops [qm 15 5,qm 16 0,qm 17 6,q 18 (.iaddr 1 (.tmp 16) (.tmp 17)),q 19 (.load1 (.tmp 18)),q 20 (.iaddr 1 (.tmp 15) (.tmp 19)),qn (.store 1 (.tmp 20) (.const (.bool true)))] false)) (.ops [qm 13 6,q 14 (.bin .add (.tmp 13) (.const (.int .i64 1))),qm 6 14] false))
def c22 : PC:=.seq (.ops [q 4 (.move (.const (.slice none 0 0)))] false) (.seq (.ops [qm 7 1,q 8 (.mslice 1 1 [(.bool false)] (.tmp 7) (.tmp 7)),qm 5 8] false) (.seq (.seq (.ops [q 6 (.move (.const (.int .i64 0)))] false) (.block 0 (.loop c22_1))) (.seq (.ops [qm 21 5,qm 4 21] false) (.ret))))
theorem c22_ok : FunOK Tryz.prog 22 22 [.tmp 4] c22:=⟨⟨Tryz.f22,Tryz.func22,rfl,by kernel_rfl,rfl,by kernel_rfl⟩⟩
theorem zni (l : List Int) (n : Nat) (hn : n≤1000000) (hl : l.length≤17592186043904) (hi : inB l n = true) : PCall Tryz.prog 22 [zaD l,.sc (.int .i64 n)] (dbl n (setB l)):=by
 refine zag c22_ok (by simp) (by simp [zao,Pure,zam]) ?_ (zbM _ _)
 (apply zac; focus (repeat' constructor))
 ((conv=>whnf);repeat(refine⟨rfl,?_⟩;conv=>whnf))
 refine ⟨by omega,by omega,by omega,?_⟩
 rw [Int.toNat_natCast,show List.map D.sc [Value.bool false] = [D.sc (.bool false)] from rfl,zdT]
 ((conv=>whnf);repeat(refine⟨rfl,?_⟩;conv=>whnf))
 refine zaT [0,5] (fun k : Nat=>[(6,.sc (.int .i64 k))]) (fun k=>[(0,.vec true 0 1 (rbl n (setB (l.take k))))]) (fun k=>k≤l.length) (fun k=>l.length - k) 0 ?_
 ((conv=>whnf);repeat(refine⟨rfl,?_⟩;conv=>whnf))
 refine ⟨by omega,by (repeat' (first | exact trivial | refine And.intro rfl ?_)),rfl,?_⟩
 rintro k hk
 ((conv=>whnf);repeat(refine⟨rfl,?_⟩;conv=>whnf))
 (apply zac; focus (repeat' constructor))
 ((conv=>whnf);repeat(refine⟨rfl,?_⟩;conv=>whnf))
 rw [List.length_map]
 (refine zab (fun q0=>?_) (fun q0=>?_) <;> (rw [q0]; ((conv=>whnf);repeat(refine⟨rfl,?_⟩;conv=>whnf))))
 ·have q0 : k < l.length:=by ((try simp only[oo,reduceCtorEq]at*)<;>omega)
  have hx:=zaN hi (zaM q0)
  have eS : ∀ v,setB (l.take (k + 1)) v = (setB (l.take k) v || (l.getD k 0 == (v : Int))):=fun v=>by
   unfold setB
   rw [List.take_add_one,List.getElem?_eq_getElem q0,List.getD_eq_getElem?_getD,List.getElem?_eq_getElem q0]
   rw [Bool.eq_iff_iff,Bool.or_eq_true,List.contains_iff_mem,List.contains_iff_mem,List.mem_append,beq_iff_eq]
   simp only [Option.toList_some,List.mem_singleton,Option.getD_some]
   exact or_congr_right eq_comm
  refine ⟨by omega,_,zaW (l:=l) (k:=k) (by omega) q0,?_⟩
  ((conv=>whnf);repeat(refine⟨rfl,?_⟩;conv=>whnf))
  generalize l.getD k 0 = x at *
  (refine ⟨by omega,(by first | omega | (simp; done) | (simp; omega) | (simp only [ll]; omega)),?_⟩; ((conv=>whnf);repeat(refine⟨rfl,?_⟩;conv=>whnf)))
  refine ⟨_,zay x.toNat (by omega) (by omega),?_⟩
  ((conv=>whnf);repeat(refine⟨rfl,?_⟩;conv=>whnf))
  (refine .inl ⟨by (unfold InR; rw [IntKind.wrap_i64]; omega),?_⟩; ((conv=>whnf);repeat(refine⟨rfl,?_⟩;conv=>whnf)))
  refine ⟨k + 1,by omega,by dsimp only; omega,zan (by (repeat' (first | exact trivial | refine And.intro rfl ?_))) ?_⟩
  rw [zfP (i:=x.toNat) (f':=setB (l.take (k + 1))) (by omega) fun v _=>by
   rw [eS]
   by_cases e : v = x.toNat
   ·rw [if_pos e,show (x == (v : Int)) = true by rw [beq_iff_eq]; omega,Bool.or_true]
   ·rw [if_neg e,show (x == (v : Int)) = false by rw [beq_eq_false_iff_ne]; omega,Bool.or_false]]
  rfl
 have q0 : k = l.length:=by have : ¬ k < l.length:=by ((try simp only[oo,reduceCtorEq]at*)<;>omega)
                            omega
 subst q0
 rw [List.take_length]
 exact zjV rfl
def sgrid (n : Nat) (F : List (List Int)) : List (List D):=F.map fun l=>[dbl n (setB l)]
theorem zm4 (n : Nat) (F : List (List Int)) : zbd (sgrid n F):=zas _ (fun l=>by simp [zao,zbM]) F
@[simp] theorem underLL_sgrid {m n : Nat} (F : List (List Int)) : zak m (sgrid n F)↔True:=⟨fun _=>trivial,fun _=>zaa _ (zm4 n F)⟩
@[simp] theorem sgrid_len (n : Nat) (F : List (List Int)) : (sgrid n F).length = F.length:=by simp [sgrid]
theorem znK (g : List (List Int)) (hn : g.length≤1000000) (hin0 : ∀ l∈g,inB l g.length = true) (hF : FitsG g) (F : List (Nat→Bool)) (hFl : F.length≤1000000) : PCall Tryz.prog 25 [zbe g,dbls g.length F] (dbl g.length (fwB g F)):=by
 by_cases h : F = []
 ·subst h; exact zof g hn hin0 hF
 ·exact ref_Ways g hn hin0 hF F hFl h
end
section
section
open Go.RowKit
def zbX (m : Nat) (p : Pr) : Nat:=p.1.toNat * m + p.2.toNat
def prE (m c : Nat) : Pr:=(((c / m : Nat) : Int),((c % m : Nat) : Int))
def rowC (W : WorldD) (A : AutoD) (c : Nat) : List Int:=(nxE W A (prE A.next.length c)).map fun q=>(zbX A.next.length q : Int)
section
variable {W : WorldD} {A : AutoD}
theorem zeW {p : Pr} (h : GoodE W A p) : zbX A.next.length p < W.next.length * A.next.length:=by
 obtain ⟨⟨a,b⟩,c,d⟩:=h
 have : (p.1.toNat + 1) * A.next.length≤W.next.length * A.next.length:=Nat.mul_le_mul_right _ (by omega)
 rw [Nat.add_mul,Nat.one_mul] at this
 unfold zbX; omega
theorem zlU {p : Pr} (h : GoodE W A p) : zbX A.next.length p / A.next.length = p.1.toNat∧zbX A.next.length p % A.next.length = p.2.toNat:=by
 obtain ⟨⟨a,b⟩,c,d⟩:=h
 unfold zbX
 constructor
 ·rw [Nat.mul_comm,Nat.mul_add_div (by omega),Nat.div_eq_of_lt (by omega)]; rfl
 ·rw [Nat.mul_comm,Nat.mul_add_mod,Nat.mod_eq_of_lt (by omega)]
theorem zld {p : Pr} (h : GoodE W A p) : prE A.next.length (zbX A.next.length p) = p:=by
 obtain ⟨h1,h2⟩:=zlU h
 obtain ⟨⟨a,b⟩,c,d⟩:=h
 unfold prE
 rw [h1,h2]
 exact Prod.ext (by dsimp only; omega) (by dsimp only; omega)
theorem pr_good {c : Nat} (h : c < W.next.length * A.next.length) : GoodE W A (prE A.next.length c)∧zbX A.next.length (prE A.next.length c) = c:=by
 have hm : 0 < A.next.length:=by
  rcases Nat.eq_zero_or_pos A.next.length with e | e
  ·rw [e,Nat.mul_zero] at h; omega
  ·exact e
 have h1 : c / A.next.length < W.next.length:=Nat.div_lt_of_lt_mul (by rw [Nat.mul_comm]; exact h)
 have h2:=Nat.mod_lt c hm
 unfold prE zbX GoodE
 dsimp only
 refine ⟨⟨⟨Int.natCast_nonneg _,Int.ofNat_lt.2 h1⟩,Int.natCast_nonneg _,Int.ofNat_lt.2 h2⟩,?_⟩
 rw [Int.toNat_natCast,Int.toNat_natCast,Nat.mul_comm]
 exact Nat.div_add_mod c A.next.length
structure ThI (W : WorldD) (A : AutoD) (S : Nat→Bool) (R : List (List Int)) (Tq : List Int) (p : Nat) (o : List Int) : Prop where
 len : R.length = W.next.length * A.next.length
 rng : ∀ c,S c = true→c < W.next.length * A.next.length
 tq : ∀ x∈Tq,0≤x∧S x.toNat = true
 nd : Tq.Nodup
 cur : p < W.next.length * A.next.length→R.getD p [] = o∧S p = true∧¬ (p : Int)∈Tq
 dn : ∀ c,S c = true→¬ (c : Int)∈Tq→c≠p→R.getD c [] = rowC W A c∧∀ y∈rowC W A c,S y.toNat = true
 un : ∀ c,c≠p→(S c = false∨(c : Int)∈Tq)→R.getD c [] = []
variable {S : Nat→Bool} {R : List (List Int)} {Tq : List Int} {p : Nat} {o : List Int}
theorem ThI.begin : ThI W A (fun _=>false) (List.replicate (W.next.length * A.next.length) []) [] (W.next.length * A.next.length) [] where
 len:=by simp
 rng c h:=by cases h
 tq x h:=by cases h
 nd:=.nil
 cur h:=by omega
 dn c h:=by cases h
 un c _ _:=by
  rw [List.getD_eq_getElem?_getD,List.getElem?_replicate]
  split <;> rfl
theorem markE_iff {s : Nat→Bool} {c v : Nat} : mark s c v = true↔s v = true∨v = c:=by
 unfold mark
 by_cases e : v = c
 ·simp [e]
 ·simp [e]
theorem ThI.add (h : ThI W A S R Tq p o) {c : Nat} (hc : S c = false) (hl : c < W.next.length * A.next.length) : ThI W A (mark S c) R (Tq ++ [(c : Int)]) p o where
 len:=h.len
 rng v hv:=(markE_iff.1 hv).elim (h.rng v) (fun e=>e ▸ hl)
 tq x hx:=by
  rcases List.mem_append.1 hx with q | q
  ·exact ⟨(h.tq x q).1,markE_iff.2 (.inl (h.tq x q).2)⟩
  ·rw [List.mem_singleton] at q; subst q
   exact ⟨by omega,markE_iff.2 (.inr (by omega))⟩
 nd:=by
  rw [List.nodup_append]
  refine ⟨h.nd,by simp,fun a ha b hb=>?_⟩
  rw [List.mem_singleton] at hb; subst hb
  intro e; subst e
  have:=(h.tq _ ha).2
  rw [Int.toNat_natCast,hc] at this; cases this
 cur hp:=by
  obtain ⟨a,b,d⟩:=h.cur hp
  refine ⟨a,markE_iff.2 (.inl b),fun q=>?_⟩
  rcases List.mem_append.1 q with q | q
  ·exact d q
  ·rw [List.mem_singleton] at q
   have : p = c:=by omega
   subst this; rw [hc] at b; cases b
 dn v hv hn hp:=by
  rcases markE_iff.1 hv with q | q
  ·obtain ⟨a,b⟩:=h.dn v q (fun z=>hn (List.mem_append.2 (.inl z))) hp
   exact ⟨a,fun y hy=>markE_iff.2 (.inl (b y hy))⟩
  ·subst q; exact absurd (List.mem_append.2 (.inr (by simp))) hn
 un v hp hv:=by
  by_cases e : v = c
  ·subst e; exact h.un v hp (.inl hc)
  ·refine h.un v hp ?_
   rcases hv with q | q
   ·left
    cases z : S v
    ·rfl
    ·rw [markE_iff.2 (.inl z)] at q; cases q
   ·rcases List.mem_append.1 q with q | q
    ·exact .inr q
    ·rw [List.mem_singleton] at q; omega
theorem ThI.pop {x : Int} (h : ThI W A S R (x :: Tq) (W.next.length * A.next.length) []) : ThI W A S R Tq x.toNat []∧0≤x∧x.toNat < W.next.length * A.next.length:=by
 have hx:=h.tq x (by simp)
 have hl:=h.rng _ hx.2
 have hnd:=List.nodup_cons.1 h.nd
 refine ⟨⟨h.len,h.rng,fun y hy=>h.tq y (by simp [hy]),hnd.2,fun _=>⟨h.un _ (by omega) (.inr (by rw [show ((x.toNat : Nat) : Int) = x by omega]; simp)),hx.2,by rw [show ((x.toNat : Nat) : Int) = x by omega]; exact hnd.1⟩,fun c hc hn hp=>?_,fun c hp hc=>?_⟩,hx.1,hl⟩
 ·refine h.dn c hc (fun q=>?_) (by have:=h.rng c hc; omega)
  rcases List.mem_cons.1 q with q | q
  ·omega
  ·exact hn q
 ·by_cases e : c = W.next.length * A.next.length
  ·rw [List.getD_eq_getElem?_getD,List.getElem?_eq_none (by rw [h.len]; omega)]; rfl
  ·exact h.un c e (hc.imp_right fun q=>by simp [q])
theorem ThI.put (h : ThI W A S R Tq p o) (hp : p < W.next.length * A.next.length) (o' : List Int) : ThI W A S (R.set p o') Tq p o':=by
 have hg : ∀ c,c≠p→(R.set p o').getD c [] = R.getD c []:=fun c e=>by rw [zlM (by rw [h.len]; exact hp),if_neg e]
 refine ⟨by rw [List.length_set]; exact h.len,h.rng,h.tq,h.nd,fun _=>⟨by rw [zlM (by rw [h.len]; exact hp),if_pos rfl],(h.cur hp).2⟩,fun c hc hn e=>?_,fun c e hc=>?_⟩
 ·rw [hg c e]; exact h.dn c hc hn e
 ·rw [hg c e]; exact h.un c e hc
theorem ThI.fin (h : ThI W A S R Tq p (rowC W A p)) (hp : p < W.next.length * A.next.length) (hs : ∀ y∈rowC W A p,S y.toNat = true) : ThI W A S R Tq (W.next.length * A.next.length) [] where
 len:=h.len
 rng:=h.rng
 tq:=h.tq
 nd:=h.nd
 cur q:=by omega
 dn c hc hn _:=by
  by_cases e : c = p
  ·subst e; exact ⟨(h.cur hp).1,hs⟩
  ·exact h.dn c hc hn e
 un c e hc:=by
  by_cases e2 : c = p
  ·subst e2
   obtain ⟨_,a,b⟩:=h.cur hp
   rcases hc with q | q
   ·rw [a] at q; cases q
   ·exact absurd q b
  ·exact h.un c e2 hc
theorem ThI.rows {start : List Pr} {L : List Pr} {G : List (List Int)} (hN : NumF start (nxE W A) L G) (hg : ∀ q∈L,GoodE W A q) (hst : ∀ q∈start,S (zbX A.next.length q) = true) (h : ThI W A S R [] (W.next.length * A.next.length) []) :
  ∀ q∈L,R.getD (zbX A.next.length q) [] = (nxE W A q).map fun z=>(zbX A.next.length z : Int):=by
 have key : ∀ j,j < L.length→S (zbX A.next.length (L.getD j (0,0))) = true:=by
  intro j
  induction j using Nat.strongRecOn with
  | ind j ih =>
   intro hj
   rcases hN.fr j hj with k | ⟨i,k1,k2⟩
   ·exact hst _ k
   ·have h1:=ih i k1 (by omega)
    have hgi:=hg _ (zbD (show i < L.length by omega))
    have h2:=(h.dn _ h1 (by simp) (by have:=zeW hgi; omega)).2 (zbX A.next.length (L.getD j (0,0)) : Int) (by
     unfold rowC; rw [zld hgi]; exact List.mem_map.2 ⟨_,k2,rfl⟩)
    simpa using h2
 intro q hq
 obtain ⟨i,hi,rfl⟩:=List.mem_iff_getElem.1 hq
 have:=key i hi
 rw [List.getD_eq_getElem?_getD,List.getElem?_eq_getElem hi] at this
 have hgi:=hg _ hq
 have h2:=(h.dn _ this (by simp) (by have:=zeW hgi; simp only [Option.getD_some]; omega)).1
 simp only [Option.getD_some] at h2
 rw [h2]
 unfold rowC
 rw [zld hgi]
theorem zn0 (hb : BigW W A) (c : Nat) : ∀ y∈rowC W A c,0≤y∧y < ((W.next.length * A.next.length : Nat) : Int):=fun y hy=>by
 obtain ⟨q,hq,rfl⟩:=List.mem_map.1 hy
 have:=zeW ((hb.next _).1 q hq)
 omega
theorem ThI.inR (hb : BigW W A) (h : ThI W A S R [] (W.next.length * A.next.length) []) : (∀ l∈R,inB l R.length = true)∧FitsG R∨17592186043904 < R.length:=by
 rcases Nat.lt_or_ge 17592186043904 R.length with q | q
 ·exact .inr q
 left
 have hrow : ∀ c,R.getD c [] = rowC W A c∨R.getD c [] = []:=fun c=>by
  by_cases e : c = W.next.length * A.next.length
  ·right; rw [List.getD_eq_getElem?_getD,List.getElem?_eq_none (by rw [h.len]; omega)]; rfl
  ·cases z : S c
   ·exact .inr (h.un c e (.inl z))
   ·exact .inl (h.dn c z (by simp) e).1
 have hmem : ∀ l∈R,∃ c,R.getD c [] = l:=fun l hl=>by
  obtain ⟨i,hi,rfl⟩:=List.mem_iff_getElem.1 hl
  exact ⟨i,by rw [List.getD_eq_getElem?_getD,List.getElem?_eq_getElem hi]; rfl⟩
 refine ⟨fun l hl=>?_,q,fun l hl=>?_⟩
 ·obtain ⟨c,rfl⟩:=hmem l hl
  rcases hrow c with e | e
  ·rw [e]; exact zdP fun y hy=>by rw [h.len]; exact zn0 hb c y hy
  ·rw [e]; rfl
 ·obtain ⟨c,rfl⟩:=hmem l hl
  rcases hrow c with e | e
  ·rw [e]; unfold rowC; rw [List.length_map]; have:=(hb.next (prE A.next.length c)).2; omega
  ·rw [e]; simp
end
end
section
open Go.RowKit
abbrev TQ:=(Nat→Bool) × List Int × Nat × Nat × Nat
def tAdd (fit : Bool) (c : Nat) (q : TQ) : TQ:=if (fit && !(q.1 c)) = true then (mark q.1 c,(q.2.1.take q.2.2.2.1).drop q.2.2.1 ++ [(c : Int)],0,q.2.2.2.1 - q.2.2.1 + 1,q.2.2.2.2 + 1) else q
def zeT (W : WorldD) (A : AutoD) (q : TQ) : List AObj :=
 [.row true A.cells,.row true W.cells,.row true [.own 4 0 0 (W.next.length * A.next.length)],.row true [.sc (.int .i64 A.next.length)],.vec true 0 1 (rbl (W.next.length * A.next.length) q.1),.row true [.own 6 q.2.2.2.2 q.2.2.1 q.2.2.2.1],.vec true q.2.2.2.2 1 (i64s q.2.1)]
theorem zg8 {W : WorldD} {A : AutoD} {q : TQ} : ∀ o∈zeT W A q,o.under 7:=by
 intro o ho
 simp only [zeT,List.mem_cons,List.not_mem_nil,or_false] at ho
 rcases ho with rfl | rfl | rfl | rfl | rfl | rfl | rfl
 ·exact zad _ (zdj A)
 ·exact zad _ (zdh W)
 ·simp [AObj.under,zae,zai]
 ·simp [AObj.under,zae,zai]
 ·exact zaa _ (zez _ _)
 ·simp [AObj.under,zae,zai]
 ·exact zaa _ (zas _ (fun _=>by simp [zao,Pure]) _)
def c19 : PC:=.seq (.ops [q 9 (.loadA 5 (.tmp 2)),qm 10 1,q 11 (.faddr 2 (.tmp 3)),qd 12 (.load1 (.tmp 11)) 4,qm 13 0,qd 14 (.iaddr 1 (.tmp 12) (.tmp 13)) 28,qd 15 (.load1 (.tmp 14)) 60,qd 16 (.call 20 [(.tmp 9),(.tmp 10),(.tmp 15)]) 127,qw 17 16 255,⟨some 18,.load1 (.tmp 4),some (17,true),511⟩,⟨some 19,.move (.tmp 0),some (17,true),511⟩,⟨some 20,.load1 (.tmp 5),some (17,true),511⟩,⟨some 21,.bin .mul (.tmp 19) (.tmp 20),some (17,true),3583⟩,⟨some 22,.move (.tmp 1),some (17,true),511⟩,⟨some 23,.bin .add (.tmp 21) (.tmp 22),some (17,true),15871⟩,⟨some 24,.iaddr 1 (.tmp 18) (.tmp 23),some (17,true),32767⟩,⟨some 25,.load1 (.tmp 24),some (17,true),65535⟩,⟨some 26,.un .not (.tmp 25),some (17,true),131071⟩,qd 27 (.pick (.tmp 17) (.tmp 26) (.const (.bool false))) 262143] true) (.cond (.tmp 27) (.seq (.ops [q 28 (.load1 (.tmp 4)),qm 29 0,q 30 (.load1 (.tmp 5)),q 31 (.bin .mul (.tmp 29) (.tmp 30)),qm 32 1,q 33 (.bin .add (.tmp 31) (.tmp 32)),q 34 (.iaddr 1 (.tmp 28) (.tmp 33)),qn (.store 1 (.tmp 34) (.const (.bool true)))] false) (.ops [q 35 (.load1 (.tmp 6)),qm 36 0,q 37 (.load1 (.tmp 5)),q 38 (.bin .mul (.tmp 36) (.tmp 37)),qm 39 1,q 40 (.bin .add (.tmp 38) (.tmp 39)),q 41 (.bslice 1 1 [(.tmp 40)]),q 42 (.append 1 8 (.tmp 35) (.tmp 41)),qn (.store 1 (.tmp 6) (.tmp 42))] false)) (.skip))
theorem c19_ok : FunOK Tryz.prog 19 43 [] c19:=⟨⟨Tryz.f19,Tryz.func19,rfl,by kernel_rfl,rfl,by kernel_rfl⟩⟩
theorem em_tadd {W : WorldD} {A : AutoD} (hWA : TwoW W A) (hNM : W.next.length * A.next.length≤4000) (hM : Lett A.must) (x y : Int) (hg : GoodE W A (x,y)) (q : TQ) (h1 : q.2.2.1≤q.2.2.2.1) (h2 : q.2.2.2.1≤q.2.1.length) (h3 : q.2.1.length≤1000000000) :
  ACall Tryz.prog 19 [.sc (.int .i64 x),.sc (.int .i64 y),.loc 0 0,.loc 1 0,.loc 2 0,.loc 3 0,.loc 5 0] (zeT W A q) (.tup []) (zeT W A (tAdd (fitE W A (x,y)) (zbX A.next.length (x,y)) q)):=by
 generalize hQ : tAdd (fitE W A (x,y)) (zbX A.next.length (x,y)) q = Q
 obtain ⟨S,Z,lo,hi,ver⟩:=q
 dsimp only at h1 h2 h3
 have hcl:=zeW hg
 obtain ⟨⟨g1,g2⟩,g3,g4⟩:=hg
 dsimp only at g1 g2 g3 g4
 obtain ⟨hlab,_⟩:=zcP W hWA.cw
 obtain ⟨hm,hn,_⟩:=zdy A hWA.ca
 have hL:=ziR A hm hn hM y.toNat (by omega) (W.label.getD x.toNat 0)
 rw [show ((y.toNat : Nat) : Int) = y by omega] at hL
 refine zb4 c19_ok (by simp) (by simp [zeT]) ?_ (by simp [zai,zae]) zg8
 have ef : fitE W A (x,y) = zhj A y.toNat (W.label.getD x.toNat 0):=rfl
 rw [← ef] at hL
 have ec : zbX A.next.length (x,y) = x.toNat * A.next.length + y.toNat:=rfl
 have emul : x * (A.next.length : Int) = ((x.toNat * A.next.length : Nat) : Int):=by rw [Int.natCast_mul,Int.toNat_of_nonneg g1]
 generalize zbX A.next.length (x,y) = c at *
 generalize fitE W A (x,y) = fit at *
 generalize hk : x.toNat * A.next.length = k at *
 unfold zeT WorldD.cells AutoD.cells
 unfold zeh AutoD.cells at hL
 generalize W.next.length * A.next.length = NM at *
 unfold tAdd at hQ
 dsimp only at hQ ⊢
 (apply zac; focus (repeat' constructor))
 ((conv=>whnf);repeat(refine⟨rfl,?_⟩;conv=>whnf))
 refine ⟨by omega,_,ze2 (l:=W.label) (k:=x.toNat) (by omega) (by omega),?_⟩
 ((conv=>whnf);repeat(refine⟨rfl,?_⟩;conv=>whnf))
 (refine .inl ⟨_,hL,?_⟩; ((conv=>whnf);repeat(refine⟨rfl,?_⟩;conv=>whnf)))
 cases fit
 ·rw [if_neg (by simp)] at hQ
  subst hQ
  ((conv=>whnf);repeat(refine⟨rfl,?_⟩;conv=>whnf))
  simp
 ((conv=>whnf);repeat(refine⟨rfl,?_⟩;conv=>whnf))
 rw [emul]
 (refine .inl ⟨by (unfold InR; rw [IntKind.wrap_i64]; omega),?_⟩; ((conv=>whnf);repeat(refine⟨rfl,?_⟩;conv=>whnf)))
 (refine .inl ⟨by (unfold InR; rw [IntKind.wrap_i64]; omega),?_⟩; ((conv=>whnf);repeat(refine⟨rfl,?_⟩;conv=>whnf)))
 (refine ⟨by omega,(by first | omega | (simp; done) | (simp; omega) | (simp only [ll]; omega)),?_⟩; ((conv=>whnf);repeat(refine⟨rfl,?_⟩;conv=>whnf)))
 refine ⟨_,zay c (by omega) (by omega),?_⟩
 ((conv=>whnf);repeat(refine⟨rfl,?_⟩;conv=>whnf))
 cases r : S c
 ·rw [if_pos (by rw [r]; rfl)] at hQ
  subst hQ
  ((conv=>whnf);repeat(refine⟨rfl,?_⟩;conv=>whnf))
  rw [emul]
  (refine .inl ⟨by (unfold InR; rw [IntKind.wrap_i64]; omega),?_⟩; ((conv=>whnf);repeat(refine⟨rfl,?_⟩;conv=>whnf)))
  (refine .inl ⟨by (unfold InR; rw [IntKind.wrap_i64]; omega),?_⟩; ((conv=>whnf);repeat(refine⟨rfl,?_⟩;conv=>whnf)))
  (refine ⟨by omega,(by first | omega | (simp; done) | (simp; omega) | (simp only [ll]; omega)),?_⟩; ((conv=>whnf);repeat(refine⟨rfl,?_⟩;conv=>whnf)))
  refine ⟨_,zay c (by omega) (by omega),?_⟩
  ((conv=>whnf);repeat(refine⟨rfl,?_⟩;conv=>whnf))
  (refine .inl ⟨by (unfold InR; rw [IntKind.wrap_i64]; omega),?_⟩; ((conv=>whnf);repeat(refine⟨rfl,?_⟩;conv=>whnf)))
  (refine .inl ⟨by (unfold InR; rw [IntKind.wrap_i64]; omega),?_⟩; ((conv=>whnf);repeat(refine⟨rfl,?_⟩;conv=>whnf)))
  refine ⟨(by unfold zaj; simp only [ll]; omega),?_⟩
  ((conv=>whnf);repeat(refine⟨rfl,?_⟩;conv=>whnf))
  refine ⟨?_,by simp⟩
  rw [show x * (A.next.length : Int) + y = (c : Int) by rw [emul]; omega,show 0 + ((k : Int) + y).toNat = c by omega,zgr (v:=c) rfl,← zdF (Z:=Z) (lo:=lo) (hi:=hi) (k:=(c : Int))]
  rfl
 ·rw [if_neg (by rw [r]; decide)] at hQ
  subst hQ
  ((conv=>whnf);repeat(refine⟨rfl,?_⟩;conv=>whnf))
  simp
def c23 : PC:=.seq (.ops [q 3 (.move (.const (.int .i64 0)))] false) (.seq (.ops [qm 4 0,q 5 (.load1 (.tmp 1)),q 6 (.bin .quo (.tmp 4) (.tmp 5)),qm 3 6] false) (.ret))
theorem c23_ok : FunOK Tryz.prog 23 7 [.tmp 3] c23:=⟨⟨Tryz.f23,Tryz.func23,rfl,by kernel_rfl,rfl,by kernel_rfl⟩⟩
def c24 : PC:=.seq (.ops [q 3 (.move (.const (.int .i64 0)))] false) (.seq (.ops [qm 4 0,q 5 (.load1 (.tmp 1)),q 6 (.bin .rem (.tmp 4) (.tmp 5)),qm 3 6] false) (.ret))
theorem c24_ok : FunOK Tryz.prog 24 7 [.tmp 3] c24:=⟨⟨Tryz.f24,Tryz.func24,rfl,by kernel_rfl,rfl,by kernel_rfl⟩⟩
theorem em_quo (m : Nat) (hm : 0 < m) (c : Nat) (hc : c≤1000000) : PCall Tryz.prog 23 [.sc (.int .i64 c),.ipt [.sc (.int .i64 m)]] (.sc (.int .i64 ((c / m : Nat) : Int))):=by
 refine zag c23_ok (by simp) (by simp [zao,Pure]) ?_ (by simp [Pure])
 (apply zac; focus (repeat' constructor))
 ((conv=>whnf);repeat(refine⟨rfl,?_⟩;conv=>whnf))
 refine ⟨by omega,?_⟩
 rw [← Int.ofNat_tdiv]
 have:=Nat.div_le_self c m
 generalize c / m = k at *
 (refine .inl ⟨by (unfold InR; rw [IntKind.wrap_i64]; omega),?_⟩; ((conv=>whnf);repeat(refine⟨rfl,?_⟩;conv=>whnf)))
 exact .refl _
theorem em_rem (m : Nat) (hm : 0 < m) (c : Nat) (hc : c≤1000000) : PCall Tryz.prog 24 [.sc (.int .i64 c),.ipt [.sc (.int .i64 m)]] (.sc (.int .i64 ((c % m : Nat) : Int))):=by
 refine zag c24_ok (by simp) (by simp [zao,Pure]) ?_ (by simp [Pure])
 (apply zac; focus (repeat' constructor))
 ((conv=>whnf);repeat(refine⟨rfl,?_⟩;conv=>whnf))
 refine ⟨by omega,?_⟩
 rw [← Int.ofNat_tmod]
 ((conv=>whnf);repeat(refine⟨rfl,?_⟩;conv=>whnf))
 exact .refl _
def c21_1 : PC:=.seq (.seq (.ops [qm 19 11,q 20 (.load1 (.tmp 3)),q 21 (.load1 (.tmp 4)),q 22 (.bin .mul (.tmp 20) (.tmp 21)),q 23 (.bin .lss (.tmp 19) (.tmp 22))] false) (.cond (.tmp 23) (.skip) (.exit 0))) (.seq (.block 1 (.ops [qm 26 10,qm 27 11,qm 28 9,qm 29 2,qm 30 11,q 31 (.callv (.tmp 29) [(.tmp 30)]),q 32 (.iaddr 1 (.tmp 28) (.tmp 31)),q 33 (.load1 (.tmp 32)),q 34 (.iaddr 1 (.tmp 26) (.tmp 27)),qn (.store 1 (.tmp 34) (.tmp 33))] false)) (.ops [qm 24 11,q 25 (.bin .add (.tmp 24) (.const (.int .i64 1))),qm 11 25] false))
def c21 : PC:=.seq (.ops [qm 12 0,qm 13 1,q 14 (.call 22 [(.tmp 12),(.tmp 13)]),qm 9 14] false) (.seq (.ops [q 15 (.load1 (.tmp 3)),q 16 (.load1 (.tmp 4)),q 17 (.bin .mul (.tmp 15) (.tmp 16)),q 18 (.mslice 1 1 [(.bool false)] (.tmp 17) (.tmp 17)),qm 10 18] false) (.seq (.seq (.ops [q 11 (.move (.const (.int .i64 0)))] false) (.block 0 (.loop c21_1))) (.ops [q 35 (.load1 (.tmp 5)),qm 36 10,q 37 (.bslice 1 1 [(.tmp 36)]),q 38 (.append 1 24 (.tmp 35) (.tmp 37)),qn (.store 1 (.tmp 5) (.tmp 38))] false)))
theorem c21_ok : FunOK Tryz.prog 21 39 [] c21:=⟨⟨Tryz.f21,Tryz.func21,rfl,by kernel_rfl,rfl,by kernel_rfl⟩⟩
theorem em_both (NM n m : Nat) (hNM : NM≤4000) (hnm : n * m = NM) (g : FuncId) (sel : Nat→Nat) (size : Nat) (hsz : size≤2048) (hsel : ∀ c,c < NM→PCall Tryz.prog g [.sc (.int .i64 c),.ipt [.sc (.int .i64 m)]] (.sc (.int .i64 (sel c)))) (hin : ∀ c,c < NM→sel c < size)
  (l : List Int) (hl : l.length≤17592186043904) (hli : inB l size = true) (F : List (Nat→Bool)) (hF : F.length≤1000) :
  ACall Tryz.prog 21 [zaD l,.sc (.int .i64 size),.fn (.func g) [] [.loc 1 0],.loc 0 0,.loc 1 0,.loc 2 0] [.row true [.sc (.int .i64 n)],.row true [.sc (.int .i64 m)],.row true [.own 3 F.length 0 F.length],.vec true F.length 1 (zdW NM F)]
   (.tup []) [.row true [.sc (.int .i64 n)],.row true [.sc (.int .i64 m)],.row true [.own 3 (F.length + 1) 0 (F.length + 1)],.vec true (F.length + 1) 1 (zdW NM (F ++ [fun c=>setB l (sel c)]))]:=by
 have hMk:=zni l size (by omega) hl hli
 have emul : (n : Int) * (m : Int) = (NM : Int):=by rw [← hnm]; rfl
 refine zcm c21_ok (by simp) (by simp) ?_ (by simp [zai,zae])
 (apply zac; focus (repeat' constructor))
 ((conv=>whnf);repeat(refine⟨rfl,?_⟩;conv=>whnf))
 (refine .inl ⟨_,hMk,?_⟩; ((conv=>whnf);repeat(refine⟨rfl,?_⟩;conv=>whnf)))
 rw [emul]
 (refine .inl ⟨by (unfold InR; rw [IntKind.wrap_i64]; omega),?_⟩; ((conv=>whnf);repeat(refine⟨rfl,?_⟩;conv=>whnf)))
 refine ⟨by omega,by omega,by omega,?_⟩
 rw [Int.toNat_natCast,show List.map D.sc [Value.bool false] = [D.sc (.bool false)] from rfl,zdT]
 ((conv=>whnf);repeat(refine⟨rfl,?_⟩;conv=>whnf))
 refine zaT [2,3,4,5,9,10] (fun k : Nat=>[(11,.sc (.int .i64 k))]) (fun k=>[(4,.vec true 0 1 (rbl NM fun v=>decide (v < k) && setB l (sel v)))]) (fun k=>k≤NM) (fun k=>NM - k) 0 ?_
 ((conv=>whnf);repeat(refine⟨rfl,?_⟩;conv=>whnf))
 refine ⟨by omega,by (repeat' (first | exact trivial | refine And.intro rfl ?_)),by rw [show (fun v=>decide (v < 0) && setB l (sel v)) = fun _=>false from funext fun v=>by simp]; rfl,?_⟩
 rintro k hk
 ((conv=>whnf);repeat(refine⟨rfl,?_⟩;conv=>whnf))
 (apply zac; focus (repeat' constructor))
 ((conv=>whnf);repeat(refine⟨rfl,?_⟩;conv=>whnf))
 rw [emul]
 (refine .inl ⟨by (unfold InR; rw [IntKind.wrap_i64]; omega),?_⟩; ((conv=>whnf);repeat(refine⟨rfl,?_⟩;conv=>whnf)))
 (refine zab (fun q0=>?_) (fun q0=>?_) <;> (rw [q0]; ((conv=>whnf);repeat(refine⟨rfl,?_⟩;conv=>whnf))))
 ·have q0 : k < NM:=by ((try simp only[oo,reduceCtorEq]at*)<;>omega)
  have hse:=hsel k q0
  have hii:=hin k q0
  (refine .inr (.inl ⟨_,_,(by (repeat' (first | exact Deep.refl _ | exact Deep.none _ | exact zaF _ | exact DeepL.nil | exact DeepLL.nil | refine Deep.agg _ _ ?_ | refine Deep.tup _ _ ?_ | refine Deep.own _ _ _ _ _ _ _ _ rfl ?_ | refine Deep.loc _ _ _ _ _ rfl ?_ | refine Deep.ifc _ _ _ ?_ | refine Deep.fn _ _ _ _ _ ?_ ?_ | refine DeepL.cons _ _ _ _ ?_ ?_ | refine DeepLL.cons _ _ _ _ ?_ ?_ | exact zaq _))),hse,rfl,?_⟩); ((conv=>whnf);repeat(refine⟨rfl,?_⟩;conv=>whnf)))
  generalize hx : sel k = x at *
  refine ⟨by omega,_,zay x (by omega) (by omega),?_⟩
  ((conv=>whnf);repeat(refine⟨rfl,?_⟩;conv=>whnf))
  (refine ⟨by omega,(by first | omega | (simp; done) | (simp; omega) | (simp only [ll]; omega)),?_⟩; ((conv=>whnf);repeat(refine⟨rfl,?_⟩;conv=>whnf)))
  refine ⟨_,zay k (by omega) q0,?_⟩
  ((conv=>whnf);repeat(refine⟨rfl,?_⟩;conv=>whnf))
  (refine .inl ⟨by (unfold InR; rw [IntKind.wrap_i64]; omega),?_⟩; ((conv=>whnf);repeat(refine⟨rfl,?_⟩;conv=>whnf)))
  refine ⟨k + 1,by omega,by dsimp only; omega,?_⟩
  rw [zfP (i:=k) (f':=fun v=>decide (v < k + 1) && setB l (sel v)) (by omega) fun v _=>by
   by_cases e : v = k
   ·subst e; rw [if_pos rfl,hx]; simp
   ·rw [if_neg e]
    by_cases e2 : v < k
    ·rw [decide_eq_true e2,decide_eq_true (show v < k + 1 by omega)]
    ·rw [decide_eq_false e2,decide_eq_false (show ¬ v < k + 1 by omega)]]
  (refine zal 5 (by simp) rfl ?_ ?_ <;> (repeat' (first | exact trivial | exact rfl | exact DeepM.refl _ | exact DeepML.refl _ | exact DeepMLL.refl _ | refine And.intro ?_ ?_ | (simp [zai,zae,zak,-List.map_take,-List.map_drop]; done))))
 have q0 : k = NM:=by have : ¬ k < NM:=by ((try simp only[oo,reduceCtorEq]at*)<;>omega)
                      omega
 subst q0
 refine ⟨(by unfold zaj; simp only [ll]; omega),?_⟩
 ((conv=>whnf);repeat(refine⟨rfl,?_⟩;conv=>whnf))
 refine ⟨.refl _,⟨rfl,.refl _,by simp [zae,zai]⟩,⟨rfl,.refl _,by simp [zae,zai]⟩,⟨rfl,.refl _,by simp [zae,zai]⟩,⟨rfl,rfl,rfl,?_,zaa _ (zdA _ _)⟩,trivial⟩
 rw [show zdW k (F ++ [fun c=>setB l (sel c)]) = zdW k F ++ [[dbl k fun c=>setB l (sel c)]] by simp [zdW]]
 exact .append _ _ _ _ (zah (zav (by simp))) (.cons _ _ _ _ (.cons _ _ _ _ (.own _ _ _ _ _ _ _ _ rfl rfl (zah (by rw [zav (by simp)]; exact zbK fun v hv=>by rw [decide_eq_true hv]; simp))) (.refl _)) (.refl _))
end
section
open Go.RowKit
section
variable {W : WorldD} {A : AutoD}
def TQ.lst (q : TQ) : List Int:=(q.2.1.take q.2.2.2.1).drop q.2.2.1
structure QI (W : WorldD) (A : AutoD) (q : TQ) (R : List (List Int)) (p : Nat) (o : List Int) : Prop where
 th : ThI W A q.1 R q.lst p o
 lo : q.2.2.1≤q.2.2.2.1
 hi : q.2.2.2.1≤q.2.1.length
 len : q.2.1.length≤W.next.length * A.next.length
 fit : ∀ v,q.1 v = true→fitE W A (prE A.next.length v) = true
def TQ.mu (W : WorldD) (A : AutoD) (q : TQ) : Nat:=unseen q.1 (W.next.length * A.next.length) + (q.2.2.2.1 - q.2.2.1)
theorem zov {l : List Int} {n : Nat} (hn : l.Nodup) (h : ∀ x∈l,0≤x∧x.toNat < n) : l.length≤n:=by
 refine zkT n l.length (fun i=>(l.getD i 0).toNat) (fun i hi=>?_) fun i j hi hj he=>?_
 ·exact (h _ (by rw [List.getD_eq_getElem?_getD,List.getElem?_eq_getElem hi]; simp)).2
 ·have hi':=h (l.getD i 0) (by rw [List.getD_eq_getElem?_getD,List.getElem?_eq_getElem hi]; simp)
  have hj':=h (l.getD j 0) (by rw [List.getD_eq_getElem?_getD,List.getElem?_eq_getElem hj]; simp)
  have hx : l.getD i 0 = l.getD j 0:=by omega
  rw [List.getD_eq_getElem?_getD,List.getD_eq_getElem?_getD,List.getElem?_eq_getElem hi,List.getElem?_eq_getElem hj] at hx
  simp only [Option.getD_some] at hx
  rcases Nat.lt_trichotomy i j with q | q | q
  ·exact absurd hx (List.pairwise_iff_getElem.1 hn i j hi hj q)
  ·exact q
  ·exact absurd hx.symm (List.pairwise_iff_getElem.1 hn j i hj hi q)
theorem zn3 {q : TQ} {R : List (List Int)} {p : Nat} {o : List Int} (h : QI W A q R p o) {x y : Int} (hg : GoodE W A (x,y)) :
  QI W A (tAdd (fitE W A (x,y)) (zbX A.next.length (x,y)) q) R p o∧(∀ v,q.1 v = true→(tAdd (fitE W A (x,y)) (zbX A.next.length (x,y)) q).1 v = true) ∧
   (tAdd (fitE W A (x,y)) (zbX A.next.length (x,y)) q).1 (zbX A.next.length (x,y)) = fitE W A (x,y)∧(tAdd (fitE W A (x,y)) (zbX A.next.length (x,y)) q).mu W A≤q.mu W A:=by
 have hcl:=zeW hg
 have hpr:=zld hg
 generalize zbX A.next.length (x,y) = c at *
 unfold tAdd
 by_cases hc : (fitE W A (x,y) && !(q.1 c)) = true
 ·rw [if_pos hc]
  rw [Bool.and_eq_true,Bool.not_eq_true'] at hc
  have hT:=h.th.add hc.2 hcl
  have hL : (q.lst ++ [(c : Int)]).length≤W.next.length * A.next.length:=zov hT.nd fun z hz=>⟨(hT.tq z hz).1,hT.rng _ (hT.tq z hz).2⟩
  have hl : q.lst.length = q.2.2.2.1 - q.2.2.1:=by
   unfold TQ.lst
   rw [List.length_drop,List.length_take]
   have:=h.hi; omega
  have h1:=h.lo
  have h2:=h.hi
  have e : TQ.lst (mark q.1 c,q.lst ++ [(c : Int)],0,q.2.2.2.1 - q.2.2.1 + 1,q.2.2.2.2 + 1) = q.lst ++ [(c : Int)]:=by
   show List.drop 0 (List.take _ _) = _
   rw [List.drop_zero,List.take_of_length_le (by rw [List.length_append,hl]; exact Nat.le_refl _)]
  refine ⟨⟨by rw [show ((mark q.1 c,List.drop q.2.2.1 (List.take q.2.2.2.1 q.2.1) ++ [(c : Int)],0,q.2.2.2.1 - q.2.2.1 + 1,q.2.2.2.2 + 1) : TQ) = (mark q.1 c,q.lst ++ [(c : Int)],0,q.2.2.2.1 - q.2.2.1 + 1,q.2.2.2.2 + 1) from rfl,e]; exact hT,Nat.zero_le _,by show _≤(q.lst ++ [(c : Int)]).length; rw [List.length_append,hl]; exact Nat.le_refl _,hL,fun v hv=>?_⟩,fun v hv=>markE_iff.2 (.inl hv),(markE_iff.2 (.inr rfl)).trans hc.1.symm,?_⟩
  ·rcases markE_iff.1 hv with k | k
   ·exact h.fit v k
   ·subst k; rw [hpr]; exact hc.1
  ·have:=zeq (s:=q.1) (s':=mark q.1 c) hcl (fun j _ hj=>markE_iff.2 (.inl hj)) hc.2 (markE_iff.2 (.inr rfl))
   unfold TQ.mu
   dsimp only
   omega
 ·rw [if_neg hc]
  refine ⟨h,fun v hv=>hv,?_,Nat.le_refl _⟩
  cases hf : fitE W A (x,y)
  ·cases hs : q.1 c
   ·rfl
   ·have:=h.fit c hs
    rw [hpr,hf] at this; cases this
  ·rw [hf,Bool.true_and] at hc
   simpa using hc
theorem QI.begin : QI W A ((fun _=>false),[],0,0,0) (List.replicate (W.next.length * A.next.length) []) (W.next.length * A.next.length) [] :=
 ⟨ThI.begin,Nat.le_refl _,Nat.le_refl _,Nat.zero_le _,fun v hv=>by cases hv⟩
theorem QI.pop {S : Nat→Bool} {Z : List Int} {lo hi ver : Nat} {R : List (List Int)} (h : QI W A (S,Z,lo,hi,ver) R (W.next.length * A.next.length) []) (hl : lo < hi) :
  QI W A (S,Z,lo + 1,hi,ver) R (Z.getD lo 0).toNat []∧0≤Z.getD lo 0∧(Z.getD lo 0).toNat < W.next.length * A.next.length∧TQ.mu W A (S,Z,lo + 1,hi,ver) < TQ.mu W A (S,Z,lo,hi,ver):=by
 have hT:=h.th
 have hh : hi≤Z.length:=h.hi
 have e : TQ.lst (S,Z,lo,hi,ver) = Z.getD lo 0 :: TQ.lst (S,Z,lo + 1,hi,ver):=headQ hl hh
 rw [e] at hT
 obtain ⟨h1,h2,h3⟩:=hT.pop
 refine ⟨⟨h1,hl,hh,h.len,h.fit⟩,h2,h3,?_⟩
 unfold TQ.mu
 dsimp only
 omega
open Classical in
noncomputable def ansE (W : WorldD) (A : AutoD) : Bool:=decide (∃ v,v < (finE W A).2.length∧Fw (finE W A).2 (zdY W A (finE W A).1) v)
def zhl (W : WorldD) (A : AutoD) : List (Nat→Bool):=(W.fair.map fun l c=>setB l (c / A.next.length)) ++ A.fair.map fun l c=>setB l (c % A.next.length)
theorem ans_iff (hb : BigW W A) (hm : 0 < A.next.length) {q : TQ} {R : List (List Int)} (h : QI W A q R (W.next.length * A.next.length) []) (hq : q.lst = []) (hst : ∀ p∈zbc W A W.start A.start,q.1 (zbX A.next.length p) = true) :
  ansE W A = true↔∃ x∈(zbc W A W.start A.start).map (fun p=>(zbX A.next.length p : Int)),Fw R (zhl W A) x.toNat:=by
 obtain ⟨hN,hg⟩:=zhR hb
 have hT:=h.th
 rw [hq] at hT
 have hR:=hT.rows hN hg hst
 have hF:=hN.fair (code:=zbX A.next.length) hR (zhl W A)
 have hsets : (zhl W A).map (fun S v=>S (zbX A.next.length ((finE W A).1.getD v (0,0)))) = zdY W A (finE W A).1:=by
  have hdm : ∀ v,zbX A.next.length ((finE W A).1.getD v (0,0)) / A.next.length = ((finE W A).1.getD v (0,0)).1.toNat∧zbX A.next.length ((finE W A).1.getD v (0,0)) % A.next.length = ((finE W A).1.getD v (0,0)).2.toNat:=fun v=>by
   rcases Nat.lt_or_ge v (finE W A).1.length with k | k
   ·exact zlU (hg _ (zbD k))
   ·rw [List.getD_eq_getElem?_getD,List.getElem?_eq_none k]
    simp [zbX]
  unfold zhl zdY selL selS
  rw [List.map_append,List.map_map,List.map_map,List.take_length,List.take_length]
  congr 1
  ·refine List.map_congr_left fun l _=>funext fun v=>?_
   show setB l _ = setB l _
   rw [(hdm v).1]
  ·refine List.map_congr_left fun l _=>funext fun v=>?_
   show setB l _ = setB l _
   rw [(hdm v).2]
 rw [hsets] at hF
 have hA : ansE W A = true↔∃ v,v < (finE W A).2.length∧Fw (finE W A).2 (zdY W A (finE W A).1) v:=by unfold ansE; simp only [decide_eq_true_eq]
 rw [hA,hF]
 constructor
 ·rintro ⟨p,hp,k⟩
  exact ⟨_,List.mem_map.2 ⟨p,hp,rfl⟩,by rw [Int.toNat_natCast]; exact k⟩
 ·rintro ⟨x,hx,k⟩
  obtain ⟨p,hp,rfl⟩:=List.mem_map.1 hx
  rw [Int.toNat_natCast] at k
  exact ⟨p,hp,k⟩
end
end
section
open Go.RowKit
def zcs (m : Nat) (l : List Pr) : List Int:=l.map fun p=>(zbX m p : Int)
theorem zfq (m : Nat) (a b : List Pr) : zcs m (a ++ b) = zcs m a ++ zcs m b:=by simp [zcs]
def hd10 (W : WorldD) (A : AutoD) (q : TQ) (g : List (List D)) (f : List Int) : List AObj :=
 [.row true W.cells,.row true A.cells,.row true [.sc (.int .i64 W.next.length)],.row true [.sc (.int .i64 A.next.length)],.vec true 0 1 g,.vec true 0 1 (rbl (W.next.length * A.next.length) q.1),.row true [.own 5 0 0 (W.next.length * A.next.length)],.row true [.own 8 q.2.2.2.2 q.2.2.1 q.2.2.2.1],.vec true q.2.2.2.2 1 (i64s q.2.1),.vec true f.length 1 (i64s f)]
def hdX (W : WorldD) (A : AutoD) (S : Nat→Bool) (Z : List Int) (lo hi ver : Nat) (g : List (List D)) (f : List Int) : List AObj :=
 [.row true W.cells,.row true A.cells,.row true [.sc (.int .i64 W.next.length)],.row true [.sc (.int .i64 A.next.length)],.vec true 0 1 g,.vec true 0 1 (rbl (W.next.length * A.next.length) S),.row true [.own 5 0 0 (W.next.length * A.next.length)],.row true [.own 8 ver lo hi],.vec true ver 1 (i64s Z),.vec true f.length 1 (i64s f)]
theorem ziI {W : WorldD} {A : AutoD} (hWA : TwoW W A) (hNM : W.next.length * A.next.length≤4000) (hM : Lett A.must) (x y : Int) (hg : GoodE W A (x,y)) (q : TQ) (h1 : q.2.2.1≤q.2.2.2.1) (h2 : q.2.2.2.1≤q.2.1.length) (h3 : q.2.1.length≤1000000000) (g : List (List D)) (f : List Int) (T : List AObj) :
  ACallAt Tryz.prog 19 [.sc (.int .i64 x),.sc (.int .i64 y),.loc 1 0,.loc 0 0,.loc 6 0,.loc 3 0,.loc 7 0] (hd10 W A q g f ++ T) (.tup []) (hd10 W A (tAdd (fitE W A (x,y)) (zbX A.next.length (x,y)) q) g f ++ T) [1,0,6,3,5,7,8]:=by
 have hA:=em_tadd hWA hNM hM x y hg q h1 h2 h3
 generalize tAdd (fitE W A (x,y)) (zbX A.next.length (x,y)) q = Q at *
 have hrn : ∀ q : TQ,(zeT W A q).map (AObj.ren fun i=>[1,0,6,3,5,7,8].getD i 0) = [.row true A.cells,.row true W.cells,.row true [.own 5 0 0 (W.next.length * A.next.length)],.row true [.sc (.int .i64 A.next.length)],.vec true 0 1 (rbl (W.next.length * A.next.length) q.1),.row true [.own 8 q.2.2.2.2 q.2.2.1 q.2.2.2.1],.vec true q.2.2.2.2 1 (i64s q.2.1)]:=fun q=>by
  simp only [zeT,List.map_cons,List.map_nil,AObj.ren,zbA _ (zdh W),zbA _ (zdj A),zbn _ (zez _ _),zcF,renL,D.ren]
  rfl
 have hAt:=zfg (H:=hd10 W A q g f ++ T) hA rfl [1,0,6,3,5,7,8] rfl (by decide) (by simp [zae,zai,zeT]) (by
  have:=@zg8 W A q
  unfold zeT at *
  exact ⟨this _ (by simp),this _ (by simp),this _ (by simp),this _ (by simp),this _ (by simp),this _ (by simp),this _ (by simp),trivial⟩) (args:=[.sc (.int .i64 x),.sc (.int .i64 y),.loc 1 0,.loc 0 0,.loc 6 0,.loc 3 0,.loc 7 0]) (d:=.tup []) rfl (by simp only [D.ren,renL]) (fun i o ho=>by
   have h:=congrArg (fun z=>z[i]?) (hrn q)
   simp only [List.getElem?_map,ho,Option.map_some] at h
   rcases i with _ | _ | _ | _ | _ | _ | _ | i
   ·exact h.symm
   ·exact h.symm
   ·exact h.symm
   ·exact h.symm
   ·exact h.symm
   ·exact h.symm
   ·exact h.symm
   ·simp [zeT] at ho)
 rw [hrn Q] at hAt
 exact hAt
theorem ziW {W : WorldD} {A : AutoD} (hNM : W.next.length * A.next.length≤4000) (g : FuncId) (sel : Nat→Nat) (size : Nat) (hsz : size≤2048) (hsel : ∀ c,c < W.next.length * A.next.length→PCall Tryz.prog g [.sc (.int .i64 c),.ipt [.sc (.int .i64 A.next.length)]] (.sc (.int .i64 (sel c)))) (hin : ∀ c,c < W.next.length * A.next.length→sel c < size)
  (l : List Int) (hl : l.length≤17592186043904) (hli : inB l size = true) (F : List (Nat→Bool)) (hF : F.length≤1000) (q : TQ) (G : List (List D)) (f : List Int) :
  ACallAt Tryz.prog 21 [zaD l,.sc (.int .i64 size),.fn (.func g) [] [.loc 3 0],.loc 2 0,.loc 3 0,.loc 10 0] (hd10 W A q G f ++ [.row true [.own 11 F.length 0 F.length],.vec true F.length 1 (zdW (W.next.length * A.next.length) F)])
   (.tup []) (hd10 W A q G f ++ [.row true [.own 11 (F.length + 1) 0 (F.length + 1)],.vec true (F.length + 1) 1 (zdW (W.next.length * A.next.length) (F ++ [fun c=>setB l (sel c)]))]) [2,3,10,11]:=by
 have hA:=em_both (W.next.length * A.next.length) W.next.length A.next.length hNM rfl g sel size hsz hsel hin l hl hli F hF
 have hAt:=zfg (H:=hd10 W A q G f ++ [.row true [.own 11 F.length 0 F.length],.vec true F.length 1 (zdW (W.next.length * A.next.length) F)]) hA rfl [2,3,10,11] rfl (by decide) (by simp [zae,zai]) ⟨by simp [AObj.under,zae,zai],by simp [AObj.under,zae,zai],by simp [AObj.under,zae,zai],zaa _ (zdA _ _),trivial⟩
  (args:=[zaD l,.sc (.int .i64 size),.fn (.func g) [] [.loc 3 0],.loc 2 0,.loc 3 0,.loc 10 0]) (d:=.tup []) (by simp only [renL,D.ren,zb9]; rfl) (by simp only [D.ren,renL]) (fun i o ho=>by
   rcases i with _ | _ | _ | _ | i
   ·simp at ho; subst ho; rfl
   ·simp at ho; subst ho; rfl
   ·simp at ho; subst ho; rfl
   ·simp at ho; subst ho; simp only [AObj.ren,zbn _ (zdA _ _)]; rfl
   ·simp at ho)
 simp only [List.map_cons,List.map_nil,AObj.ren,zbn _ (zdA _ _),renL,D.ren] at hAt
 exact hAt
def mapT (h : List Int→Nat→Bool) (G : List (List Int)) (k : Nat) : List (Nat→Bool):=(G.take k).map h
theorem zkY {h : List Int→Nat→Bool} {G : List (List Int)} {k : Nat} (hk : k < G.length) : mapT h G (k + 1) = mapT h G k ++ [h (G.getD k [])]:=by
 unfold mapT
 rw [List.take_add_one,List.getElem?_eq_getElem hk,List.map_append,List.getD_eq_getElem?_getD,List.getElem?_eq_getElem hk]
 rfl
theorem zmk {h : List Int→Nat→Bool} {G : List (List Int)} {k : Nat} (hk : k≤G.length) : (mapT h G k).length = k:=by simp [mapT]; omega
theorem zhb : ∀ k,zbd (List.replicate k (List.map D.sc [Value.slice none 0 0]))
 | 0=>trivial
 | k + 1=>⟨⟨trivial,trivial⟩,zhb k⟩
theorem zkX {W : WorldD} {A : AutoD} {x : Int} {k : List Int} {j : Nat} (h : j < k.length) : rowE W A x (k.drop j) = (if fitE W A (x,k.getD j 0) = true then [(x,k.getD j 0)] else []) ++ rowE W A x (k.drop (j + 1)):=by
 rw [zdf h,zkB]
 split <;> simp
theorem zin {W : WorldD} {A : AutoD} {l k : List Int} {i : Nat} (h : i < l.length) : zbc W A (l.drop i) k = rowE W A (l.getD i 0) k ++ zbc W A (l.drop (i + 1)) k:=by
 rw [zdf h,zbc,List.flatMap_cons]; rfl
def c8_2 : PC:=.seq (.seq (.ops [qm 49 13,q 50 (.faddr 0 (.tmp 3)),q 51 (.load1 (.tmp 50)),q 52 (.len (.tmp 51)),q 53 (.bin .lss (.tmp 49) (.tmp 52))] false) (.cond (.tmp 53) (.skip) (.exit 2))) (.seq (.block 3 (.seq (.ops [qm 56 10,q 57 (.faddr 0 (.tmp 2)),qd 58 (.load1 (.tmp 57)) 2,qm 59 12,qd 60 (.iaddr 1 (.tmp 58) (.tmp 59)) 14,qd 61 (.load1 (.tmp 60)) 30,q 62 (.faddr 0 (.tmp 3)),qd 63 (.load1 (.tmp 62)) 64,qm 64 13,qd 65 (.iaddr 1 (.tmp 63) (.tmp 64)) 448,qd 66 (.load1 (.tmp 65)) 960,qd 67 (.callv (.tmp 56) [(.tmp 61),(.tmp 66)]) 2047] true) (.seq (.ops [q 68 (.loadA 5 (.tmp 3)),q 69 (.faddr 0 (.tmp 3)),qd 70 (.load1 (.tmp 69)) 2,qm 71 13,qd 72 (.iaddr 1 (.tmp 70) (.tmp 71)) 14,qd 73 (.load1 (.tmp 72)) 30,q 74 (.faddr 2 (.tmp 2)),qd 75 (.load1 (.tmp 74)) 64,q 76 (.faddr 0 (.tmp 2)),qd 77 (.load1 (.tmp 76)) 256,qm 78 12,qd 79 (.iaddr 1 (.tmp 77) (.tmp 78)) 1792,qd 80 (.load1 (.tmp 79)) 3840,qd 81 (.iaddr 1 (.tmp 75) (.tmp 80)) 8128,qd 82 (.load1 (.tmp 81)) 16320,qd 83 (.call 20 [(.tmp 68),(.tmp 73),(.tmp 82)]) 32767] true) (.cond (.tmp 83) (.ops [qm 84 11,q 85 (.faddr 0 (.tmp 2)),qd 86 (.load1 (.tmp 85)) 2,qm 87 12,qd 88 (.iaddr 1 (.tmp 86) (.tmp 87)) 14,qd 89 (.load1 (.tmp 88)) 30,q 90 (.load1 (.tmp 6)),qd 91 (.bin .mul (.tmp 89) (.tmp 90)) 126,q 92 (.faddr 0 (.tmp 3)),qd 93 (.load1 (.tmp 92)) 256,qm 94 13,qd 95 (.iaddr 1 (.tmp 93) (.tmp 94)) 1792,qd 96 (.load1 (.tmp 95)) 3840,qd 97 (.bin .add (.tmp 91) (.tmp 96)) 8190,qd 98 (.bslice 1 1 [(.tmp 97)]) 16382,qd 99 (.append 1 8 (.tmp 84) (.tmp 98)) 32767,qw 11 99 65535] true) (.skip))))) (.ops [qm 54 13,q 55 (.bin .add (.tmp 54) (.const (.int .i64 1))),qm 13 55] false))
def c8_1 : PC:=.seq (.seq (.ops [qm 42 12,q 43 (.faddr 0 (.tmp 2)),q 44 (.load1 (.tmp 43)),q 45 (.len (.tmp 44)),q 46 (.bin .lss (.tmp 42) (.tmp 45))] false) (.cond (.tmp 46) (.skip) (.exit 0))) (.seq (.block 1 (.seq (.ops [q 13 (.move (.const (.int .i64 0)))] false) (.block 2 (.loop c8_2)))) (.ops [qm 47 12,q 48 (.bin .add (.tmp 47) (.const (.int .i64 1))),qm 12 48] false))
def c8_5 : PC:=.seq (.seq (.ops [qm 120 16,q 121 (.faddr 1 (.tmp 3)),qd 122 (.load1 (.tmp 121)) 2,qm 123 14,q 124 (.load1 (.tmp 6)),qd 125 (.bin .rem (.tmp 123) (.tmp 124)) 24,qd 126 (.iaddr 1 (.tmp 122) (.tmp 125)) 62,qd 127 (.load1 (.tmp 126)) 126,qd 128 (.len (.tmp 127)) 254,qd 129 (.bin .lss (.tmp 120) (.tmp 128)) 511] true) (.cond (.tmp 129) (.skip) (.exit 8))) (.seq (.block 9 (.seq (.ops [q 132 (.faddr 1 (.tmp 2)),qd 133 (.load1 (.tmp 132)) 1,qm 134 14,q 135 (.load1 (.tmp 6)),qd 136 (.bin .quo (.tmp 134) (.tmp 135)) 12,qd 137 (.iaddr 1 (.tmp 133) (.tmp 136)) 31,qd 138 (.load1 (.tmp 137)) 63,qm 139 15,qd 140 (.iaddr 1 (.tmp 138) (.tmp 139)) 255,qd 141 (.load1 (.tmp 140)) 511,q 142 (.faddr 1 (.tmp 3)),qd 143 (.load1 (.tmp 142)) 1024,qm 144 14,q 145 (.load1 (.tmp 6)),qd 146 (.bin .rem (.tmp 144) (.tmp 145)) 12288,qd 147 (.iaddr 1 (.tmp 143) (.tmp 146)) 31744,qd 148 (.load1 (.tmp 147)) 64512,qm 149 16,qd 150 (.iaddr 1 (.tmp 148) (.tmp 149)) 261120,qd 151 (.load1 (.tmp 150)) 523264,qw 17 141 1023,qw 18 151 2097151] true) (.seq (.ops [qm 152 10,qm 153 17,qm 154 18,q 155 (.callv (.tmp 152) [(.tmp 153),(.tmp 154)])] false) (.seq (.ops [q 156 (.load1 (.tmp 8)),qm 157 17,q 158 (.load1 (.tmp 6)),q 159 (.bin .mul (.tmp 157) (.tmp 158)),qm 160 18,q 161 (.bin .add (.tmp 159) (.tmp 160)),q 162 (.iaddr 1 (.tmp 156) (.tmp 161)),q 163 (.load1 (.tmp 162))] false) (.cond (.tmp 163) (.ops [qm 164 7,qm 165 14,qm 166 7,qm 167 14,qd 168 (.iaddr 1 (.tmp 166) (.tmp 167)) 12,qd 169 (.load1 (.tmp 168)) 28,qm 170 17,q 171 (.load1 (.tmp 6)),qd 172 (.bin .mul (.tmp 170) (.tmp 171)) 192,qm 173 18,qd 174 (.bin .add (.tmp 172) (.tmp 173)) 960,qd 175 (.bslice 1 1 [(.tmp 174)]) 1984,qd 176 (.append 1 8 (.tmp 169) (.tmp 175)) 4092,qd 177 (.iaddr 1 (.tmp 164) (.tmp 165)) 8191,qk (.store 1 (.tmp 177) (.tmp 176)) 16383] true) (.skip)))))) (.ops [qm 130 16,q 131 (.bin .add (.tmp 130) (.const (.int .i64 1))),qm 16 131] false))
def c8_4 : PC:=.seq (.seq (.ops [qm 108 15,q 109 (.faddr 1 (.tmp 2)),qd 110 (.load1 (.tmp 109)) 2,qm 111 14,q 112 (.load1 (.tmp 6)),qd 113 (.bin .quo (.tmp 111) (.tmp 112)) 24,qd 114 (.iaddr 1 (.tmp 110) (.tmp 113)) 62,qd 115 (.load1 (.tmp 114)) 126,qd 116 (.len (.tmp 115)) 254,qd 117 (.bin .lss (.tmp 108) (.tmp 116)) 511] true) (.cond (.tmp 117) (.skip) (.exit 6))) (.seq (.block 7 (.seq (.ops [q 16 (.move (.const (.int .i64 0)))] false) (.block 8 (.loop c8_5)))) (.ops [qm 118 15,q 119 (.bin .add (.tmp 118) (.const (.int .i64 1))),qm 15 119] false))
def c8_3 : PC:=.seq (.seq (.ops [q 100 (.load1 (.tmp 9)),q 101 (.len (.tmp 100)),q 102 (.bin .gtr (.tmp 101) (.const (.int .i64 0)))] false) (.cond (.tmp 102) (.skip) (.exit 4))) (.block 5 (.seq (.ops [q 103 (.load1 (.tmp 9)),q 104 (.iaddr 1 (.tmp 103) (.const (.int .i64 0))),q 105 (.load1 (.tmp 104)),qm 14 105] false) (.seq (.ops [q 106 (.load1 (.tmp 9)),q 107 (.slc 1 (.tmp 106) (some (.const (.int .i64 1))) none none),qn (.store 1 (.tmp 9) (.tmp 107))] false) (.seq (.ops [q 15 (.move (.const (.int .i64 0)))] false) (.block 6 (.loop c8_4))))))
def c8_6 : PC:=.seq (.seq (.ops [qm 179 21,q 180 (.faddr 3 (.tmp 2)),q 181 (.load1 (.tmp 180)),q 182 (.len (.tmp 181)),q 183 (.bin .lss (.tmp 179) (.tmp 182))] false) (.cond (.tmp 183) (.skip) (.exit 10))) (.seq (.block 11 (.ops [qm 186 20,q 187 (.faddr 3 (.tmp 2)),qd 188 (.load1 (.tmp 187)) 2,qm 189 21,qd 190 (.iaddr 1 (.tmp 188) (.tmp 189)) 14,qd 191 (.load1 (.tmp 190)) 30,q 192 (.load1 (.tmp 5)),q 193 (.mkfn (.func 23) [] [(.tmp 6)]),qd 194 (.callv (.tmp 186) [(.tmp 191),(.tmp 192),(.tmp 193)]) 255] true)) (.ops [qm 184 21,q 185 (.bin .add (.tmp 184) (.const (.int .i64 1))),qm 21 185] false))
def c8_7 : PC:=.seq (.seq (.ops [qm 195 22,q 196 (.faddr 4 (.tmp 3)),q 197 (.load1 (.tmp 196)),q 198 (.len (.tmp 197)),q 199 (.bin .lss (.tmp 195) (.tmp 198))] false) (.cond (.tmp 199) (.skip) (.exit 12))) (.seq (.block 13 (.ops [qm 202 20,q 203 (.faddr 4 (.tmp 3)),qd 204 (.load1 (.tmp 203)) 2,qm 205 22,qd 206 (.iaddr 1 (.tmp 204) (.tmp 205)) 14,qd 207 (.load1 (.tmp 206)) 30,q 208 (.load1 (.tmp 6)),q 209 (.mkfn (.func 24) [] [(.tmp 6)]),qd 210 (.callv (.tmp 202) [(.tmp 207),(.tmp 208),(.tmp 209)]) 255] true)) (.ops [qm 200 22,q 201 (.bin .add (.tmp 200) (.const (.int .i64 1))),qm 22 201] false))
def c8_8 : PC:=.seq (.seq (.ops [qm 214 24,qm 215 11,q 216 (.len (.tmp 215)),q 217 (.bin .lss (.tmp 214) (.tmp 216))] false) (.cond (.tmp 217) (.skip) (.exit 14))) (.seq (.block 15 (.seq (.ops [qm 220 23,qm 221 11,qm 222 24,q 223 (.iaddr 1 (.tmp 221) (.tmp 222)),q 224 (.load1 (.tmp 223)),q 225 (.iaddr 1 (.tmp 220) (.tmp 224)),q 226 (.load1 (.tmp 225))] false) (.cond (.tmp 226) (.seq (.ops [q 4 (.move (.const (.bool true)))] false) (.ret)) (.skip)))) (.ops [qm 218 24,q 219 (.bin .add (.tmp 218) (.const (.int .i64 1))),qm 24 219] false))
def c8 : PC:=.seq (.ops [q 2 (.box (.tmp 0)),q 3 (.box (.tmp 1)),q 4 (.move (.const (.bool false)))] false) (.seq (.ops [q 25 (.faddr 1 (.tmp 2)),qd 26 (.load1 (.tmp 25)) 1,qd 27 (.len (.tmp 26)) 3,q 28 (.faddr 1 (.tmp 3)),qd 29 (.load1 (.tmp 28)) 8,qd 30 (.len (.tmp 29)) 24,q 5 (.alloc [(.int .i64 0)]),q 6 (.alloc [(.int .i64 0)]),qk (.store 1 (.tmp 5) (.tmp 27)) 199,qk (.store 1 (.tmp 6) (.tmp 30)) 511] true) (.seq (.seq (.ops [q 31 (.load1 (.tmp 6)),q 32 (.bin .eql (.tmp 31) (.const (.int .i64 0)))] false) (.cond (.tmp 32) (.seq (.ops [q 4 (.move (.const (.bool false)))] false) (.ret)) (.skip))) (.seq (.ops [q 33 (.load1 (.tmp 5)),q 34 (.load1 (.tmp 6)),q 35 (.bin .mul (.tmp 33) (.tmp 34)),q 36 (.mslice 1 24 [(.slice none 0 0)] (.tmp 35) (.tmp 35)),qm 7 36] false) (.seq (.ops [q 37 (.load1 (.tmp 5)),q 38 (.load1 (.tmp 6)),q 39 (.bin .mul (.tmp 37) (.tmp 38)),q 40 (.mslice 1 1 [(.bool false)] (.tmp 39) (.tmp 39)),q 8 (.alloc [(.slice none 0 0)]),qn (.store 1 (.tmp 8) (.tmp 40))] false) (.seq (.ops [q 9 (.alloc [(.slice none 0 0)])] false) (.seq (.ops [q 41 (.mkfn (.func 19) [] [(.tmp 3),(.tmp 2),(.tmp 8),(.tmp 6),(.tmp 9)]),qm 10 41] false) (.seq (.ops [q 11 (.move (.const (.slice none 0 0)))] false) (.seq (.seq (.ops [q 12 (.move (.const (.int .i64 0)))] false) (.block 0 (.loop c8_1))) (.seq (.stop (.block 4 (.loop c8_3))) (.seq (.ops [q 19 (.alloc [(.slice none 0 0)])] false) (.seq (.ops [q 178 (.mkfn (.func 21) [] [(.tmp 5),(.tmp 6),(.tmp 19)]),qm 20 178] false) (.seq (.seq (.ops [q 21 (.move (.const (.int .i64 0)))] false) (.block 10 (.loop c8_6))) (.seq (.seq (.ops [q 22 (.move (.const (.int .i64 0)))] false) (.block 12 (.loop c8_7))) (.seq (.ops [qm 211 7,q 212 (.load1 (.tmp 19)),q 213 (.call 25 [(.tmp 211),(.tmp 212)]),qm 23 213] false) (.seq (.seq (.ops [q 24 (.move (.const (.int .i64 0)))] false) (.block 14 (.loop c8_8))) (.seq (.ops [q 4 (.move (.const (.bool false)))] false) (.ret)))))))))))))))))
theorem c8_ok : FunOK Tryz.prog 8 227 [.tmp 4] c8:=⟨⟨Tryz.f8,Tryz.func8,rfl,by kernel_rfl,rfl,by kernel_rfl⟩⟩
theorem em_There {W : WorldD} {A : AutoD} (hb : BigW W A) (hNM : W.next.length * A.next.length≤4000) (hM : Lett A.must) (hm : 0 < A.next.length) : PCall Tryz.prog 8 [zcR W,zeh A] (.sc (.bool (ansE W A))):=by
 have hWA:=hb.two
 obtain ⟨w1,w2,w3,w4,w5,w6⟩:=zcP W hWA.cw
 obtain ⟨a1,a2,a3,a4,a5,a6,a7⟩:=zdy A hWA.ca
 have hLe:=fun s hs x=>ziR A a1 a2 hM s hs x
 have hpW:=zdh W
 have hpA:=zdj A
 have emul : (W.next.length : Int) * (A.next.length : Int) = ((W.next.length * A.next.length : Nat) : Int):=by rw [Int.natCast_mul]
 have hbl:=hb.begin.2
 have hsa:=hb.sa
 have hsw:=hb.sw
 have hAdd:=fun x y hg q h1 h2 h3 g f T=>ziI hWA hNM hM x y hg q h1 h2 h3 g f T
 have hans:=fun q R (h : QI W A q R (W.next.length * A.next.length) []) hq hst=>ans_iff hb hm h hq hst
 have hF0l : (zcs A.next.length (zbc W A W.start A.start)).length≤1099511627776:=by unfold zcs; rw [List.length_map]; exact hbl
 have hF0i : ∀ y∈zcs A.next.length (zbc W A W.start A.start),0≤y∧y.toNat < W.next.length * A.next.length:=fun y hy=>by
  obtain ⟨p,hp,rfl⟩:=List.mem_map.1 hy
  have:=zeW (hb.begin.1 p hp)
  omega
 rw [show (zbc W A W.start A.start).map (fun p=>(zbX A.next.length p : Int)) = zcs A.next.length (zbc W A W.start A.start) from rfl] at hans
 have hst0 : ∀ q : TQ,(∀ y∈zcs A.next.length (zbc W A W.start A.start),q.1 y.toNat = true)→∀ p∈zbc W A W.start A.start,q.1 (zbX A.next.length p) = true:=fun q h p hp=>by
  have:=h _ (List.mem_map.2 ⟨p,hp,rfl⟩)
  simpa using this
 refine zag c8_ok (by simp) (by simp [zao,zb5,zbY]) ?_ (by simp [Pure])
 generalize hans0 : ansE W A = ans at *
 obtain ⟨F0,hF0⟩ : ∃ F0,F0 = zcs A.next.length (zbc W A W.start A.start):=⟨_,rfl⟩
 rw [← hF0] at hF0l hF0i hans hst0
 unfold zcR zeh at *
 unfold hd10 at hAdd
 unfold WorldD.cells AutoD.cells at *
 (apply zac; focus (repeat' constructor))
 ((conv=>whnf);repeat(refine⟨rfl,?_⟩;conv=>whnf))
 rw [List.length_map,List.length_map]
 (refine zab (fun q0=>?_) (fun q0=>?_) <;> (rw [q0]; ((conv=>whnf);repeat(refine⟨rfl,?_⟩;conv=>whnf))))
 ·rw [beq_iff_eq] at q0; omega
 rw [emul]
 (refine .inl ⟨by (unfold InR; rw [IntKind.wrap_i64]; omega),?_⟩; ((conv=>whnf);repeat(refine⟨rfl,?_⟩;conv=>whnf)))
 refine ⟨by omega,by omega,by omega,?_⟩
 rw [Int.toNat_natCast]
 ((conv=>whnf);repeat(refine⟨rfl,?_⟩;conv=>whnf))
 rw [emul]
 (refine .inl ⟨by (unfold InR; rw [IntKind.wrap_i64]; omega),?_⟩; ((conv=>whnf);repeat(refine⟨rfl,?_⟩;conv=>whnf)))
 refine ⟨by omega,by omega,by omega,?_⟩
 rw [Int.toNat_natCast,show List.map D.sc [Value.bool false] = [D.sc (.bool false)] from rfl,zdT]
 ((conv=>whnf);repeat(refine⟨rfl,?_⟩;conv=>whnf))
 have hb0:=QI.begin (W:=W) (A:=A)
 generalize hN0 : List.replicate (W.next.length * A.next.length) ([] : List Int) = R0 at *
 refine zaA (zb1 (zbp 7 0 1 (by simp) rfl rfl) (zcu 11 1 (by simp) rfl)) ?_
 refine zaz [2,3,5,6,7,8,9,10] (fun ((i,q,f) : Nat × TQ × List Int)=>[(11,.own 9 f.length 0 f.length),(12,.sc (.int .i64 i))]) (fun (i,q,f)=>hd10 W A q (List.replicate (W.next.length * A.next.length) (List.map D.sc [Value.slice none 0 0])) f)
  (fun (i,q,f)=>i≤W.start.length∧QI W A q R0 (W.next.length * A.next.length) []∧(∀ y∈f,q.1 y.toNat = true)∧f ++ zcs A.next.length (zbc W A (W.start.drop i) A.start) = F0) (fun (i,q,f)=>W.start.length - i) (0,((fun _=>false),[],0,0,0),[]) ?_
 ((conv=>whnf);repeat(refine⟨rfl,?_⟩;conv=>whnf))
 refine ⟨⟨by omega,hb0,by simp,by rw [List.drop_zero,List.nil_append]; exact hF0.symm⟩,by (repeat' (first | exact trivial | refine And.intro rfl ?_)),rfl,?_⟩
 rintro ⟨i,q,f⟩ ⟨hi,hQ,hfs,hF⟩
 unfold hd10
 ((conv=>whnf);repeat(refine⟨rfl,?_⟩;conv=>whnf))
 (apply zac; focus (repeat' constructor))
 ((conv=>whnf);repeat(refine⟨rfl,?_⟩;conv=>whnf))
 rw [List.length_map]
 (refine zab (fun q0=>?_) (fun q0=>?_) <;> (rw [q0]; ((conv=>whnf);repeat(refine⟨rfl,?_⟩;conv=>whnf))))
 ·have q0 : i < W.start.length:=by ((try simp only[oo,reduceCtorEq]at*)<;>omega)
  have hx:=zaN w4 (zaM q0)
  rw [zin q0,zfq] at hF
  generalize hxe : W.start.getD i 0 = x at *
  refine zaz [2,3,5,6,7,8,9,10,12] (fun ((k,q,f) : Nat × TQ × List Int)=>[(11,.own 9 f.length 0 f.length),(13,.sc (.int .i64 k))]) (fun (k,q,f)=>hd10 W A q (List.replicate (W.next.length * A.next.length) (List.map D.sc [Value.slice none 0 0])) f)
   (fun (k,q,f)=>k≤A.start.length∧QI W A q R0 (W.next.length * A.next.length) []∧(∀ y∈f,q.1 y.toNat = true)∧f ++ (zcs A.next.length (rowE W A x (A.start.drop k)) ++ zcs A.next.length (zbc W A (W.start.drop (i + 1)) A.start)) = F0) (fun (k,q,f)=>A.start.length - k) (0,q,f) ?_
  ((conv=>whnf);repeat(refine⟨rfl,?_⟩;conv=>whnf))
  refine ⟨⟨by omega,hQ,hfs,by rw [List.drop_zero]; exact hF⟩,by (repeat' (first | exact trivial | refine And.intro rfl ?_)),rfl,?_⟩
  rintro ⟨k,q,f⟩ ⟨hk,hQ,hfs,hF⟩
  unfold hd10
  ((conv=>whnf);repeat(refine⟨rfl,?_⟩;conv=>whnf))
  (apply zac; focus (repeat' constructor))
  ((conv=>whnf);repeat(refine⟨rfl,?_⟩;conv=>whnf))
  rw [List.length_map]
  (refine zab (fun q1=>?_) (fun q1=>?_) <;> (rw [q1]; ((conv=>whnf);repeat(refine⟨rfl,?_⟩;conv=>whnf))))
  ·have q1 : k < A.start.length:=by ((try simp only[oo,reduceCtorEq]at*)<;>omega)
   have hy:=zaN a5 (zaM q1)
   have hfl : f.length≤F0.length:=by rw [← hF,List.length_append]; omega
   rw [zkX q1,zfq] at hF
   generalize hye : A.start.getD k 0 = y at *
   have hgp : GoodE W A (x,y):=⟨hx,hy⟩
   obtain ⟨t1,t2,t3,t4⟩:=zn3 hQ hgp
   have hA:=hAdd x y hgp q hQ.lo hQ.hi (by have:=hQ.len; omega) (List.replicate (W.next.length * A.next.length) (List.map D.sc [Value.slice none 0 0])) f []
   refine ⟨by omega,_,by rw [zaW (l:=W.start) (k:=i) (by omega) q0,hxe],?_⟩
   ((conv=>whnf);repeat(refine⟨rfl,?_⟩;conv=>whnf))
   refine ⟨by omega,_,by rw [zaW (l:=A.start) (k:=k) (by omega) q1,hye],?_⟩
   ((conv=>whnf);repeat(refine⟨rfl,?_⟩;conv=>whnf))
   (refine .inr (.inr (.inr (.inr (.inl ⟨_,_,_,hA,?_⟩)))); ((conv=>whnf);repeat(refine⟨rfl,?_⟩;conv=>whnf)))
   have ec : zbX A.next.length (x,y) = x.toNat * A.next.length + y.toNat:=rfl
   have emx : x * (A.next.length : Int) = ((x.toNat * A.next.length : Nat) : Int):=by rw [Int.natCast_mul,Int.toNat_of_nonneg hx.1]
   have hcl:=zeW hgp
   generalize hq2 : tAdd (fitE W A (x,y)) (zbX A.next.length (x,y)) q = q2 at *
   generalize hk2 : x.toNat * A.next.length = xm at *
   generalize hce : zbX A.next.length (x,y) = c at *
   refine ⟨by omega,_,by rw [zaW (l:=A.start) (k:=k) (by omega) q1,hye],?_⟩
   ((conv=>whnf);repeat(refine⟨rfl,?_⟩;conv=>whnf))
   refine ⟨by omega,_,by rw [zaW (l:=W.start) (k:=i) (by omega) q0,hxe],?_⟩
   ((conv=>whnf);repeat(refine⟨rfl,?_⟩;conv=>whnf))
   refine ⟨by omega,_,ze2 (l:=W.label) (k:=x.toNat) (by omega) (by omega),?_⟩
   ((conv=>whnf);repeat(refine⟨rfl,?_⟩;conv=>whnf))
   have hLx:=hLe y.toNat (by omega) (W.label.getD x.toNat 0)
   rw [show ((y.toNat : Nat) : Int) = y by omega,show zhj A y.toNat (W.label.getD x.toNat 0) = fitE W A (x,y) from rfl] at hLx
   (refine .inl ⟨_,hLx,?_⟩; ((conv=>whnf);repeat(refine⟨rfl,?_⟩;conv=>whnf)))
   cases r : fitE W A (x,y)
   ·rw [r,if_neg (by decide)] at hF
    ((conv=>whnf);repeat(refine⟨rfl,?_⟩;conv=>whnf))
    (refine .inl ⟨by (unfold InR; rw [IntKind.wrap_i64]; omega),?_⟩; ((conv=>whnf);repeat(refine⟨rfl,?_⟩;conv=>whnf)))
    refine ⟨(k + 1,q2,f),⟨by omega,t1,fun z hz=>t2 _ (hfs z hz),hF⟩,by dsimp only; omega,?_⟩
    exact zan (by (repeat' (first | exact trivial | refine And.intro rfl ?_))) rfl
   ·rw [r,if_pos rfl] at hF
    rw [r] at t3
    ((conv=>whnf);repeat(refine⟨rfl,?_⟩;conv=>whnf))
    refine ⟨by omega,_,by rw [zaW (l:=W.start) (k:=i) (by omega) q0,hxe],?_⟩
    ((conv=>whnf);repeat(refine⟨rfl,?_⟩;conv=>whnf))
    rw [emx]
    (refine .inl ⟨by (unfold InR; rw [IntKind.wrap_i64]; omega),?_⟩; ((conv=>whnf);repeat(refine⟨rfl,?_⟩;conv=>whnf)))
    refine ⟨by omega,_,by rw [zaW (l:=A.start) (k:=k) (by omega) q1,hye],?_⟩
    ((conv=>whnf);repeat(refine⟨rfl,?_⟩;conv=>whnf))
    (refine .inl ⟨by (unfold InR; rw [IntKind.wrap_i64]; omega),?_⟩; ((conv=>whnf);repeat(refine⟨rfl,?_⟩;conv=>whnf)))
    refine ⟨(by unfold zaj; simp only [ll]; omega),?_⟩
    ((conv=>whnf);repeat(refine⟨rfl,?_⟩;conv=>whnf))
    (refine .inl ⟨by (unfold InR; rw [IntKind.wrap_i64]; omega),?_⟩; ((conv=>whnf);repeat(refine⟨rfl,?_⟩;conv=>whnf)))
    refine ⟨(k + 1,q2,f ++ [(c : Int)]),⟨by omega,t1,fun z hz=>?_,?_⟩,by dsimp only; omega,?_⟩
    ·rcases List.mem_append.1 hz with q | q
     ·exact t2 _ (hfs z q)
     ·rw [List.mem_singleton] at q; subst q; rw [Int.toNat_natCast]; exact t3
    ·rw [show (c : Int) = (zbX A.next.length (x,y) : Int) by rw [hce]]
     rw [List.append_assoc]
     exact hF
    ·dsimp only
     rw [show (f ++ [(c : Int)]).length = f.length + 1 by simp,show ((xm : Nat) : Int) + y = (c : Int) by omega]
     (refine zal 10 (by simp) rfl ?_ ?_ <;> (repeat' (first | exact trivial | exact rfl | exact DeepM.refl _ | exact DeepML.refl _ | exact DeepMLL.refl _ | refine And.intro ?_ ?_ | (simp [zai,zae,zak,-List.map_take,-List.map_drop]; done))))
     all_goals first | exact zad _ hpW | exact zad _ hpA | exact zah (zaR f _) | exact zaa _ (zhb _) | skip
  ·have q1 : k = A.start.length:=by have : ¬ k < A.start.length:=by ((try simp only[oo,reduceCtorEq]at*)<;>omega)
                                    omega
   subst q1
   rw [List.drop_length] at hF
   (refine .inl ⟨by (unfold InR; rw [IntKind.wrap_i64]; omega),?_⟩; ((conv=>whnf);repeat(refine⟨rfl,?_⟩;conv=>whnf)))
   refine ⟨(i + 1,q,f),⟨by omega,hQ,hfs,hF⟩,by dsimp only; omega,?_⟩
   exact zan (by (repeat' (first | exact trivial | refine And.intro rfl ?_))) rfl
 have q0 : i = W.start.length:=by have : ¬ i < W.start.length:=by ((try simp only[oo,reduceCtorEq]at*)<;>omega)
                                  omega
 subst q0
 rw [List.drop_length,show zcs A.next.length (zbc W A [] A.start) = [] from rfl,List.append_nil] at hF
 subst hF
 refine zfU (fun ((q,R) : TQ × List (List Int))=>[(2,.loc 0 0),(3,.loc 1 0),(5,.loc 2 0),(6,.loc 3 0),(7,.own 4 0 0 (W.next.length * A.next.length)),(11,.own 9 f.length 0 f.length)]) (fun (q,R)=>hd10 W A q (zba R) f) (fun (q,R)=>QI W A q R (W.next.length * A.next.length) []∧q.lst = []∧∀ y∈f,q.1 y.toNat = true) ?_ ?_
 ·(apply zac; focus (repeat' constructor))
  ((conv=>whnf);repeat(refine⟨rfl,?_⟩;conv=>whnf))
  refine zaA (zjL 4 1 (W.next.length * A.next.length) 0 (by simp) rfl) ?_
  refine zaz [2,3,5,6,7,8,9,10,11] (fun (((S,Z,lo,hi,ver),R) : TQ × List (List Int))=>[]) (fun ((S,Z,lo,hi,ver),R)=>hdX W A S Z lo hi ver (zcT 10 R) f ++ zbI 1 zgE R) (fun (q,R)=>QI W A q R (W.next.length * A.next.length) []∧∀ y∈f,q.1 y.toNat = true) (fun (q,R)=>TQ.mu W A q) (q,R0) ?_
  ((conv=>whnf);repeat(refine⟨rfl,?_⟩;conv=>whnf))
  refine ⟨⟨hQ,hfs⟩,by (repeat' (first | exact trivial | refine And.intro rfl ?_)),?_,?_⟩
  ·rw [zfG 1 _ zgE]
   dsimp only
   rw [← hN0,← zfR (α:=Int) 10 (W.next.length * A.next.length)]
   rfl
  clear hQ hfs
  rintro ⟨⟨S,Z,lo,hi,ver⟩,R⟩ ⟨hQ,hfs⟩
  unfold hdX
  ((conv=>whnf);repeat(refine⟨rfl,?_⟩;conv=>whnf))
  (apply zac; focus (repeat' constructor))
  ((conv=>whnf);repeat(refine⟨rfl,?_⟩;conv=>whnf))
  have h1 : lo≤hi:=hQ.lo
  have h2 : hi≤Z.length:=hQ.hi
  have h3:=hQ.len
  have hRl:=hQ.th.len
  dsimp only at h3 hfs
  (refine zab (fun q0=>?_) (fun q0=>?_) <;> (rw [q0]; ((conv=>whnf);repeat(refine⟨rfl,?_⟩;conv=>whnf))))
  ·have q0 : lo < hi:=by ((try simp only[oo,reduceCtorEq]at*)<;>omega)
   obtain ⟨p1,p2,p3,p4⟩:=hQ.pop q0
   (refine ⟨by omega,(by first | omega | (simp; done) | (simp; omega) | (simp only [ll]; omega)),?_⟩; ((conv=>whnf);repeat(refine⟨rfl,?_⟩;conv=>whnf)))
   refine ⟨_,zaW (l:=Z) (k:=lo) (by omega) (by omega),?_⟩
   ((conv=>whnf);repeat(refine⟨rfl,?_⟩;conv=>whnf))
   generalize Z.getD lo 0 = p at *
   refine ⟨by omega,by omega,by omega,?_⟩
   ((conv=>whnf);repeat(refine⟨rfl,?_⟩;conv=>whnf))
   rw [show lo + (hi - lo) = hi by omega]
   obtain ⟨g1,g2⟩:=pr_good p3
   obtain ⟨⟨g3,g4⟩,g5,g6⟩:=g1
   have hrC : rowC W A p.toNat = zcs A.next.length (zbc W A (W.next.getD (p.toNat / A.next.length) []) (A.next.getD (p.toNat % A.next.length) [])):=by
    unfold rowC nxE prE zcs
    dsimp only
    rw [Int.toNat_natCast,Int.toNat_natCast]
   have hrin:=zn0 hb p.toNat
   have hrowl : (rowC W A p.toNat).length≤1099511627776:=by unfold rowC; rw [List.length_map]; exact (hb.next _).2
   have hql : p.tdiv (A.next.length : Int) = ((p.toNat / A.next.length : Nat) : Int):=by rw [Int.ofNat_tdiv,Int.toNat_of_nonneg p2]
   have hrl : p.tmod (A.next.length : Int) = ((p.toNat % A.next.length : Nat) : Int):=by rw [Int.ofNat_tmod,Int.toNat_of_nonneg p2]
   unfold prE at g3 g4 g5 g6
   dsimp only at g3 g4 g5 g6
   have hu : p.toNat / A.next.length < W.next.length:=Int.ofNat_lt.1 g4
   have hv : p.toNat % A.next.length < A.next.length:=Int.ofNat_lt.1 g6
   clear g2 g3 g4 g5 g6
   generalize p.toNat / A.next.length = u at *
   generalize p.toNat % A.next.length = v at *
   have hwl:=zed hb.rw_ u
   have hal:=zed hb.ra v
   have hwi:=zbL w5 u
   have hai:=zbL a6 v
   have hpc : ((p.toNat : Nat) : Int) = p:=Int.toNat_of_nonneg p2
   generalize hM1 : TQ.mu W A (S,Z,lo + 1,hi,ver) = M1 at *
   refine zaz [2,3,5,6,7,8,9,10,11,14] (fun ((i,(S,Z,lo,hi,ver),R,o) : Nat × TQ × List (List Int) × List Int)=>[(15,.sc (.int .i64 i))]) (fun (i,(S,Z,lo,hi,ver),R,o)=>hdX W A S Z lo hi ver (zcT 10 R) f ++ zbI 1 zgE R)
    (fun (i,q,R,o)=>i≤(W.next.getD u []).length∧QI W A q R p.toNat o∧(∀ y∈f,q.1 y.toNat = true)∧(∀ y∈o,q.1 y.toNat = true)∧o ++ zcs A.next.length (zbc W A ((W.next.getD u []).drop i) (A.next.getD v [])) = rowC W A p.toNat∧TQ.mu W A q≤M1) (fun (i,q,R,o)=>(W.next.getD u []).length - i) (0,(S,Z,lo + 1,hi,ver),R,[]) ?_
   ((conv=>whnf);repeat(refine⟨rfl,?_⟩;conv=>whnf))
   refine ⟨⟨by omega,p1,hfs,by simp,by rw [hrC]; rfl,by rw [hM1]; exact Nat.le_refl _⟩,by (repeat' (first | exact trivial | refine And.intro rfl ?_)),rfl,?_⟩
   rintro ⟨i,⟨S,Z,lo,hi,ver⟩,R,o⟩ ⟨hi4,hQ,hfs,hos,hC4,hmu⟩
   unfold hdX
   ((conv=>whnf);repeat(refine⟨rfl,?_⟩;conv=>whnf))
   (apply zac; focus (repeat' constructor))
   ((conv=>whnf);repeat(refine⟨rfl,?_⟩;conv=>whnf))
   refine ⟨by omega,?_⟩
   rw [hql]
   (refine .inl ⟨by (unfold InR; rw [IntKind.wrap_i64]; omega),?_⟩; ((conv=>whnf);repeat(refine⟨rfl,?_⟩;conv=>whnf)))
   refine ⟨by omega,_,zbx (g:=W.next) (k:=u) (by omega) hu,?_⟩
   ((conv=>whnf);repeat(refine⟨rfl,?_⟩;conv=>whnf))
   rw [List.length_map]
   (refine zab (fun q4=>?_) (fun q4=>?_) <;> (rw [q4]; ((conv=>whnf);repeat(refine⟨rfl,?_⟩;conv=>whnf))))
   ·have q4 : i < (W.next.getD u []).length:=by ((try simp only[oo,reduceCtorEq]at*)<;>omega)
    have hx:=zaN hwi (zaM q4)
    rw [zin q4,zfq] at hC4
    generalize hxe : (W.next.getD u []).getD i 0 = x at *
    refine zaz [2,3,5,6,7,8,9,10,11,14,15] (fun ((k,(S,Z,lo,hi,ver),R,o) : Nat × TQ × List (List Int) × List Int)=>[(16,.sc (.int .i64 k))]) (fun (k,(S,Z,lo,hi,ver),R,o)=>hdX W A S Z lo hi ver (zcT 10 R) f ++ zbI 1 zgE R)
     (fun (k,q,R,o)=>k≤(A.next.getD v []).length∧QI W A q R p.toNat o∧(∀ y∈f,q.1 y.toNat = true)∧(∀ y∈o,q.1 y.toNat = true)∧o ++ (zcs A.next.length (rowE W A x ((A.next.getD v []).drop k)) ++ zcs A.next.length (zbc W A ((W.next.getD u []).drop (i + 1)) (A.next.getD v []))) = rowC W A p.toNat∧TQ.mu W A q≤M1) (fun (k,q,R,o)=>(A.next.getD v []).length - k) (0,(S,Z,lo,hi,ver),R,o) ?_
    ((conv=>whnf);repeat(refine⟨rfl,?_⟩;conv=>whnf))
    refine ⟨⟨by omega,hQ,hfs,hos,by rw [List.drop_zero]; exact hC4,hmu⟩,by (repeat' (first | exact trivial | refine And.intro rfl ?_)),rfl,?_⟩
    have hRl4:=hQ.th.len
    clear hQ hfs hos hC4 hmu
    rintro ⟨k,⟨S,Z,lo,hi,ver⟩,R,o⟩ ⟨hk,hQ,hfs,hos,hC5,hmu⟩
    have h1 : lo≤hi:=hQ.lo
    have h2 : hi≤Z.length:=hQ.hi
    have h3 : Z.length≤W.next.length * A.next.length:=hQ.len
    have hRl:=hQ.th.len
    unfold hdX
    ((conv=>whnf);repeat(refine⟨rfl,?_⟩;conv=>whnf))
    (apply zac; focus (repeat' constructor))
    ((conv=>whnf);repeat(refine⟨rfl,?_⟩;conv=>whnf))
    refine ⟨by omega,?_⟩
    rw [hrl]
    ((conv=>whnf);repeat(refine⟨rfl,?_⟩;conv=>whnf))
    refine ⟨by omega,_,zbx (g:=A.next) (k:=v) (by omega) hv,?_⟩
    ((conv=>whnf);repeat(refine⟨rfl,?_⟩;conv=>whnf))
    rw [List.length_map]
    (refine zab (fun q5=>?_) (fun q5=>?_) <;> (rw [q5]; ((conv=>whnf);repeat(refine⟨rfl,?_⟩;conv=>whnf))))
    ·have q5 : k < (A.next.getD v []).length:=by ((try simp only[oo,reduceCtorEq]at*)<;>omega)
     have hy:=zaN hai (zaM q5)
     rw [zkX q5,zfq] at hC5
     generalize hye : (A.next.getD v []).getD k 0 = y at *
     have hgp : GoodE W A (x,y):=⟨hx,hy⟩
     obtain ⟨t1,t2,t3,t4⟩:=zn3 hQ hgp
     have hA:=ziI hWA hNM hM x y hgp (S,Z,lo,hi,ver) h1 h2 (by dsimp only; omega) (zcT 10 R) f (zbI 1 zgE R)
     have ec : zbX A.next.length (x,y) = x.toNat * A.next.length + y.toNat:=rfl
     have emx : x * (A.next.length : Int) = ((x.toNat * A.next.length : Nat) : Int):=by rw [Int.natCast_mul,Int.toNat_of_nonneg hx.1]
     have hcl:=zeW hgp
     refine ⟨by omega,?_⟩
     rw [hql]
     (refine .inl ⟨by (unfold InR; rw [IntKind.wrap_i64]; omega),?_⟩; ((conv=>whnf);repeat(refine⟨rfl,?_⟩;conv=>whnf)))
     refine ⟨by omega,_,zbx (g:=W.next) (k:=u) (by omega) hu,?_⟩
     ((conv=>whnf);repeat(refine⟨rfl,?_⟩;conv=>whnf))
     refine ⟨by omega,_,by rw [zaW (l:=W.next.getD u []) (k:=i) (by omega) q4,hxe],?_⟩
     ((conv=>whnf);repeat(refine⟨rfl,?_⟩;conv=>whnf))
     refine ⟨by omega,?_⟩
     rw [hrl]
     ((conv=>whnf);repeat(refine⟨rfl,?_⟩;conv=>whnf))
     refine ⟨by omega,_,zbx (g:=A.next) (k:=v) (by omega) hv,?_⟩
     ((conv=>whnf);repeat(refine⟨rfl,?_⟩;conv=>whnf))
     refine ⟨by omega,_,by rw [zaW (l:=A.next.getD v []) (k:=k) (by omega) q5,hye],?_⟩
     ((conv=>whnf);repeat(refine⟨rfl,?_⟩;conv=>whnf))
     generalize hq2 : tAdd (fitE W A (x,y)) (zbX A.next.length (x,y)) (S,Z,lo,hi,ver) = q2 at *
     obtain ⟨S2,Z2,lo2,hi2,ver2⟩:=q2
     dsimp only at t2 t3
     unfold hd10 at hA
     dsimp only at hA
     generalize x.toNat * A.next.length = xm at *
     generalize hce : zbX A.next.length (x,y) = c2 at *
     (refine .inr (.inr (.inr (.inr (.inl ⟨_,_,_,hA,?_⟩)))); ((conv=>whnf);repeat(refine⟨rfl,?_⟩;conv=>whnf)))
     rw [emx]
     (refine .inl ⟨by (unfold InR; rw [IntKind.wrap_i64]; omega),?_⟩; ((conv=>whnf);repeat(refine⟨rfl,?_⟩;conv=>whnf)))
     (refine .inl ⟨by (unfold InR; rw [IntKind.wrap_i64]; omega),?_⟩; ((conv=>whnf);repeat(refine⟨rfl,?_⟩;conv=>whnf)))
     (refine ⟨by omega,(by first | omega | (simp; done) | (simp; omega) | (simp only [ll]; omega)),?_⟩; ((conv=>whnf);repeat(refine⟨rfl,?_⟩;conv=>whnf)))
     refine ⟨_,zay c2 (by omega) (by omega),?_⟩
     ((conv=>whnf);repeat(refine⟨rfl,?_⟩;conv=>whnf))
     rw [t3]
     have hol : o.length≤(rowC W A p.toNat).length:=by rw [← hC5,List.length_append]; omega
     cases r : fitE W A (x,y)
     ·rw [r,if_neg (by decide)] at hC5
      ((conv=>whnf);repeat(refine⟨rfl,?_⟩;conv=>whnf))
      (refine .inl ⟨by (unfold InR; rw [IntKind.wrap_i64]; omega),?_⟩; ((conv=>whnf);repeat(refine⟨rfl,?_⟩;conv=>whnf)))
      refine ⟨(k + 1,(S2,Z2,lo2,hi2,ver2),R,o),⟨by omega,t1,fun z hz=>t2 _ (hfs z hz),fun z hz=>t2 _ (hos z hz),hC5,Nat.le_trans t4 hmu⟩,by dsimp only; omega,?_⟩
      exact zan (by (repeat' (first | exact trivial | refine And.intro rfl ?_))) rfl
     ·rw [r,if_pos rfl,show zcs A.next.length [(x,y)] = [(c2 : Int)] by unfold zcs; rw [List.map_singleton,hce]] at hC5
      rw [r] at t3
      have hcur:=(t1.th.cur p3).1
      have hR2:=t1.th.len
      have hne : p.toNat≠R.length:=by omega
      ((conv=>whnf);repeat(refine⟨rfl,?_⟩;conv=>whnf))
      (refine ⟨by omega,(by first | omega | (simp; done) | (simp; omega) | (simp only [ll]; omega)),?_⟩; ((conv=>whnf);repeat(refine⟨rfl,?_⟩;conv=>whnf)))
      refine ⟨_,zcz (i:=p.toNat) (by omega) (by omega),?_⟩
      ((conv=>whnf);repeat(refine⟨rfl,?_⟩;conv=>whnf))
      rw [emx]
      (refine .inl ⟨by (unfold InR; rw [IntKind.wrap_i64]; omega),?_⟩; ((conv=>whnf);repeat(refine⟨rfl,?_⟩;conv=>whnf)))
      (refine .inl ⟨by (unfold InR; rw [IntKind.wrap_i64]; omega),?_⟩; ((conv=>whnf);repeat(refine⟨rfl,?_⟩;conv=>whnf)))
      rw [hcur]
      refine zlK ?_
      ((conv=>whnf);repeat(refine⟨rfl,?_⟩;conv=>whnf))
      (repeat (first | (refine zce 0 rfl ?_; ((conv=>whnf);repeat(refine⟨rfl,?_⟩;conv=>whnf))) | (refine zcd 0 rfl ?_; ((conv=>whnf);repeat(refine⟨rfl,?_⟩;conv=>whnf))) | (refine zce 1 rfl ?_; ((conv=>whnf);repeat(refine⟨rfl,?_⟩;conv=>whnf))) | (refine zcd 1 rfl ?_; ((conv=>whnf);repeat(refine⟨rfl,?_⟩;conv=>whnf)))))
      refine zjk (by omega) ?_
      ((conv=>whnf);repeat(refine⟨rfl,?_⟩;conv=>whnf))
      rw [hcur]
      ((conv=>whnf);repeat(refine⟨rfl,?_⟩;conv=>whnf))
      refine ⟨by unfold zaj; simp only [List.length_drop,List.length_take,List.length_cons,List.length_nil]; omega,?_⟩
      ((conv=>whnf);repeat(refine⟨rfl,?_⟩;conv=>whnf))
      refine zjY (o ++ [((xm : Nat) : Int) + y]) (by omega) ?_ ?_
      ·exact zms
      ((conv=>whnf);repeat(refine⟨rfl,?_⟩;conv=>whnf))
      (refine ⟨by omega,(by first | omega | (simp; done) | (simp; omega) | (simp only [ll]; omega)),?_⟩; ((conv=>whnf);repeat(refine⟨rfl,?_⟩;conv=>whnf)))
      refine ⟨_,zcz (i:=p.toNat) (by omega) (by omega),?_⟩
      ((conv=>whnf);repeat(refine⟨rfl,?_⟩;conv=>whnf))
      (refine .inl ⟨by (unfold InR; rw [IntKind.wrap_i64]; omega),?_⟩; ((conv=>whnf);repeat(refine⟨rfl,?_⟩;conv=>whnf)))
      have hQ2 : QI W A (S2,Z2,lo2,hi2,ver2) (R.set p.toNat (o ++ [(c2 : Int)])) p.toNat (o ++ [(c2 : Int)]):=⟨t1.th.put p3 _,t1.lo,t1.hi,t1.len,t1.fit⟩
      refine ⟨(k + 1,(S2,Z2,lo2,hi2,ver2),R.set p.toNat (o ++ [(c2 : Int)]),o ++ [(c2 : Int)]),⟨by omega,hQ2,fun z hz=>t2 _ (hfs z hz),fun z hz=>?_,by rw [List.append_assoc]; exact hC5,Nat.le_trans t4 hmu⟩,by dsimp only; omega,?_⟩
      ·rcases List.mem_append.1 hz with q | q
       ·exact t2 _ (hos z q)
       ·rw [List.mem_singleton] at q; subst q; rw [Int.toNat_natCast]; exact t3
      ·dsimp only
       rw [show ((xm : Nat) : Int) + y = (c2 : Int) by omega]
       refine zal (R.length + 10) (by simp; omega) (by simp) (by (repeat' (first | exact trivial | exact rfl | exact DeepM.refl _ | exact DeepML.refl _ | exact DeepMLL.refl _ | refine And.intro ?_ ?_ | (simp [zai,zae,zak,-List.map_take,-List.map_drop]; done)))) ⟨⟨rfl,.refl _,zad _ hpW⟩,⟨rfl,.refl _,zad _ hpA⟩,⟨rfl,.refl _,by simp [zae,zai]⟩,⟨rfl,.refl _,by simp [zae,zai]⟩,⟨rfl,rfl,rfl,zah ?_,zc9 (by simp; omega)⟩,⟨rfl,rfl,rfl,.refl _,zaa _ (zez _ _)⟩,⟨rfl,.refl _,by simp [zae,zai]⟩,⟨rfl,.refl _,by simp [zae,zai]⟩,⟨rfl,rfl,rfl,.refl _,zaa _ (zdB _)⟩,⟨rfl,rfl,rfl,.refl _,zaa _ (zdB _)⟩,zgk zid⟩
       exact zfi (by omega) (by omega) (o ++ [(c2 : Int)]) (by simp)
    ·have q5 : k = (A.next.getD v []).length:=by have : ¬ k < (A.next.getD v []).length:=by ((try simp only[oo,reduceCtorEq]at*)<;>omega)
                                                 omega
     subst q5
     rw [List.drop_length] at hC5
     (refine .inl ⟨by (unfold InR; rw [IntKind.wrap_i64]; omega),?_⟩; ((conv=>whnf);repeat(refine⟨rfl,?_⟩;conv=>whnf)))
     refine ⟨(i + 1,(S,Z,lo,hi,ver),R,o),⟨by omega,hQ,hfs,hos,hC5,hmu⟩,by dsimp only; omega,?_⟩
     exact zan (by (repeat' (first | exact trivial | refine And.intro rfl ?_))) rfl
   ·have q4 : i = (W.next.getD u []).length:=by have : ¬ i < (W.next.getD u []).length:=by ((try simp only[oo,reduceCtorEq]at*)<;>omega)
                                                omega
    subst q4
    rw [List.drop_length,show zcs A.next.length (zbc W A [] (A.next.getD v [])) = [] from rfl,List.append_nil] at hC4
    have hQ3 : QI W A (S,Z,lo,hi,ver) R (W.next.length * A.next.length) []:=by
     subst hC4
     exact ⟨hQ.th.fin p3 hos,hQ.lo,hQ.hi,hQ.len,hQ.fit⟩
    refine ⟨((S,Z,lo,hi,ver),R),⟨hQ3,hfs⟩,by dsimp only; omega,?_⟩
    exact zan (by (repeat' (first | exact trivial | refine And.intro rfl ?_))) rfl
  ·have q0 : lo = hi:=by have : ¬ lo < hi:=by ((try simp only[oo,reduceCtorEq]at*)<;>omega)
                         omega
   subst q0
   have hl : TQ.lst (S,Z,lo,lo,ver) = []:=by
    unfold TQ.lst
    dsimp only
    rw [List.drop_eq_nil_of_le (by rw [List.length_take]; omega)]
   refine ⟨((S,Z,lo,lo,ver),R),⟨hQ,hl,hfs⟩,zal 10 (by simp) rfl (by (repeat' (first | exact trivial | exact rfl | exact DeepM.refl _ | exact DeepML.refl _ | exact DeepMLL.refl _ | refine And.intro ?_ ?_ | (simp [zai,zae,zak,-List.map_take,-List.map_drop]; done)))) ⟨⟨rfl,.refl _,zad _ hpW⟩,⟨rfl,.refl _,zad _ hpA⟩,⟨rfl,.refl _,by simp [zae,zai]⟩,⟨rfl,.refl _,by simp [zae,zai]⟩,⟨rfl,rfl,rfl,ze6 (c:=zgE) (fun i hi=>by simp [zfH]) (fun i hi=>?_),zaa _ (zaP _)⟩,⟨rfl,rfl,rfl,.refl _,zaa _ (zez _ _)⟩,⟨rfl,.refl _,by simp [zae,zai]⟩,⟨rfl,.refl _,by simp [zae,zai]⟩,⟨rfl,rfl,rfl,.refl _,zaa _ (zdB _)⟩,⟨rfl,rfl,rfl,.refl _,zaa _ (zdB _)⟩,zgJ _⟩⟩
   show (zbI 1 zgE R)[i]? = _
   exact zgl hi
 rintro ⟨q,R⟩ ⟨hQ,hql,hfs⟩
 have hA:=hans q R hQ hql (hst0 q hfs)
 have hRl:=hQ.th.len
 have hT:=hQ.th
 rw [hql] at hT
 obtain ⟨hin,hFR⟩:=(hT.inR hb).resolve_right (by omega)
 have hB1:=fun k (hk : k < W.fair.length) F hF=>ziW (W:=W) (A:=A) hNM 23 (fun c=>c / A.next.length) W.next.length (by omega) (fun c hc=>em_quo A.next.length hm c (by omega)) (fun c hc=>Nat.div_lt_of_lt_mul (by rw [Nat.mul_comm]; exact hc)) (W.fair.getD k []) (zed hWA.fw.fairEach k) (zbL w6 k) F hF q (zba R) f
 have hB2:=fun k (hk : k < A.fair.length) F hF=>ziW (W:=W) (A:=A) hNM 24 (fun c=>c % A.next.length) A.next.length (by omega) (fun c hc=>em_rem A.next.length hm c (by omega)) (fun c hc=>Nat.mod_lt _ hm) (A.fair.getD k []) (zed hWA.fa.fairEach k) (zbL a7 k) F hF q (zba R) f
 unfold hd10 at hB1 hB2 ⊢
 unfold WorldD.cells AutoD.cells at hB1 hB2 ⊢
 ((conv=>whnf);repeat(refine⟨rfl,?_⟩;conv=>whnf))
 refine zaA (zbp 10 0 1 (by simp) rfl rfl) ?_
 generalize hF1 : mapT (fun l c=>setB l (c / A.next.length)) W.fair = F1
 refine zaz [2,3,5,6,7,11,19,20] (fun k : Nat=>[(21,.sc (.int .i64 k))]) (fun k=>hd10 W A q (zba R) f ++ [.row true [.own 11 (F1 k).length 0 (F1 k).length],.vec true (F1 k).length 1 (zdW (W.next.length * A.next.length) (F1 k))]) (fun k=>k≤W.fair.length) (fun k=>W.fair.length - k) 0 ?_
 ((conv=>whnf);repeat(refine⟨rfl,?_⟩;conv=>whnf))
 refine ⟨by omega,by (repeat' (first | exact trivial | refine And.intro rfl ?_)),by rw [← hF1]; rfl,?_⟩
 rintro k hk
 have eL : (F1 k).length = k:=by rw [← hF1]; exact zmk hk
 unfold hd10
 ((conv=>whnf);repeat(refine⟨rfl,?_⟩;conv=>whnf))
 (apply zac; focus (repeat' constructor))
 ((conv=>whnf);repeat(refine⟨rfl,?_⟩;conv=>whnf))
 rw [List.length_map]
 (refine zab (fun q0=>?_) (fun q0=>?_) <;> (rw [q0]; ((conv=>whnf);repeat(refine⟨rfl,?_⟩;conv=>whnf))))
 ·have q0 : k < W.fair.length:=by ((try simp only[oo,reduceCtorEq]at*)<;>omega)
  have hB:=hB1 k q0 (F1 k) (by omega)
  have eS : F1 (k + 1) = F1 k ++ [fun c=>setB (W.fair.getD k []) (c / A.next.length)]:=by rw [← hF1]; exact zkY q0
  have eL2 : (F1 (k + 1)).length = (F1 k).length + 1:=by rw [eS,List.length_append]; rfl
  rw [← eS] at hB
  refine ⟨by omega,_,zbx (g:=W.fair) (k:=k) (by omega) q0,?_⟩
  ((conv=>whnf);repeat(refine⟨rfl,?_⟩;conv=>whnf))
  (refine .inr (.inr (.inr (.inr (.inl ⟨_,_,_,hB,?_⟩)))); ((conv=>whnf);repeat(refine⟨rfl,?_⟩;conv=>whnf)))
  (refine .inl ⟨by (unfold InR; rw [IntKind.wrap_i64]; omega),?_⟩; ((conv=>whnf);repeat(refine⟨rfl,?_⟩;conv=>whnf)))
  refine ⟨k + 1,by omega,by dsimp only; omega,?_⟩
  dsimp only
  rw [eL2]
  exact zan (by (repeat' (first | exact trivial | refine And.intro rfl ?_))) rfl
 have q0 : k = W.fair.length:=by have : ¬ k < W.fair.length:=by ((try simp only[oo,reduceCtorEq]at*)<;>omega)
                                 omega
 subst q0
 generalize hG1 : F1 W.fair.length = G1 at *
 generalize hF2 : (fun k=>G1 ++ mapT (fun l c=>setB l (c % A.next.length)) A.fair k) = F2
 refine zaz [3,6,7,11,19,20] (fun k : Nat=>[(22,.sc (.int .i64 k))]) (fun k=>hd10 W A q (zba R) f ++ [.row true [.own 11 (F2 k).length 0 (F2 k).length],.vec true (F2 k).length 1 (zdW (W.next.length * A.next.length) (F2 k))]) (fun k=>k≤A.fair.length) (fun k=>A.fair.length - k) 0 ?_
 ((conv=>whnf);repeat(refine⟨rfl,?_⟩;conv=>whnf))
 refine ⟨by omega,by (repeat' (first | exact trivial | refine And.intro rfl ?_)),by rw [← hF2]; simp [mapT,hG1]; rfl,?_⟩
 rintro k hk
 have eL' : (F2 k).length = W.fair.length + k:=by rw [← hF2]; dsimp only; rw [List.length_append,eL,zmk hk]
 unfold hd10
 ((conv=>whnf);repeat(refine⟨rfl,?_⟩;conv=>whnf))
 (apply zac; focus (repeat' constructor))
 ((conv=>whnf);repeat(refine⟨rfl,?_⟩;conv=>whnf))
 rw [List.length_map]
 (refine zab (fun q0=>?_) (fun q0=>?_) <;> (rw [q0]; ((conv=>whnf);repeat(refine⟨rfl,?_⟩;conv=>whnf))))
 ·have q0 : k < A.fair.length:=by ((try simp only[oo,reduceCtorEq]at*)<;>omega)
  have hB:=hB2 k q0 (F2 k) (by omega)
  have eS : F2 (k + 1) = F2 k ++ [fun c=>setB (A.fair.getD k []) (c % A.next.length)]:=by rw [← hF2]; dsimp only; rw [zkY q0,List.append_assoc]
  have eL2 : (F2 (k + 1)).length = (F2 k).length + 1:=by rw [eS,List.length_append]; rfl
  rw [← eS] at hB
  refine ⟨by omega,_,zbx (g:=A.fair) (k:=k) (by omega) q0,?_⟩
  ((conv=>whnf);repeat(refine⟨rfl,?_⟩;conv=>whnf))
  (refine .inr (.inr (.inr (.inr (.inl ⟨_,_,_,hB,?_⟩)))); ((conv=>whnf);repeat(refine⟨rfl,?_⟩;conv=>whnf)))
  (refine .inl ⟨by (unfold InR; rw [IntKind.wrap_i64]; omega),?_⟩; ((conv=>whnf);repeat(refine⟨rfl,?_⟩;conv=>whnf)))
  refine ⟨k + 1,by omega,by dsimp only; omega,?_⟩
  dsimp only
  rw [eL2]
  exact zan (by (repeat' (first | exact trivial | refine And.intro rfl ?_))) rfl
 have q0 : k = A.fair.length:=by have : ¬ k < A.fair.length:=by ((try simp only[oo,reduceCtorEq]at*)<;>omega)
                                 omega
 subst q0
 have hset : F2 A.fair.length = zhl W A:=by
  rw [← hF2]
  dsimp only
  rw [← hG1,← hF1]
  unfold mapT zhl
  rw [List.take_length,List.take_length]
 rw [hset] at eL' ⊢
 have hWa:=znK R (by omega) hin hFR (zhl W A) (by omega)
 rw [hRl] at hWa
 have hdl : dbls (W.next.length * A.next.length) (zhl W A) = D.lst 1 (List.drop 0 (List.take (zhl W A).length (zdW (W.next.length * A.next.length) (zhl W A)))):=by rw [zav (by simp)]; rfl
 have hgl : zbe R = D.lst 1 (List.drop 0 (List.take (W.next.length * A.next.length) (zba R))):=by rw [zav (by simp; omega)]; rfl
 rw [hdl,hgl] at hWa
 (refine .inr (.inr (.inr (.inr (.inr (.inl ⟨rfl,_,_,(by (repeat' (first | exact Deep.refl _ | exact Deep.none _ | exact zaF _ | exact DeepL.nil | exact DeepLL.nil | refine Deep.agg _ _ ?_ | refine Deep.tup _ _ ?_ | refine Deep.own _ _ _ _ _ _ _ _ rfl ?_ | refine Deep.loc _ _ _ _ _ rfl ?_ | refine Deep.ifc _ _ _ ?_ | refine Deep.fn _ _ _ _ _ ?_ ?_ | refine DeepL.cons _ _ _ _ ?_ ?_ | refine DeepLL.cons _ _ _ _ ?_ ?_ | exact zaq _))),hWa,?_⟩))))); ((conv=>whnf);repeat(refine⟨rfl,?_⟩;conv=>whnf)))
 refine zaT [11,23] (fun k : Nat=>[(24,.sc (.int .i64 k))]) (fun k=>[]) (fun k=>k≤f.length∧∀ i,i < k→fwB R (zhl W A) (f.getD i 0).toNat = false) (fun k=>f.length - k) 0 ?_
 ((conv=>whnf);repeat(refine⟨rfl,?_⟩;conv=>whnf))
 refine ⟨⟨by omega,fun i hi=>by omega⟩,by (repeat' (first | exact trivial | refine And.intro rfl ?_)),rfl,?_⟩
 rintro k ⟨hk,hno⟩
 ((conv=>whnf);repeat(refine⟨rfl,?_⟩;conv=>whnf))
 (apply zac; focus (repeat' constructor))
 ((conv=>whnf);repeat(refine⟨rfl,?_⟩;conv=>whnf))
 (refine zab (fun q0=>?_) (fun q0=>?_) <;> (rw [q0]; ((conv=>whnf);repeat(refine⟨rfl,?_⟩;conv=>whnf))))
 ·have q0 : k < f.length:=by ((try simp only[oo,reduceCtorEq]at*)<;>omega)
  have hxm:=zaM q0
  have hx:=hF0i _ hxm
  have hn2:=fun i hi=>hno i hi
  (refine ⟨by omega,(by first | omega | (simp; done) | (simp; omega) | (simp only [ll]; omega)),?_⟩; ((conv=>whnf);repeat(refine⟨rfl,?_⟩;conv=>whnf)))
  refine ⟨_,zaW (l:=f) (k:=k) (by omega) q0,?_⟩
  ((conv=>whnf);repeat(refine⟨rfl,?_⟩;conv=>whnf))
  generalize hxe : f.getD k 0 = x at *
  refine ⟨by omega,_,zay x.toNat (by omega) (by omega),?_⟩
  ((conv=>whnf);repeat(refine⟨rfl,?_⟩;conv=>whnf))
  cases r : fwB R (zhl W A) x.toNat
  ·((conv=>whnf);repeat(refine⟨rfl,?_⟩;conv=>whnf))
   (refine .inl ⟨by (unfold InR; rw [IntKind.wrap_i64]; omega),?_⟩; ((conv=>whnf);repeat(refine⟨rfl,?_⟩;conv=>whnf)))
   refine ⟨k + 1,⟨by omega,fun i hi=>?_⟩,by dsimp only; omega,zan (by (repeat' (first | exact trivial | refine And.intro rfl ?_))) rfl⟩
   by_cases e : i = k
   ·subst e; rw [hxe]; exact r
   ·exact hno i (by omega)
  ·((conv=>whnf);repeat(refine⟨rfl,?_⟩;conv=>whnf))
   exact zbW (by rw [hA.2 ⟨x,hxm,fwB_iff.1 r⟩])
 ·have q0 : k = f.length:=by have : ¬ k < f.length:=by ((try simp only[oo,reduceCtorEq]at*)<;>omega)
                             omega
  subst q0
  refine zbW ?_
  cases ha : ans
  ·rfl
  ·exfalso
   obtain ⟨x,hx,hFw⟩:=hA.1 ha
   obtain ⟨i,hi,rfl⟩:=List.mem_iff_getElem.1 hx
   have:=hno i hi
   rw [List.getD_eq_getElem?_getD,List.getElem?_eq_getElem hi,Option.getD_some,fwB_iff.2 hFw] at this
   cases this
end
end
section
open Go.RowKit
theorem findR_is {W : WorldD} {A : AutoD} (hb : BigW W A) : ∃ s l,znc W A (finE W A).1 (finE W A).2 (zb3 W A).2 = .tup [.agg [zaD s,zaD l],.sc (.bool (ansE W A)),.sc (.int .i64 0)]∧(ansE W A = false→s = []∧l = []):=by
 obtain ⟨hN,hg⟩:=zhR hb
 have hp:=pE_iff (F:=zdY W A (finE W A).1) hN.inG
 have hA : ansE W A = true↔∃ v,v < (finE W A).2.length∧Fw (finE W A).2 (zdY W A (finE W A).1) v:=by unfold ansE; simp only [decide_eq_true_eq]
 rw [← hA] at hp
 unfold znc
 by_cases h : pE (finE W A).2 (zdY W A (finE W A).1) < 0
 ·rw [if_pos h]
  have : ansE W A = false:=by
   cases e : ansE W A
   ·rfl
   ·exact absurd h (hp.2 e)
  exact ⟨[],[],by rw [this],fun _=>⟨rfl,rfl⟩⟩
 ·rw [if_neg h,hp.1 h]
  exact ⟨_,_,rfl,fun q=>by cases q⟩
end
section
open Go.RowKit
theorem zkr {k : Int} {a : Tree} (h : Small a) : Small (mk1 k a):=.mk _ (by simp [mk1,Tree.width,Tree.kids]) fun j hj=>by
 simp [mk1,Tree.width,Tree.kids] at hj
 subst hj
 exact h
def c87 : PC:=.seq (.ops [q 4 (.box (.tmp 1)),q 5 (.box (.tmp 2)),q 6 (.alloc [(.int .i64 0),(.int .i64 0),(.slice none 0 0)])] false) (.seq (.ops [qm 7 0,q 8 (.loadA 3 (.tmp 4)),q 9 (.loadA 3 (.tmp 5)),q 10 (.bslice 3 2 [(.tmp 8),(.tmp 9)]),q 11 (.build [(.int .i64 0),(.int .i64 0),(.slice none 0 0)] [(0,1,(.tmp 7)),(2,1,(.tmp 10))]),qn (.store 3 (.tmp 6) (.tmp 11))] false) (.ret))
theorem c87_ok : FunOK Tryz.prog 87 12 [.agg 6 3] c87:=⟨⟨Tryz.f87,Tryz.func87,rfl,by kernel_rfl,rfl,by kernel_rfl⟩⟩
theorem zlS (k : Int) (a b : Tree) : PCall Tryz.prog 87 [.sc (.int .i64 k),za7 a,za7 b] (za7 (mk2 k a b)):=by
 refine zag c87_ok (by simp) (by simp [zao,Pure,zap]) ?_ (zap _)
 (apply zac; focus (repeat' constructor))
 ((conv=>whnf);repeat(refine⟨rfl,?_⟩;conv=>whnf))
 (repeat' (first | exact Deep.refl _ | exact Deep.none _ | exact zaF _ | exact DeepL.nil | exact DeepLL.nil | refine Deep.agg _ _ ?_ | refine Deep.tup _ _ ?_ | refine Deep.own _ _ _ _ _ _ _ _ rfl ?_ | refine Deep.loc _ _ _ _ _ rfl ?_ | refine Deep.ifc _ _ _ ?_ | refine Deep.fn _ _ _ _ _ ?_ ?_ | refine DeepL.cons _ _ _ _ ?_ ?_ | refine DeepLL.cons _ _ _ _ ?_ ?_ | exact zaq _))
def c48 : PC:=.seq (.ops [q 3 (.box (.tmp 1)),q 4 (.alloc [(.int .i64 0),(.int .i64 0),(.slice none 0 0)])] false) (.seq (.ops [qm 5 0,q 6 (.loadA 3 (.tmp 3)),q 7 (.bslice 3 1 [(.tmp 6)]),q 8 (.build [(.int .i64 0),(.int .i64 0),(.slice none 0 0)] [(0,1,(.tmp 5)),(2,1,(.tmp 7))]),qn (.store 3 (.tmp 4) (.tmp 8))] false) (.ret))
theorem c48_ok : FunOK Tryz.prog 48 9 [.agg 4 3] c48:=⟨⟨Tryz.f48,Tryz.func48,rfl,by kernel_rfl,rfl,by kernel_rfl⟩⟩
theorem ref_one (k : Int) (a : Tree) : PCall Tryz.prog 48 [.sc (.int .i64 k),za7 a] (za7 (mk1 k a)):=by
 refine zag c48_ok (by simp) (by simp [zao,Pure,zap]) ?_ (zap _)
 (apply zac; focus (repeat' constructor))
 ((conv=>whnf);repeat(refine⟨rfl,?_⟩;conv=>whnf))
 (repeat' (first | exact Deep.refl _ | exact Deep.none _ | exact zaF _ | exact DeepL.nil | exact DeepLL.nil | refine Deep.agg _ _ ?_ | refine Deep.tup _ _ ?_ | refine Deep.own _ _ _ _ _ _ _ _ rfl ?_ | refine Deep.loc _ _ _ _ _ rfl ?_ | refine Deep.ifc _ _ _ ?_ | refine Deep.fn _ _ _ _ _ ?_ ?_ | refine DeepL.cons _ _ _ _ ?_ ?_ | refine DeepLL.cons _ _ _ _ ?_ ?_ | exact zaq _))
def c49 : PC:=.seq (.ops [q 4 (.box (.tmp 1)),q 5 (.box (.tmp 2)),q 6 (.alloc [(.int .i64 0),(.int .i64 0),(.slice none 0 0)])] false) (.seq (.ops [qm 7 0,q 8 (.loadA 3 (.tmp 4)),q 9 (.loadA 3 (.tmp 5)),q 10 (.bslice 3 2 [(.tmp 8),(.tmp 9)]),q 11 (.build [(.int .i64 0),(.int .i64 0),(.slice none 0 0)] [(0,1,(.tmp 7)),(2,1,(.tmp 10))]),qn (.store 3 (.tmp 6) (.tmp 11))] false) (.ret))
theorem c49_ok : FunOK Tryz.prog 49 12 [.agg 6 3] c49:=⟨⟨Tryz.f49,Tryz.func49,rfl,by kernel_rfl,rfl,by kernel_rfl⟩⟩
theorem zoB (k : Int) (a b : Tree) : PCall Tryz.prog 49 [.sc (.int .i64 k),za7 a,za7 b] (za7 (mk2 k a b)):=by
 refine zag c49_ok (by simp) (by simp [zao,Pure,zap]) ?_ (zap _)
 (apply zac; focus (repeat' constructor))
 ((conv=>whnf);repeat(refine⟨rfl,?_⟩;conv=>whnf))
 (repeat' (first | exact Deep.refl _ | exact Deep.none _ | exact zaF _ | exact DeepL.nil | exact DeepLL.nil | refine Deep.agg _ _ ?_ | refine Deep.tup _ _ ?_ | refine Deep.own _ _ _ _ _ _ _ _ rfl ?_ | refine Deep.loc _ _ _ _ _ rfl ?_ | refine Deep.ifc _ _ _ ?_ | refine Deep.fn _ _ _ _ _ ?_ ?_ | refine DeepL.cons _ _ _ _ ?_ ?_ | refine DeepLL.cons _ _ _ _ ?_ ?_ | exact zaq _))
def c88 : PC:=.seq (.ops [q 2 (.alloc [(.int .i64 0),(.int .i64 0),(.slice none 0 0)])] false) (.seq (.ops [qm 3 0,q 4 (.build [(.int .i64 0),(.int .i64 0),(.slice none 0 0)] [(0,1,(.tmp 3))]),qn (.store 3 (.tmp 2) (.tmp 4))] false) (.ret))
theorem c88_ok : FunOK Tryz.prog 88 5 [.agg 2 3] c88:=⟨⟨Tryz.f88,Tryz.func88,rfl,by kernel_rfl,rfl,by kernel_rfl⟩⟩
theorem zkt (k : Int) : PCall Tryz.prog 88 [.sc (.int .i64 k)] (za7 (mk0 k 0)):=by
 refine zag c88_ok (by simp) (by simp [zao,Pure]) ?_ (zap _)
 (apply zac; focus (repeat' constructor))
 ((conv=>whnf);repeat(refine⟨rfl,?_⟩;conv=>whnf))
 (repeat' (first | exact Deep.refl _ | exact Deep.none _ | exact zaF _ | exact DeepL.nil | exact DeepLL.nil | refine Deep.agg _ _ ?_ | refine Deep.tup _ _ ?_ | refine Deep.own _ _ _ _ _ _ _ _ rfl ?_ | refine Deep.loc _ _ _ _ _ rfl ?_ | refine Deep.ifc _ _ _ ?_ | refine Deep.fn _ _ _ _ _ ?_ ?_ | refine DeepL.cons _ _ _ _ ?_ ?_ | refine DeepLL.cons _ _ _ _ ?_ ?_ | exact zaq _))
def c50 : PC:=.seq (.ops [q 4 (.alloc [(.int .i64 0),(.int .i64 0),(.slice none 0 0)])] false) (.seq (.ops [qm 5 0,qm 6 1,q 7 (.build [(.int .i64 0),(.int .i64 0),(.slice none 0 0)] [(0,1,(.tmp 5)),(1,1,(.tmp 6))]),qn (.store 3 (.tmp 4) (.tmp 7))] false) (.ret))
theorem c50_ok : FunOK Tryz.prog 50 8 [.agg 4 3] c50:=⟨⟨Tryz.f50,Tryz.func50,rfl,by kernel_rfl,rfl,by kernel_rfl⟩⟩
theorem zmj (k n : Int) : PCall Tryz.prog 50 [.sc (.int .i64 k),.sc (.int .i64 n)] (za7 (mk0 k n)):=by
 refine zag c50_ok (by simp) (by simp [zao,Pure]) ?_ (zap _)
 (apply zac; focus (repeat' constructor))
 ((conv=>whnf);repeat(refine⟨rfl,?_⟩;conv=>whnf))
 (repeat' (first | exact Deep.refl _ | exact Deep.none _ | exact zaF _ | exact DeepL.nil | exact DeepLL.nil | refine Deep.agg _ _ ?_ | refine Deep.tup _ _ ?_ | refine Deep.own _ _ _ _ _ _ _ _ rfl ?_ | refine Deep.loc _ _ _ _ _ rfl ?_ | refine Deep.ifc _ _ _ ?_ | refine Deep.fn _ _ _ _ _ ?_ ?_ | refine DeepL.cons _ _ _ _ ?_ ?_ | refine DeepLL.cons _ _ _ _ ?_ ?_ | exact zaq _))
end
end Go.Proofs.YtojegakfidinaaaGreat
