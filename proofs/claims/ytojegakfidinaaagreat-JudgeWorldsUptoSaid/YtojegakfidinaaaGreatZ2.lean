/-
  Parts of a proof, joined. No statement is proved here.
-/
import Derived.Test.YtojegakfidinaaaGreatZ1
import Derived.DeepKeys4
namespace Go.Proofs.YtojegakfidinaaaGreat
set_option linter.unusedSimpArgs false
set_option linter.unusedVariables false
set_option maxRecDepth 100000
section
open Go.RowKit Go.ChangeShapes Go.WideShapes Go.ChangeAt
def Lett (l : List Int) : Prop:=∀ x∈l,0≤x∧x < 18446744073709551616
end
section
open Go.RowKit
section
variable {α : Type}
def zcT (b : Nat) (L : List (List α)) : List (List D):=(List.range L.length).map fun j=>[.own (j + b) (L.getD j []).length 0 (L.getD j []).length]
def zbI (esz : Nat) (c : α→List D) (L : List (List α)) : List AObj:=L.map fun l=>.vec true l.length esz (l.map c)
@[simp] theorem ogRows_len (b : Nat) (L : List (List α)) : (zcT b L).length = L.length:=by simp [zcT]
@[simp] theorem zer (esz : Nat) (c : α→List D) (L : List (List α)) : (zbI esz c L).length = L.length:=by simp [zbI]
theorem zcz {b : Nat} {L : List (List α)} {z i : Nat} (hz : z = i) (h : i < L.length) : (zcT b L)[z]? = some [.own (i + b) (L.getD i []).length 0 (L.getD i []).length]:=by
 subst hz
 simp [zcT,List.getElem?_map,List.getElem?_range h]
theorem zgD {L : List (List α)} {i : Nat} (h : i < L.length) : L[i]? = some (L.getD i []):=by
 rw [List.getD_eq_getElem?_getD,List.getElem?_eq_getElem h]; rfl
theorem zgl {esz : Nat} {c : α→List D} {L : List (List α)} {i : Nat} (h : i < L.length) : (zbI esz c L)[i]? = some (.vec true (L.getD i []).length esz ((L.getD i []).map c)):=by
 unfold zbI
 rw [List.getElem?_map,zgD h]
 rfl
theorem zm8 {esz : Nat} {c : α→List D} {L : List (List α)} {i : Nat} (l : List α) : (zbI esz c L).set i (.vec true l.length esz (l.map c)) = zbI esz c (L.set i l):=by
 unfold zbI
 rw [List.map_set]
theorem zlM {L : List (List α)} {i j : Nat} {l : List α} (h : i < L.length) : (L.set i l).getD j [] = if j = i then l else L.getD j []:=by
 rw [List.getD_eq_getElem?_getD,List.getElem?_set]
 by_cases e : i = j
 ·subst e; simp [h]
 ·rw [if_neg e,if_neg (fun q=>e q.symm),List.getD_eq_getElem?_getD]
theorem zfi {b : Nat} {L : List (List α)} {z i : Nat} (hz : z = i) (h : i < L.length) (l : List α) {k : Nat} (hk : k = l.length) : (zcT b L).set z [.own (i + b) k 0 k] = zcT b (L.set i l):=by
 subst hz hk
 apply List.ext_getElem?
 intro j
 by_cases hj : j < L.length
 ·rw [zcz rfl (by simpa using hj),zlM h,List.getElem?_set]
  by_cases e : z = j
  ·subst e; simp [h]
  ·rw [if_neg e,zcz rfl hj,if_neg (fun q=>e q.symm)]
 ·rw [List.getElem?_eq_none (by simp; omega),List.getElem?_eq_none (by simp; omega)]
@[simp] theorem zc9 {m b : Nat} {L : List (List α)} (h : b + L.length≤m) : zak m (zcT b L):=by
 unfold zcT
 rw [zhH]
 intro j hj
 have:=List.mem_range.1 hj
 simp only [zae,zai,and_true]
 omega
theorem zk0 {esz m : Nat} {c : α→List D} {L : List (List α)} (hc : ∀ a,zae m (c a)) : ∀ o∈zbI esz c L,o.under m:=by
 intro o ho
 unfold zbI at ho
 obtain ⟨l,_,rfl⟩:=List.mem_map.1 ho
 simp only [AObj.under,zhH]
 exact fun a _=>hc a
theorem ze6 {S : Nat→Bool} {H : List AObj} {b esz : Nat} {c : α→List D} {L : List (List α)} (hS : ∀ i,i < L.length→S (i + b) = true) (hH : ∀ i,i < L.length→H[i + b]? = some (.vec true (L.getD i []).length esz ((L.getD i []).map c))) :
  DeepMLL S H (zcT b L) (L.map fun l=>[.lst esz (l.map c)]):=by
 have e : (L.map fun l=>[D.lst esz (l.map c)]) = (List.range L.length).map fun j=>[D.lst esz ((L.getD j []).map c)]:=by
  apply List.ext_getElem?
  intro j
  by_cases hj : j < L.length
  ·rw [List.getElem?_map,zgD hj,List.getElem?_map,List.getElem?_range hj]; rfl
  ·rw [List.getElem?_eq_none (by simp; omega),List.getElem?_eq_none (by simp; omega)]
 rw [e]
 unfold zcT
 have : ∀ l : List Nat,(∀ j∈l,j < L.length)→DeepMLL S H (l.map fun j=>[D.own (j + b) (L.getD j []).length 0 (L.getD j []).length]) (l.map fun j=>[D.lst esz ((L.getD j []).map c)]):=by
  intro l
  induction l with
  | nil=>intro _; exact .refl _
  | cons j r ih =>
   intro hl
   refine .cons _ _ _ _ (.cons _ _ _ _ (.own _ _ _ _ _ _ _ _ (hS j (hl j (by simp))) (hH j (hl j (by simp))) ?_) (.refl _)) (ih fun k hk=>hl k (by simp [hk]))
   rw [zav (by simp)]
   exact .refl _
 exact this _ fun j hj=>List.mem_range.1 hj
end
theorem zjL {L n : Nat} (id esz k ver : Nat) {env : Env} {H : List AObj} (hL : L≤H.length) (hid : H[id]? = some (.vec true ver 1 (List.replicate k [.sc (.slice none 0 0)]))) :
  St.leB L n env H env (H.set id (.vec true ver 1 ((List.range k).map fun j=>[.own (j + H.length) 0 0 0])) ++ List.replicate k (.vec true 0 esz [])):=fun J F a w hr=>by
 have hidl:=zcJ hid
 have hfree : ∀ i,H.length≤i→J i = none:=fun i hi=>by
  cases e : J i with
  | none=>rfl
  | some s=>have:=hr.dom i (by rw [e]; simp); omega
 let J' : Inj:=fun i=>if H.length≤i∧i < H.length + k then some ⟨false,0,none,esz,0,0⟩ else J i
 have hle : J.le J':=fun i s hs=>⟨s,by
  have : ¬ (H.length≤i∧i < H.length + k):=fun e=>by rw [hfree i e.1] at hs; cases hs
  simp only [J']; rw [if_neg this]; exact hs,Nat.le_refl _,fun _=>rfl⟩
 have hlen : (H.set id (.vec true ver 1 ((List.range k).map fun j=>[D.own (j + H.length) 0 0 0]))).length = H.length:=List.length_set
 have hget : ∀ i,¬ (H.length≤i∧i < H.length + k)→i≠id→(H.set id (.vec true ver 1 ((List.range k).map fun j=>[D.own (j + H.length) 0 0 0])) ++ List.replicate k (AObj.vec true 0 esz []))[i]? = H[i]?:=fun i hi hne=>by
  rcases Nat.lt_or_ge i H.length with q | q
  ·rw [List.getElem?_append_left (by rw [hlen]; exact q),List.getElem?_set_ne (fun e=>hne e.symm)]
  ·rw [List.getElem?_eq_none q,List.getElem?_eq_none (by rw [List.length_append,hlen,List.length_replicate]; omega)]
 have hnew : ∀ i,H.length≤i∧i < H.length + k→(H.set id (.vec true ver 1 ((List.range k).map fun j=>[D.own (j + H.length) 0 0 0])) ++ List.replicate k (AObj.vec true 0 esz []))[i]? = some (.vec true 0 esz []):=fun i hi=>by
  rw [List.getElem?_append_right (by rw [hlen]; omega),hlen,List.getElem?_replicate,if_pos (by omega)]
 have hgid : (H.set id (.vec true ver 1 ((List.range k).map fun j=>[D.own (j + H.length) 0 0 0])) ++ List.replicate k (AObj.vec true 0 esz []))[id]? = some (.vec true ver 1 ((List.range k).map fun j=>[D.own (j + H.length) 0 0 0])):=by
  rw [List.getElem?_append_left (by rw [hlen]; exact hidl),List.getElem?_set_self hidl]
 refine ⟨J',F,⟨hr.defers,hr.size,fun u=>za4 hle (fun _ h=>h) (fun _ _=>rfl) _ _ (hr.tmps u),⟨fun i s hs=>?_,fun i i' s s' b g1 g2 g3 g4=>?_,fun i s b o g1 g2 g3 g4=>?_,hr.ok.lt⟩,fun i hi=>?_⟩,fun i s hi hs=>?_,fun b hb=>hb,fun b ⟨i,s,hs,hb⟩=>?_,fun b hb=>.inl hb⟩
 ·simp only [J'] at hs
  split at hs
  ·rename_i e
   cases hs
   exact ⟨_,hnew i e,rfl,rfl,rfl,rfl,Nat.le_refl _,.inl rfl⟩
  ·rename_i e
   obtain ⟨o,h1,h2⟩:=hr.ok.obj i s hs
   by_cases e2 : i = id
   ·subst e2
    have h1' : H[i]? = some o:=h1
    rw [hid] at h1'
    cases h1'
    obtain ⟨k1,k2,k3,k4,k5,k6⟩:=h2
    refine ⟨_,hgid,k1,k2,k3,by rw [k4]; simp,k5,?_⟩
    rcases k6 with k6 | ⟨b,o,vals,te,t1,t2,t3,t4,t5⟩
    ·exact .inl k6
    ·refine .inr ⟨b,o,vals,te,t1,t2,t3,zcc _ _ fun j x hj=>?_,fun q=>by cases q⟩
     have hjk : j < k:=by
      rcases Nat.lt_or_ge j k with q | q
      ·exact q
      ·rw [List.getElem?_eq_none (by simpa using q)] at hj; cases hj
     rw [List.getElem?_map,List.getElem?_range hjk] at hj
     simp only [Option.map_some,Option.some.injEq] at hj
     subst hj
     obtain ⟨r1,r2⟩:=zbT _ _ j [.sc (.slice none 0 0)] (by rw [List.getElem?_replicate,if_pos hjk]) t4
     refine ⟨rfl,zbl _ _ fun q c hq=>?_⟩
     cases q with
     | zero =>
      simp at hq; subst hq
      obtain ⟨u,p1,p2,p3⟩:=zbs _ _ 0 (.sc (.slice none 0 0)) rfl r2
      simp only [rep] at p3
      refine ⟨u,p1,p2,?_⟩
      simp only [rep]
      refine ⟨⟨false,0,none,esz,0,0⟩,none,0,0,?_,p3,Nat.le_refl _,fun _=>⟨rfl,Nat.le_refl _,Nat.zero_le _,rfl,rfl,.inl rfl⟩⟩
      simp only [J']
      rw [if_pos (by omega)]
     | succ q=>simp at hq
   ·exact ⟨o,by rw [hget i e e2]; exact h1,zbJ hle (fun _ h=>h) (fun _ _=>rfl) (fun _ _=>rfl) h2⟩
 ·simp only [J'] at g1 g2
  split at g1
  ·cases g1; simp [Site.blk] at g3
  ·split at g2
   ·cases g2; simp [Site.blk] at g4
   ·exact hr.ok.one i i' s s' b g1 g2 g3 g4
 ·simp only [J'] at g1
  split at g1
  ·cases g1; simp [Site.blk] at g2
  ·rename_i e
   by_cases e2 : i = id
   ·subst e2
    exact hr.ok.apart i s b _ g1 g2 hid rfl
   ·exact hr.ok.apart i s b o g1 g2 (by rw [← hget i e e2]; exact g3) g4
 ·simp only [J'] at hi
  rw [List.length_append,hlen,List.length_replicate]
  split at hi
  ·omega
  ·have:=hr.dom i hi; omega
 ·have : ¬ (H.length≤i∧i < H.length + k):=by omega
  simp only [J']; rw [if_neg this]; exact hs
 ·simp only [J'] at hs
  split at hs
  ·cases hs; simp [Site.blk] at hb
  ·exact ⟨i,s,hs,hb⟩
theorem zfR {α : Type} (b k : Nat) : ((List.range k).map fun j=>[D.own (j + b) 0 0 0]) = zcT b (List.replicate k ([] : List α)):=by
 unfold zcT
 rw [List.length_replicate]
 refine List.map_congr_left fun j hj=>?_
 have:=List.mem_range.1 hj
 rw [List.getD_eq_getElem?_getD,List.getElem?_replicate,if_pos this]
 rfl
theorem zfG {α : Type} (esz k : Nat) (c : α→List D) : List.replicate k (AObj.vec true 0 esz []) = zbI esz c (List.replicate k []):=by
 unfold zbI
 rw [List.map_replicate]
 rfl
theorem zaK {m : Nat} {G : List AObj} : ∀ (l t : List AObj),(∀ o∈l,o.under m)→zg0 m G (l ++ t) l
 | [],t,_=>by cases t <;> exact trivial
 | o :: r,t,h=>by
  refine ⟨?_,zaK r t fun o ho=>h o (by simp [ho])⟩
  have:=h o (by simp)
  cases o with
  | row q cs=>exact ⟨rfl,.refl _,this⟩
  | vec q v e xs=>exact ⟨rfl,rfl,rfl,.refl _,this⟩
  | mapo q I=>exact ⟨rfl,rfl⟩
theorem zgJ {m : Nat} {G : List AObj} : ∀ l : List AObj,zg0 m G l []
 | []=>trivial
 | _ :: _=>trivial
structure ForH (P : Program) (n : Nat) (p : PC) (Q : Post) (env : Env) (H : List AObj) {ι : Type} (upd : ι→Env) (O : ι→List AObj) (G : ι→Prop) (m : ι→Nat) (i : ι) (e : Env) : Prop where
 good : G i
 start : sameE env (upd i)
 heap : H = O i
 round : ∀ j,G j→appK (upd j) e fun E=>PWp P n p (loopQB H.length n Q (fun j=>upd j ++ e) O G m (m j)) E (O j)
theorem zaz {P : Program} {n : Nat} {p : PC} {Q : Post} {env : Env} {H : List AObj} {ι : Type} (kept : List Nat) (upd : ι→Env) (O : ι→List AObj) (G : ι→Prop) (m : ι→Nat) (i : ι)
  (h : znY env kept fun e=>ForH P n p Q env H upd O G m i e) : PWp P n (.loop p) Q env H:=by
 rw [zjT] at h
 refine zeo (fun j=>upd j ++ kept.map fun t=>(t,lookD t env)) O G m i h.good (zan (zh2 _ _ h.start (zgX _)) h.heap) fun j hj=>?_
 have:=h.round j hj
 rwa [zlH] at this
theorem zms {α : Type} {esz : Nat} {c : α→List D} {l : List α} {x : α} : AObj.vec true (l.length + 1) esz (List.drop 0 (List.take l.length (l.map c)) ++ List.drop 0 (List.take 1 [c x])) = AObj.vec true (l ++ [x]).length esz ((l ++ [x]).map c):=by
 rw [zav (by simp),List.length_append,List.length_singleton,List.map_append]
 rfl
section
variable {α : Type} {esz : Nat} {c : α→List D} {L : List (List α)} {T : List AObj} {K : AObj→Prop} {K' : List AObj→Prop}
theorem zjk {i : Nat} (h : i < L.length) (k : K (.vec true (L.getD i []).length esz ((L.getD i []).map c))) : zdg (zbI esz c L ++ T) i K:=by
 rw [za2]
 exact ⟨_,by rw [List.getElem?_append_left (by simpa using h)]; exact zgl h,k⟩
theorem zce (j : Nat) {i : Nat} (hi : i = L.length + j) (k : zdg T j K) : zdg (zbI esz c L ++ T) i K:=by
 subst hi
 rw [za2] at k ⊢
 obtain ⟨o,h1,h2⟩:=k
 exact ⟨o,by rw [List.getElem?_append_right (by simp),zer,Nat.add_sub_cancel_left]; exact h1,h2⟩
theorem zjY {i : Nat} {o : AObj} (l : List α) (h : i < L.length) (ho : o = .vec true l.length esz (l.map c)) (k : K' (zbI esz c (L.set i l) ++ T)) : zf6 (zbI esz c L ++ T) i o K':=by
 subst ho
 rw [zcM]
 exact ⟨by simp; omega,by rw [List.set_append_left _ _ (by simpa using h),zm8]; exact k⟩
theorem zcd (j : Nat) {i : Nat} {o : AObj} (hi : i = L.length + j) (k : zf6 T j o fun T'=>K' (zbI esz c L ++ T')) : zf6 (zbI esz c L ++ T) i o K':=by
 subst hi
 rw [zcM] at k ⊢
 exact ⟨by rw [List.length_append,zer]; omega,by
  rw [List.set_append_right _ _ (by simp),zer,Nat.add_sub_cancel_left]; exact k.2⟩
theorem zlK {o : AObj} {K : List AObj→Nat→Prop} (k : K (zbI esz c L ++ [o]) L.length) : zeO (zbI esz c L) o K:=by
 rw [zcn,zer]
 exact k
theorem zlR {o : AObj} {K : List AObj→Nat→Prop} (k : K (zbI esz c L ++ (T ++ [o])) (L.length + T.length)) : zeO (zbI esz c L ++ T) o K:=by
 rw [zcn,List.length_append,zer,List.append_assoc]
 exact k
theorem zgk {m : Nat} {G : List AObj} (hc : ∀ a,zae m (c a)) : zg0 m G (zbI esz c L ++ T) (zbI esz c L):=zaK _ _ (zk0 hc)
end
def zgE (n : Int) : List D:=[.sc (.int .i64 n)]
@[simp] theorem zid {m : Nat} (n : Int) : zae m (zgE n):=by simp [zgE,zae,zai]
theorem zdC (L : List (List Int)) : zbd (L.map fun l=>[zaD l]):=zas _ (fun l=>by simp [zao,zam]) L
end
section
open Go.RowKit
structure FitsG (g : List (List Int)) : Prop where
 len : g.length≤17592186043904
 each : ∀ l∈g,l.length≤17592186043904
theorem FitsG.at {g : List (List Int)} (h : FitsG g) (i : Nat) : (g.getD i []).length≤17592186043904:=by
 rw [List.getD_eq_getElem?_getD]
 cases e : g[i]? with
 | none=>simp
 | some l=>exact h.each l (List.mem_of_getElem? e)
theorem zbx {g : List (List Int)} {z k : Nat} (hz : z = k) (h : k < g.length) : (g.map fun l=>[zaD l])[z]? = some [zaD (g.getD k [])]:=by
 subst hz
 rw [List.getElem?_map,zgD h]; rfl
theorem zaW {l : List Int} {z k : Nat} (hz : z = k) (h : k < l.length) : (l.map fun n=>[D.sc (.int .i64 n)])[z]? = some [.sc (.int .i64 (l.getD k 0))]:=by
 rw [zlA hz h,List.getD_eq_getElem?_getD,List.getElem?_eq_getElem h]; rfl
theorem zbL {g : List (List Int)} {n : Nat} (h : ∀ l∈g,inB l n = true) (k : Nat) : inB (g.getD k []) n = true:=by
 rw [List.getD_eq_getElem?_getD]
 cases e : g[k]? with
 | none=>rfl
 | some l=>exact h l (List.mem_of_getElem? e)
end
section
open Go.RowKit
def rbl (n : Nat) (g : Nat→Bool) : List (List D):=(List.range n).map fun i=>[.sc (.bool (g i))]
def dbl (n : Nat) (g : Nat→Bool) : D:=.lst 1 (rbl n g)
@[simp] theorem rbl_len (n : Nat) (g : Nat→Bool) : (rbl n g).length = n:=by simp [rbl]
theorem zkd {n i : Nat} {g : Nat→Bool} (h : i < n) : (rbl n g)[i]? = some [.sc (.bool (g i))]:=by
 simp [rbl,List.getElem?_map,List.getElem?_range h]
theorem zay {n : Nat} {g : Nat→Bool} {z : Nat} (i : Nat) (hz : z = i) (h : i < n) : (rbl n g)[z]? = some [.sc (.bool (g i))]:=by
 subst hz
 exact zkd h
theorem zbK {n : Nat} {g g' : Nat→Bool} (h : ∀ i,i < n→g i = g' i) : rbl n g = rbl n g':=by
 unfold rbl
 exact List.map_congr_left fun i hi=>by rw [h i (List.mem_range.1 hi)]
theorem zcw (n : Nat) (g : Nat→Bool) (k : Nat) (v : Bool) : (rbl n g).set k [.sc (.bool v)] = rbl n (fun i=>if i = k then v else g i):=by
 apply List.ext_getElem?
 intro i
 by_cases hi : i < n
 ·by_cases hk : i = k
  ·subst hk
   rw [List.getElem?_set_self (by simpa using hi),zkd hi]
   simp
  ·rw [List.getElem?_set_ne (fun e=>hk e.symm),zkd hi,zkd hi]
   simp [hk]
 ·rw [List.getElem?_eq_none (by simp; omega),List.getElem?_eq_none (by simp; omega)]
theorem zdT (n : Nat) : List.replicate n [D.sc (.bool false)] = rbl n (fun _=>false):=by
 apply List.ext_getElem?
 intro i
 by_cases hi : i < n
 ·rw [zkd hi,List.getElem?_replicate,if_pos hi]
 ·rw [List.getElem?_eq_none (by simp; omega),List.getElem?_eq_none (by simp; omega)]
theorem zez (n : Nat) (g : Nat→Bool) : zbd (rbl n g):=zas _ (fun i=>by simp [zao,Pure]) _
theorem zbM (n : Nat) (g : Nat→Bool) : Pure (dbl n g):=by simp only [dbl,Pure]; exact zez n g
theorem zle (n : Nat) (g : Nat→Bool) : List.drop 0 (List.take n (rbl n g)) = rbl n g:=by rw [List.drop_zero,List.take_of_length_le (by simp)]
theorem zol {n : Nat} {g g' : Nat→Bool} (h : ∀ i,i < n→g i = g' i) : dbl n g = dbl n g':=by unfold dbl; rw [zbK h]
theorem zjV {H : List AObj} {id v n : Nat} {q : Bool} {g : Nat→Bool} (h : H[id]? = some (.vec q v 1 (rbl n g))) : Deep H (.own id v 0 n) (dbl n g):=.own _ _ _ _ _ _ _ _ h (by rw [zle]; exact zaq _)
def curF (T : Nat→Bool) (k : Nat) (o : Bool) : Nat→Bool:=fun i=>if i < k then T i else if i = k then o else false
@[simp] theorem curF_at (T : Nat→Bool) (k : Nat) (o : Bool) : curF T k o k = o:=by simp [curF]
@[simp] theorem underLL_rbl {m n : Nat} (g : Nat→Bool) : zak m (rbl n g)↔True:=⟨fun _=>trivial,fun _=>zaa _ (zez n g)⟩
@[simp] theorem under_dbl {m n : Nat} (g : Nat→Bool) : zai m (dbl n g)↔True:=⟨fun _=>trivial,fun _=>zaf _ (zbM n g)⟩
@[simp] theorem renLL_rbl {ρ : Nat→Nat} {n : Nat} (g : Nat→Bool) : zdo ρ (rbl n g) = rbl n g:=zbn _ (zez n g)
@[simp] theorem ren_dbl {ρ : Nat→Nat} {n : Nat} (g : Nat→Bool) : D.ren ρ (dbl n g) = dbl n g:=zbE _ (zbM n g)
theorem rbl_map (n : Nat) (g : Nat→Bool) : rbl n g = ((List.range n).map g).map fun a=>[D.sc (.bool a)]:=by simp [rbl]
end
section
open Go.RowKit
@[simp] theorem pureL_ints (l : List Int) : zbd (l.map fun n=>[D.sc (.int .i64 n)])↔True:=by simp [zao,Pure]
theorem zgr {n z : Nat} {s : Nat→Bool} {v : Nat} (hz : z = v) : (rbl n s).set z [.sc (.bool true)] = rbl n (mark s v):=by
 subst hz
 rw [zcw]
 rfl
structure RchI (g : List (List Int)) (from_ : List Int) (B : Nat) (s : Nat→Bool) (T : List Int) : Prop where
 todo : inB T g.length = true
 comes : ∀ x∈T,Rch g from_ x.toNat
 seen : ∀ v,s v = true→Rch g from_ v
 start : ∀ x∈from_,s x.toNat = true∨x∈T
 closed : ∀ v,s v = true→∀ x∈g.getD v [],s x.toNat = true∨x∈T
 room : T.length + potG g s≤B
theorem zaN {l : List Int} {n : Nat} (h : inB l n = true) {x : Int} (hx : x∈l) : 0≤x∧x < (n : Int):=by
 have:=List.all_eq_true.1 h x hx
 simpa using this
theorem zdP {l : List Int} {n : Nat} (h : ∀ x∈l,0≤x∧x < (n : Int)) : inB l n = true:=by
 unfold inB
 rw [List.all_eq_true]
 intro x hx
 simpa using h x hx
theorem RchI.pop {g : List (List Int)} {from_ : List Int} {B : Nat} {s : Nat→Bool} {T : List Int} {x : Int} (h : RchI g from_ B s (T ++ [x])) (hs : s x.toNat = true) : RchI g from_ B s T where
 todo:=zdP fun y hy=>zaN h.todo (by simp [hy])
 comes y hy:=h.comes y (by simp [hy])
 seen:=h.seen
 start y hy:=by
  rcases h.start y hy with q | q
  ·exact .inl q
  ·rcases List.mem_append.1 q with q | q
   ·exact .inr q
   ·rw [List.mem_singleton] at q; subst q; exact .inl hs
 closed v hv y hy:=by
  rcases h.closed v hv y hy with q | q
  ·exact .inl q
  ·rcases List.mem_append.1 q with q | q
   ·exact .inr q
   ·rw [List.mem_singleton] at q; subst q; exact .inl hs
 room:=by have:=h.room; rw [List.length_append] at this; omega
theorem RchI.push {g : List (List Int)} {from_ : List Int} {B : Nat} {s : Nat→Bool} {T : List Int} {x : Int} (hg : ∀ l∈g,inB l g.length = true) (h : RchI g from_ B s (T ++ [x])) (hs : s x.toNat = false) : RchI g from_ B (mark s x.toNat) (T ++ g.getD x.toNat []) where
 todo:=zdP fun y hy=>by
  rcases List.mem_append.1 hy with q | q
  ·exact zaN h.todo (by simp [q])
  ·exact zaN (zbL hg _) q
 comes y hy:=by
  rcases List.mem_append.1 hy with q | q
  ·exact h.comes y (by simp [q])
  ·exact .step (h.comes x (by simp)) q
 seen v hv:=by
  rcases mark_iff.1 hv with q | q
  ·subst q; exact h.comes x (by simp)
  ·exact h.seen v q
 start y hy:=by
  rcases h.start y hy with q | q
  ·exact .inl (zfc q)
  ·rcases List.mem_append.1 q with q | q
   ·exact .inr (by simp [q])
   ·rw [List.mem_singleton] at q; subst q; exact .inl (zeY _ _)
 closed v hv y hy:=by
  rcases mark_iff.1 hv with q | q
  ·subst q; exact .inr (List.mem_append_right _ hy)
  ·rcases h.closed v q y hy with q | q
   ·exact .inl (zfc q)
   ·rcases List.mem_append.1 q with q | q
    ·exact .inr (by simp [q])
    ·rw [List.mem_singleton] at q; subst q; exact .inl (zeY _ _)
 room:=by
  have h1:=h.room
  have h2:=zaN h.todo (x:=x) (by simp)
  have h3:=znS (g:=g) (v:=x.toNat) (by omega) hs
  rw [List.length_append] at h1 ⊢
  simp only [List.length_cons,List.length_nil] at h1
  omega
theorem RchI.done {g : List (List Int)} {from_ : List Int} {B : Nat} {s : Nat→Bool} (h : RchI g from_ B s []) (v : Nat) : s v = rchB g from_ v:=rchB_eq ⟨h.seen v,zmZ (fun x hx=>(h.start x hx).resolve_right (by simp)) (fun v hv x hx=>(h.closed v hv x hx).resolve_right (by simp)) v⟩
theorem RchI.begin {g : List (List Int)} {from_ : List Int} {B : Nat} (hf : inB from_ g.length = true) (hB : from_.length + potG g (fun _=>false)≤B) : RchI g from_ B (fun _=>false) from_ where
 todo:=hf
 comes _ hx:=.base hx
 seen v h:=by cases h
 start _ hx:=.inr hx
 closed v h:=by cases h
 room:=hB
def i64s (l : List Int) : List (List D):=l.map fun n=>[.sc (.int .i64 n)]
@[simp] theorem underLL_i64s {m : Nat} (l : List Int) : zak m (i64s l)↔True:=by simp [i64s,zae,zai]
end
section
open Go.RowKit
structure AutoD where
 start : List Int
 next : List (List Int)
 must : List Int
 nots : List Int
 fair : List (List Int)
def AutoD.cells (A : AutoD) : List D:=[zaD A.start,zbe A.next,dlet A.must,dlet A.nots,zbe A.fair]
def zeh (A : AutoD) : D:=.agg A.cells
theorem zdj (A : AutoD) : zao A.cells:=by simp [AutoD.cells,zao,zam,zbm,zcQ]
theorem zbY (A : AutoD) : Pure (zeh A):=by simp [zeh,Pure,zdj]
def znD : AutoD:=⟨[],[],[],[],[]⟩
structure AutoD.Fits (A : AutoD) : Prop where
 start : A.start.length≤17592186043904
 next : A.next.length≤17592186043904
 must : A.must.length≤17592186043904
 nots : A.nots.length≤17592186043904
 fair : A.fair.length≤17592186043904
 nextEach : ∀ l∈A.next,l.length≤17592186043904
 fairEach : ∀ l∈A.fair,l.length≤17592186043904
def AutoD.chk (A : AutoD) : Int :=
 if 2048 < A.next.length∨80 < A.fair.length then 2
 else if A.must.length≠A.next.length∨A.nots.length≠A.next.length∨inB A.start A.next.length = false then 1
 else if (A.next.any fun l=>!(inB l A.next.length)) = true then 1
 else if (A.fair.any fun l=>!(inB l A.next.length)) = true then 1
 else 0
theorem zdy (A : AutoD) (h : A.chk = 0) : A.must.length = A.next.length∧A.nots.length = A.next.length∧A.next.length≤2048∧A.fair.length≤80∧inB A.start A.next.length = true∧(∀ l∈A.next,inB l A.next.length = true)∧∀ l∈A.fair,inB l A.next.length = true:=by
 unfold AutoD.chk at h
 split at h
 ·exact absurd h (by decide)
 split at h
 ·exact absurd h (by decide)
 split at h
 ·exact absurd h (by decide)
 split at h
 ·exact absurd h (by decide)
 rename_i h1 h2 h3 h4
 have h2':=not_or.1 h2
 have h2'':=not_or.1 h2'.2
 refine ⟨by omega,by omega,by omega,by omega,by simpa using h2''.2,fun l hl=>?_,fun l hl=>?_⟩
 ·rw [Bool.not_eq_true,List.any_eq_false] at h3
  simpa using h3 l hl
 ·rw [Bool.not_eq_true,List.any_eq_false] at h4
  simpa using h4 l hl
def zhj (A : AutoD) (s : Nat) (x : Int) : Bool:=zcW .and .u64 x (A.must.getD s 0) == A.must.getD s 0 && zcW .and .u64 x (A.nots.getD s 0) == 0
theorem zlb (a : BitVec 64) : IntKind.wrap .u64 (a.toNat : Int) = (a.toNat : Int):=by
 have:=a.isLt
 simp only [IntKind.wrap,IntKind.signed,IntKind.bits]
 simp
 omega
theorem zoJ {x m : Int} (hm : 0≤m∧m < 18446744073709551616) : (zcW .and .u64 x m == m) = (zcW .andNot .u64 m x == 0):=by
 show (IntKind.wrap .u64 (((BitVec.ofInt 64 x) &&& (BitVec.ofInt 64 m)).toNat : Int) == m) = (IntKind.wrap .u64 (((BitVec.ofInt 64 m) &&& ~~~(BitVec.ofInt 64 x)).toNat : Int) == 0)
 rw [zlb,zlb]
 have e : m = ((BitVec.ofInt 64 m).toNat : Int):=by
  rw [BitVec.toNat_ofInt]
  omega
 generalize BitVec.ofInt 64 x = a
 rw [Bool.eq_iff_iff,beq_iff_eq,beq_iff_eq]
 generalize hb : BitVec.ofInt 64 m = b at e
 constructor
 ·intro h
  rw [e] at h
  have h : a &&& b = b:=BitVec.eq_of_toNat_eq (by omega)
  have : b &&& ~~~a = 0#64:=by
   rw [← h]
   ext i hi
   simp
   intro h1 _
   exact h1
  rw [this]; rfl
 ·intro h
  have h : b &&& ~~~a = 0#64:=BitVec.eq_of_toNat_eq (by simpa using h)
  have : a &&& b = b:=by
   ext i hi
   have:=congrArg (fun z : BitVec 64=>z[i]) h
   simp at this
   cases q : b[i]
   ·simp [q]
   ·simp [q,this q]
  rw [this]; omega
theorem zo6 (x m : Int) : zcW .and .u64 m x = zcW .and .u64 x m:=by
 show IntKind.wrap .u64 (((BitVec.ofInt 64 m) &&& (BitVec.ofInt 64 x)).toNat : Int) = IntKind.wrap .u64 (((BitVec.ofInt 64 x) &&& (BitVec.ofInt 64 m)).toNat : Int)
 rw [BitVec.and_comm]
theorem ze2 {l : List Int} {z k : Nat} (hz : z = k) (h : k < l.length) : (l.map fun n=>[D.sc (.int .u64 n)])[z]? = some [.sc (.int .u64 (l.getD k 0))]:=by
 subst hz
 rw [List.getElem?_map,List.getElem?_eq_getElem h,List.getD_eq_getElem?_getD,List.getElem?_eq_getElem h]; rfl
def c104 : PC:=.seq (.ops [q 3 (.box (.tmp 0)),q 6 (.move (.const (.bool false)))] false) (.seq (.ops [qm 7 2,q 8 (.faddr 2 (.tmp 3)),qd 9 (.load1 (.tmp 8)) 2,qm 10 1,qd 11 (.iaddr 1 (.tmp 9) (.tmp 10)) 14,qd 12 (.load1 (.tmp 11)) 30,qd 13 (.bin .and (.tmp 7) (.tmp 12)) 63,q 14 (.faddr 2 (.tmp 3)),qd 15 (.load1 (.tmp 14)) 128,qm 16 1,qd 17 (.iaddr 1 (.tmp 15) (.tmp 16)) 896,qd 18 (.load1 (.tmp 17)) 1920,qd 19 (.bin .eql (.tmp 13) (.tmp 18)) 4095,qw 20 19 8191,⟨some 21,.move (.tmp 2),some (20,true),16383⟩,⟨some 22,.faddr 3 (.tmp 3),some (20,true),16383⟩,⟨some 23,.load1 (.tmp 22),some (20,true),49151⟩,⟨some 24,.move (.tmp 1),some (20,true),16383⟩,⟨some 25,.iaddr 1 (.tmp 23) (.tmp 24),some (20,true),245759⟩,⟨some 26,.load1 (.tmp 25),some (20,true),507903⟩,⟨some 27,.bin .and (.tmp 21) (.tmp 26),some (20,true),1048575⟩,⟨some 28,.bin .eql (.tmp 27) (.const (.int .u64 0)),some (20,true),2097151⟩,qd 29 (.pick (.tmp 20) (.tmp 28) (.const (.bool false))) 4194303,qw 6 29 8388607] true) (.ret))
theorem c104_ok : FunOK Tryz.prog 104 30 [.tmp 6] c104:=⟨⟨Tryz.f104,Tryz.func104,rfl,by kernel_rfl,rfl,by kernel_rfl⟩⟩
theorem au_Fits (A : AutoD) (hm : A.must.length = A.next.length) (hn : A.nots.length = A.next.length) (s : Nat) (hs : s < A.next.length) (x : Int) : PCall Tryz.prog 104 [zeh A,.sc (.int .i64 s),.sc (.int .u64 x)] (.sc (.bool (zhj A s x))):=by
 refine zag c104_ok (by simp) (by simp [zao,Pure,zbY]) ?_ (by simp [Pure])
 have e : zhj A s x = (zcW .and .u64 x (A.must.getD s 0) == A.must.getD s 0 && zcW .and .u64 x (A.nots.getD s 0) == 0):=rfl
 unfold zeh AutoD.cells dlet
 (apply zac; focus (repeat' constructor))
 ((conv=>whnf);repeat(refine⟨rfl,?_⟩;conv=>whnf))
 refine ⟨by omega,_,ze2 (k:=s) (by omega) (by omega),?_⟩
 ((conv=>whnf);repeat(refine⟨rfl,?_⟩;conv=>whnf))
 refine ⟨by omega,_,ze2 (k:=s) (by omega) (by omega),?_⟩
 ((conv=>whnf);repeat(refine⟨rfl,?_⟩;conv=>whnf))
 cases r : (zcW .and .u64 x (A.must.getD s 0) == A.must.getD s 0)
 ·rw [r,Bool.false_and] at e
  rw [e]
  ((conv=>whnf);repeat(refine⟨rfl,?_⟩;conv=>whnf))
  exact .refl _
 ·rw [r,Bool.true_and] at e
  rw [e]
  ((conv=>whnf);repeat(refine⟨rfl,?_⟩;conv=>whnf))
  refine ⟨by omega,_,ze2 (k:=s) (by omega) (by omega),?_⟩
  ((conv=>whnf);repeat(refine⟨rfl,?_⟩;conv=>whnf))
  exact .refl _
def c20 : PC:=.seq (.ops [q 3 (.box (.tmp 0)),q 6 (.move (.const (.bool false)))] false) (.seq (.ops [q 7 (.faddr 2 (.tmp 3)),q 8 (.load1 (.tmp 7)),qm 9 1,q 10 (.iaddr 1 (.tmp 8) (.tmp 9)),q 11 (.load1 (.tmp 10)),qm 12 2,q 13 (.bin .andNot (.tmp 11) (.tmp 12)),q 14 (.bin .eql (.tmp 13) (.const (.int .u64 0))),qm 15 14,⟨some 16,.faddr 3 (.tmp 3),some (15,true),0⟩,⟨some 17,.load1 (.tmp 16),some (15,true),0⟩,⟨some 18,.move (.tmp 1),some (15,true),0⟩,⟨some 19,.iaddr 1 (.tmp 17) (.tmp 18),some (15,true),0⟩,⟨some 20,.load1 (.tmp 19),some (15,true),0⟩,⟨some 21,.move (.tmp 2),some (15,true),0⟩,⟨some 22,.bin .and (.tmp 20) (.tmp 21),some (15,true),0⟩,⟨some 23,.bin .eql (.tmp 22) (.const (.int .u64 0)),some (15,true),0⟩,q 24 (.pick (.tmp 15) (.tmp 23) (.const (.bool false))),qm 6 24] false) (.ret))
theorem c20_ok : FunOK Tryz.prog 20 25 [.tmp 6] c20:=⟨⟨Tryz.f20,Tryz.func20,rfl,by kernel_rfl,rfl,by kernel_rfl⟩⟩
theorem ziR (A : AutoD) (hm : A.must.length = A.next.length) (hn : A.nots.length = A.next.length) (hM : Lett A.must) (s : Nat) (hs : s < A.next.length) (x : Int) : PCall Tryz.prog 20 [zeh A,.sc (.int .i64 s),.sc (.int .u64 x)] (.sc (.bool (zhj A s x))):=by
 refine zag c20_ok (by simp) (by simp [zao,Pure,zbY]) ?_ (by simp [Pure])
 have e : zhj A s x = (zcW .andNot .u64 (A.must.getD s 0) x == 0 && zcW .and .u64 (A.nots.getD s 0) x == 0):=by
  rw [← zoJ (hM _ (zaM (by omega))),zo6 x (A.nots.getD s 0)]
  rfl
 unfold zeh AutoD.cells dlet
 (apply zac; focus (repeat' constructor))
 ((conv=>whnf);repeat(refine⟨rfl,?_⟩;conv=>whnf))
 refine ⟨by omega,_,ze2 (k:=s) (by omega) (by omega),?_⟩
 ((conv=>whnf);repeat(refine⟨rfl,?_⟩;conv=>whnf))
 cases r : (zcW .andNot .u64 (A.must.getD s 0) x == 0)
 ·rw [r,Bool.false_and] at e
  rw [e]
  ((conv=>whnf);repeat(refine⟨rfl,?_⟩;conv=>whnf))
  exact .refl _
 ·rw [r,Bool.true_and] at e
  rw [e]
  ((conv=>whnf);repeat(refine⟨rfl,?_⟩;conv=>whnf))
  refine ⟨by omega,_,ze2 (k:=s) (by omega) (by omega),?_⟩
  ((conv=>whnf);repeat(refine⟨rfl,?_⟩;conv=>whnf))
  exact .refl _
def c103 : PC:=.seq (.ops [q 3 (.move (.const (.bool false)))] false) (.seq (.ops [qm 4 0,q 5 (.bin .lss (.tmp 4) (.const (.int .i64 0))),qm 6 5,⟨some 7,.move (.tmp 0),some (6,false),0⟩,⟨some 8,.load1 (.tmp 1),some (6,false),0⟩,⟨some 9,.bin .geq (.tmp 7) (.tmp 8),some (6,false),0⟩,q 10 (.pick (.tmp 6) (.const (.bool true)) (.tmp 9)),qm 3 10] false) (.ret))
theorem c103_ok : FunOK Tryz.prog 103 11 [.tmp 3] c103:=⟨⟨Tryz.f103,Tryz.func103,rfl,by kernel_rfl,rfl,by kernel_rfl⟩⟩
theorem au_odd1 (x : Int) (n : Nat) : PCall Tryz.prog 103 [.sc (.int .i64 x),.ipt [.sc (.int .i64 n)]] (.sc (.bool (decide (x < 0) || decide (x≥(n : Int))))):=by
 refine zag c103_ok (by simp) (by simp [zao,Pure]) ?_ (by simp [Pure])
 (apply zac; focus (repeat' constructor))
 ((conv=>whnf);repeat(refine⟨rfl,?_⟩;conv=>whnf))
 (refine zab (fun h=>?_) (fun h=>?_) <;> (rw [h]; ((conv=>whnf);repeat(refine⟨rfl,?_⟩;conv=>whnf))))
 ·exact zbW (by simp)
 ·exact zbW (by simp)
def c68 : PC:=.seq (.ops [q 3 (.box (.tmp 1)),q 4 (.move (.const (.bool false)))] false) (.seq (.ops [qm 5 0,q 6 (.mkfn (.func 103) [] [(.tmp 3)]),q 7 (.call 57 [(.tmp 5),(.tmp 6)]),qm 4 7] false) (.ret))
theorem c68_ok : FunOK Tryz.prog 68 8 [.tmp 4] c68:=⟨⟨Tryz.f68,Tryz.func68,rfl,by kernel_rfl,rfl,by kernel_rfl⟩⟩
theorem zo2 (l : List Int) (hl : l.length≤9223372036854775807) (n : Nat) : PCall Tryz.prog 68 [zaD l,.sc (.int .i64 n)] (.sc (.bool !(inB l n))):=by
 refine zag c68_ok (by simp) (by simp [zao,Pure,zam]) ?_ (by simp [Pure])
 (apply zac; focus (repeat' constructor))
 ((conv=>whnf);repeat(refine⟨rfl,?_⟩;conv=>whnf))
 (refine .inr (.inl ⟨_,_,(by (repeat' (first | exact Deep.refl _ | exact Deep.none _ | exact zaF _ | exact DeepL.nil | exact DeepLL.nil | refine Deep.agg _ _ ?_ | refine Deep.tup _ _ ?_ | refine Deep.own _ _ _ _ _ _ _ _ rfl ?_ | refine Deep.loc _ _ _ _ _ rfl ?_ | refine Deep.ifc _ _ _ ?_ | refine Deep.fn _ _ _ _ _ ?_ ?_ | refine DeepL.cons _ _ _ _ ?_ ?_ | refine DeepLL.cons _ _ _ _ ?_ ?_ | exact zaq _))),(zdt (fun n=>.sc (.int .i64 n)) (fun a=>by simp [Pure]) l hl (fun x=>decide (x < 0) || decide (x≥(n : Int))) 103 [.ipt [.sc (.int .i64 n)]] (by simp [zao,Pure]) fun a _=>au_odd1 a n),rfl,?_⟩); ((conv=>whnf);repeat(refine⟨rfl,?_⟩;conv=>whnf)))
 rw [zo4]
 exact .refl _
def c69 : PC:=.seq (.ops [q 3 (.move (.const (.bool false)))] false) (.seq (.ops [qm 4 0,q 5 (.load1 (.tmp 1)),q 6 (.call 68 [(.tmp 4),(.tmp 5)]),qm 3 6] false) (.ret))
theorem c69_ok : FunOK Tryz.prog 69 7 [.tmp 3] c69:=⟨⟨Tryz.f69,Tryz.func69,rfl,by kernel_rfl,rfl,by kernel_rfl⟩⟩
theorem zpp (l : List Int) (hl : l.length≤9223372036854775807) (n : Nat) : PCall Tryz.prog 69 [zaD l,.ipt [.sc (.int .i64 n)]] (.sc (.bool !(inB l n))):=by
 refine zag c69_ok (by simp) (by simp [zao,Pure,zam]) ?_ (by simp [Pure])
 (apply zac; focus (repeat' constructor))
 ((conv=>whnf);repeat(refine⟨rfl,?_⟩;conv=>whnf))
 (refine .inl ⟨_,(zo2 l hl n),?_⟩; ((conv=>whnf);repeat(refine⟨rfl,?_⟩;conv=>whnf)))
 exact .refl _
def c70 : PC:=.seq (.ops [q 3 (.move (.const (.bool false)))] false) (.seq (.ops [qm 4 0,q 5 (.load1 (.tmp 1)),q 6 (.call 68 [(.tmp 4),(.tmp 5)]),qm 3 6] false) (.ret))
theorem c70_ok : FunOK Tryz.prog 70 7 [.tmp 3] c70:=⟨⟨Tryz.f70,Tryz.func70,rfl,by kernel_rfl,rfl,by kernel_rfl⟩⟩
theorem znv (l : List Int) (hl : l.length≤9223372036854775807) (n : Nat) : PCall Tryz.prog 70 [zaD l,.ipt [.sc (.int .i64 n)]] (.sc (.bool !(inB l n))):=by
 refine zag c70_ok (by simp) (by simp [zao,Pure,zam]) ?_ (by simp [Pure])
 (apply zac; focus (repeat' constructor))
 ((conv=>whnf);repeat(refine⟨rfl,?_⟩;conv=>whnf))
 (refine .inl ⟨_,(zo2 l hl n),?_⟩; ((conv=>whnf);repeat(refine⟨rfl,?_⟩;conv=>whnf)))
 exact .refl _
def c39 : PC:=.seq (.ops [q 1 (.box (.tmp 0)),q 2 (.move (.const (.int .i64 0)))] false) (.seq (.ops [q 4 (.faddr 1 (.tmp 1)),q 5 (.load1 (.tmp 4)),q 6 (.len (.tmp 5)),q 3 (.alloc [(.int .i64 0)]),qn (.store 1 (.tmp 3) (.tmp 6))] false) (.seq (.seq (.ops [q 7 (.load1 (.tmp 3)),q 8 (.bin .gtr (.tmp 7) (.const (.int .i64 2048))),qm 9 8,⟨some 10,.faddr 4 (.tmp 1),some (9,false),0⟩,⟨some 11,.load1 (.tmp 10),some (9,false),0⟩,⟨some 12,.len (.tmp 11),some (9,false),0⟩,⟨some 13,.bin .gtr (.tmp 12) (.const (.int .i64 80)),some (9,false),0⟩,q 14 (.pick (.tmp 9) (.const (.bool true)) (.tmp 13))] false) (.cond (.tmp 14) (.seq (.ops [q 2 (.move (.const (.int .i64 2)))] false) (.ret)) (.skip))) (.seq (.seq (.ops [q 15 (.faddr 2 (.tmp 1)),q 16 (.load1 (.tmp 15)),q 17 (.len (.tmp 16)),q 18 (.load1 (.tmp 3)),q 19 (.bin .neq (.tmp 17) (.tmp 18)),qm 20 19,⟨some 21,.faddr 3 (.tmp 1),some (20,false),0⟩,⟨some 22,.load1 (.tmp 21),some (20,false),0⟩,⟨some 23,.len (.tmp 22),some (20,false),0⟩,⟨some 24,.load1 (.tmp 3),some (20,false),0⟩,⟨some 25,.bin .neq (.tmp 23) (.tmp 24),some (20,false),0⟩,q 26 (.pick (.tmp 20) (.const (.bool true)) (.tmp 25)),qm 27 26,⟨some 28,.faddr 0 (.tmp 1),some (27,false),0⟩,⟨some 29,.load1 (.tmp 28),some (27,false),0⟩,⟨some 30,.load1 (.tmp 3),some (27,false),0⟩,⟨some 31,.call 68 [(.tmp 29),(.tmp 30)],some (27,false),0⟩,q 32 (.pick (.tmp 27) (.const (.bool true)) (.tmp 31))] false) (.cond (.tmp 32) (.seq (.ops [q 2 (.move (.const (.int .i64 1)))] false) (.ret)) (.skip))) (.seq (.seq (.ops [q 33 (.faddr 1 (.tmp 1)),q 34 (.load1 (.tmp 33)),q 35 (.mkfn (.func 69) [] [(.tmp 3)]),q 36 (.call 27 [(.tmp 34),(.tmp 35)]),qm 37 36,⟨some 38,.faddr 4 (.tmp 1),some (37,false),0⟩,⟨some 39,.load1 (.tmp 38),some (37,false),0⟩,⟨some 40,.mkfn (.func 70) [] [(.tmp 3)],some (37,false),0⟩,⟨some 41,.call 27 [(.tmp 39),(.tmp 40)],some (37,false),0⟩,q 42 (.pick (.tmp 37) (.const (.bool true)) (.tmp 41))] false) (.cond (.tmp 42) (.seq (.ops [q 2 (.move (.const (.int .i64 1)))] false) (.ret)) (.skip))) (.seq (.ops [q 2 (.move (.const (.int .i64 0)))] false) (.ret))))))
theorem c39_ok : FunOK Tryz.prog 39 43 [.tmp 2] c39:=⟨⟨Tryz.f39,Tryz.func39,rfl,by kernel_rfl,rfl,by kernel_rfl⟩⟩
theorem au_Check (A : AutoD) (hA : A.Fits) : PCall Tryz.prog 39 [zeh A] (.sc (.int .i64 A.chk)):=by
 have b1:=hA.start
 have b2:=hA.next
 have b3:=hA.must
 have b4:=hA.fair
 have b5:=hA.nots
 refine zag c39_ok (by simp) (by simp [zao,Pure,zbY]) ?_ (by simp [Pure])
 (apply zac; focus (repeat' constructor))
 ((conv=>whnf);repeat(refine⟨rfl,?_⟩;conv=>whnf))
 rw [List.length_map]
 have fin : ∀ {H : List AObj} {z : Int},z = A.chk→Deep H (.sc (.int .i64 z)) (.sc (.int .i64 A.chk)):=fun h=>h ▸ .refl _
 (refine zab (fun h1=>?_) (fun h1=>?_) <;> (rw [h1]; ((conv=>whnf);repeat(refine⟨rfl,?_⟩;conv=>whnf))))
 ·exact fin (by unfold AutoD.chk; rw [if_pos (by ((try simp only[oo,reduceCtorEq]at*)<;>omega))])
 rw [List.length_map]
 (refine zab (fun h2=>?_) (fun h2=>?_) <;> (rw [h2]; ((conv=>whnf);repeat(refine⟨rfl,?_⟩;conv=>whnf))))
 ·exact fin (by unfold AutoD.chk; rw [if_pos (by ((try simp only[oo,reduceCtorEq]at*)<;>omega))])
 have c1 : ¬ (2048 < A.next.length∨80 < A.fair.length):=by ((try simp only[oo,reduceCtorEq]at*)<;>omega)
 rw [List.length_map]
 (refine zab (fun h3=>?_) (fun h3=>?_) <;> (rw [h3]; ((conv=>whnf);repeat(refine⟨rfl,?_⟩;conv=>whnf))))
 ·exact fin (by unfold AutoD.chk; rw [if_neg c1,if_pos (by ((try simp only[oo,reduceCtorEq]at*)<;>omega))])
 rw [List.length_map]
 (refine zab (fun h3'=>?_) (fun h3'=>?_) <;> (rw [h3']; ((conv=>whnf);repeat(refine⟨rfl,?_⟩;conv=>whnf))))
 ·exact fin (by unfold AutoD.chk; rw [if_neg c1,if_pos (by ((try simp only[oo,reduceCtorEq]at*)<;>omega))])
 (refine .inl ⟨_,(zo2 A.start (by omega) A.next.length),?_⟩; ((conv=>whnf);repeat(refine⟨rfl,?_⟩;conv=>whnf)))
 (refine zab (fun h4=>?_) (fun h4=>?_) <;> (rw [h4]; ((conv=>whnf);repeat(refine⟨rfl,?_⟩;conv=>whnf))))
 ·exact fin (by unfold AutoD.chk; rw [if_neg c1,if_pos (.inr (.inr (by simpa using h4)))])
 have c2 : ¬ (A.must.length≠A.next.length∨A.nots.length≠A.next.length∨inB A.start A.next.length = false):=by
  rintro (q | q | q)
  ·((try simp only[oo,reduceCtorEq]at*)<;>omega)
  ·((try simp only[oo,reduceCtorEq]at*)<;>omega)
  ·rw [q] at h4; cases h4
 (refine .inr (.inl ⟨_,_,(by (repeat' (first | exact Deep.refl _ | exact Deep.none _ | exact zaF _ | exact DeepL.nil | exact DeepLL.nil | refine Deep.agg _ _ ?_ | refine Deep.tup _ _ ?_ | refine Deep.own _ _ _ _ _ _ _ _ rfl ?_ | refine Deep.loc _ _ _ _ _ rfl ?_ | refine Deep.ifc _ _ _ ?_ | refine Deep.fn _ _ _ _ _ ?_ ?_ | refine DeepL.cons _ _ _ _ ?_ ?_ | refine DeepLL.cons _ _ _ _ ?_ ?_ | exact zaq _))),(zeg zaD zam A.next (by omega) (fun l=>!(inB l A.next.length)) 69 [.ipt [.sc (.int .i64 A.next.length)]] (by simp [zao,Pure]) fun a ha=>zpp a (by have:=hA.nextEach a ha; omega) _),rfl,?_⟩); ((conv=>whnf);repeat(refine⟨rfl,?_⟩;conv=>whnf)))
 (refine zab (fun g2=>?_) (fun g2=>?_) <;> (rw [g2]; ((conv=>whnf);repeat(refine⟨rfl,?_⟩;conv=>whnf))))
 ·exact fin (by unfold AutoD.chk; rw [if_neg c1,if_neg c2,if_pos g2])
 have c3 : ¬ (A.next.any fun l=>!(inB l A.next.length)) = true:=by rw [g2]; simp
 (refine .inr (.inl ⟨_,_,(by (repeat' (first | exact Deep.refl _ | exact Deep.none _ | exact zaF _ | exact DeepL.nil | exact DeepLL.nil | refine Deep.agg _ _ ?_ | refine Deep.tup _ _ ?_ | refine Deep.own _ _ _ _ _ _ _ _ rfl ?_ | refine Deep.loc _ _ _ _ _ rfl ?_ | refine Deep.ifc _ _ _ ?_ | refine Deep.fn _ _ _ _ _ ?_ ?_ | refine DeepL.cons _ _ _ _ ?_ ?_ | refine DeepLL.cons _ _ _ _ ?_ ?_ | exact zaq _))),(zeg zaD zam A.fair (by omega) (fun l=>!(inB l A.next.length)) 70 [.ipt [.sc (.int .i64 A.next.length)]] (by simp [zao,Pure]) fun a ha=>znv a (by have:=hA.fairEach a ha; omega) _),rfl,?_⟩); ((conv=>whnf);repeat(refine⟨rfl,?_⟩;conv=>whnf)))
 (refine zab (fun g3=>?_) (fun g3=>?_) <;> (rw [g3]; ((conv=>whnf);repeat(refine⟨rfl,?_⟩;conv=>whnf))))
 ·exact fin (by unfold AutoD.chk; rw [if_neg c1,if_neg c2,if_neg c3,if_pos g3])
 ·exact fin (by unfold AutoD.chk; rw [if_neg c1,if_neg c2,if_neg c3,if_neg (by rw [g3]; simp)])
end
section
open Go.RowKit
def gl (n : Nat) (g : Nat→Int) : List Int:=(List.range n).map g
@[simp] theorem gl_len (n : Nat) (g : Nat→Int) : (gl n g).length = n:=by simp [gl]
theorem zlq {n k : Nat} {g : Nat→Int} (h : k < n) : (gl n g).getD k 0 = g k:=by
 rw [List.getD_eq_getElem?_getD]
 simp [gl,List.getElem?_map,List.getElem?_range h]
@[simp] theorem i64s_len (l : List Int) : (i64s l).length = l.length:=by simp [i64s]
theorem i64s_at {l : List Int} {z k : Nat} (hz : z = k) (h : k < l.length) : (i64s l)[z]? = some [.sc (.int .i64 (l.getD k 0))]:=zaW hz h
theorem za5 {n : Nat} {g : Nat→Int} {z : Nat} (k : Nat) (hz : z = k) (h : k < n) : (i64s (gl n g))[z]? = some [.sc (.int .i64 (g k))]:=by
 rw [i64s_at hz (by rw [gl_len]; exact h),zlq h]
theorem zfl {n : Nat} {g g' : Nat→Int} (h : ∀ i,i < n→g i = g' i) : gl n g = gl n g':=List.map_congr_left fun i hi=>h i (List.mem_range.1 hi)
def putA (g : Nat→Int) (k : Nat) (v : Int) : Nat→Int:=fun i=>if i = k then v else g i
@[simp] theorem zf8 (g : Nat→Int) (k : Nat) (v : Int) : putA g k v k = v:=by simp [putA]
theorem zlD {g : Nat→Int} {k i : Nat} {v : Int} (h : i≠k) : putA g k v i = g i:=by simp [putA,h]
theorem zeR {n z k : Nat} {g : Nat→Int} {v : Int} (hz : z = k) : (i64s (gl n g)).set z [.sc (.int .i64 v)] = i64s (gl n (putA g k v)):=by
 subst hz
 apply List.ext_getElem?
 intro i
 by_cases hi : i < n
 ·rw [List.getElem?_set]
  by_cases e : z = i
  ·subst e
   rw [if_pos rfl,if_pos (by simp; exact hi),za5 z rfl hi,zf8]
  ·rw [if_neg e,za5 i rfl hi,za5 i rfl hi,zlD (fun q=>e q.symm)]
 ·rw [List.getElem?_eq_none (by simp; omega),List.getElem?_eq_none (by simp; omega)]
theorem zn4 (n : Nat) : List.replicate n [D.sc (.int .i64 0)] = i64s (gl n fun _=>0):=by
 apply List.ext_getElem?
 intro i
 by_cases hi : i < n
 ·rw [za5 i rfl hi,List.getElem?_replicate,if_pos hi]
 ·rw [List.getElem?_eq_none (by simp; omega),List.getElem?_eq_none (by simp; omega)]
theorem deep_gl {H : List AObj} {id v n : Nat} {q : Bool} {g : Nat→Int} (h : H[id]? = some (.vec q v 1 (i64s (gl n g)))) : Deep H (.own id v 0 n) (zaD (gl n g)):=.own _ _ _ _ _ _ _ _ h (by rw [List.drop_zero,List.take_of_length_le (by simp [i64s,gl])]; exact zaq _)
end
section
open Go.RowKit
def gn (f : Nat→Nat) : Nat→Int:=fun i=>(f i : Int)
def zcv (g : List (List Int)) (num low : Nat→Nat) (part : Nat→Int) (Z : List Int) (h ver count got : Nat) : List AObj :=
 [.vec true 0 1 (i64s (gl g.length (gn num))),.vec true 0 1 (i64s (gl g.length (gn low))),.vec true 0 1 (i64s (gl g.length part)),.row true [zbe g,.own 0 0 0 g.length,.own 1 0 0 g.length,.own 2 0 0 g.length,.own 4 ver 0 h,.sc (.int .i64 count),.sc (.int .i64 got)],.vec true ver 1 (i64s Z)]
theorem zfW {g : List (List Int)} {num low : Nat→Nat} {part : Nat→Int} {Z : List Int} {h ver count got : Nat} : ∀ o∈zcv g num low part Z h ver count got,o.under 5:=by
 intro o ho
 simp only [zcv,List.mem_cons,List.not_mem_nil,or_false] at ho
 rcases ho with rfl | rfl | rfl | rfl | rfl <;> simp [AObj.under,zae,zai,zaf _ (zbm g)]
theorem gn_up (f : Nat→Nat) (k v : Nat) : putA (gn f) k (v : Int) = gn (up f k v):=by
 funext i
 unfold putA gn up
 split <;> rfl
theorem i64s_app {Z : List Int} {h : Nat} {x : Int} : List.drop 0 (List.take h (i64s Z)) ++ List.drop 0 (List.take 1 [[D.sc (.int .i64 x)]]) = i64s (Z.take h ++ [x]):=by simp [i64s,List.map_take]
def c105 : PC:=.seq (.ops [qm 4 0,q 5 (.nilchk (.tmp 4)),q 6 (.faddr 5 (.tmp 5)),q 7 (.load1 (.tmp 6)),q 8 (.bin .add (.tmp 7) (.const (.int .i64 1))),q 9 (.nilchk (.tmp 4)),q 10 (.faddr 5 (.tmp 9)),qn (.store 1 (.tmp 10) (.tmp 8))] false) (.seq (.ops [qm 11 0,qd 12 (.nilchk (.tmp 11)) 1,qd 13 (.faddr 1 (.tmp 12)) 3,qd 14 (.load1 (.tmp 13)) 7,qm 15 1,qm 16 0,qd 17 (.nilchk (.tmp 16)) 32,qd 18 (.faddr 2 (.tmp 17)) 96,qd 19 (.load1 (.tmp 18)) 224,qm 20 1,qm 21 0,qd 22 (.nilchk (.tmp 21)) 1024,qd 23 (.faddr 5 (.tmp 22)) 3072,qd 24 (.load1 (.tmp 23)) 7168,qm 25 0,qd 26 (.nilchk (.tmp 25)) 16384,qd 27 (.faddr 5 (.tmp 26)) 49152,qd 28 (.load1 (.tmp 27)) 114688,qd 29 (.iaddr 1 (.tmp 14) (.tmp 15)) 261631,qk (.store 1 (.tmp 29) (.tmp 24)) 523775,qd 30 (.iaddr 1 (.tmp 19) (.tmp 20)) 1048575,qk (.store 1 (.tmp 30) (.tmp 28)) 2097151] true) (.ops [qm 31 0,qm 32 0,q 33 (.nilchk (.tmp 32)),q 34 (.faddr 4 (.tmp 33)),q 35 (.load1 (.tmp 34)),qm 36 1,q 37 (.bslice 1 1 [(.tmp 36)]),q 38 (.append 1 8 (.tmp 35) (.tmp 37)),q 39 (.nilchk (.tmp 31)),q 40 (.faddr 4 (.tmp 39)),qn (.store 1 (.tmp 40) (.tmp 38))] false))
theorem c105_ok : FunOK Tryz.prog 105 41 [] c105:=⟨⟨Tryz.f105,Tryz.func105,rfl,by kernel_rfl,rfl,by kernel_rfl⟩⟩
theorem zlZ (g : List (List Int)) (hn : g.length≤1000000000) (num low : Nat→Nat) (part : Nat→Int) (Z : List Int) (h ver count got : Nat) (hh : h≤Z.length) (hh' : h≤1000000000) (hc : count≤1000000000) (v : Nat) (hv : v < g.length) :
  ACall Tryz.prog 105 [.loc 3 0,.sc (.int .i64 v)] (zcv g num low part Z h ver count got) (.tup []) (zcv g (up num v (count + 1)) (up low v (count + 1)) part (Z.take h ++ [(v : Int)]) (h + 1) (ver + 1) (count + 1) got):=by
 refine zb4 c105_ok (by simp) (by simp [zcv]) ?_ (by simp [zai,zae]) zfW
 unfold zcv
 (apply zac; focus (repeat' constructor))
 ((conv=>whnf);repeat(refine⟨rfl,?_⟩;conv=>whnf))
 (refine .inl ⟨by (unfold InR; rw [IntKind.wrap_i64]; omega),?_⟩; ((conv=>whnf);repeat(refine⟨rfl,?_⟩;conv=>whnf)))
 (refine ⟨by omega,(by first | omega | (simp; done) | (simp; omega) | (simp only [ll]; omega)),?_⟩; ((conv=>whnf);repeat(refine⟨rfl,?_⟩;conv=>whnf)))
 refine ⟨_,za5 v (by omega) hv,?_⟩
 ((conv=>whnf);repeat(refine⟨rfl,?_⟩;conv=>whnf))
 (refine ⟨by omega,(by first | omega | (simp; done) | (simp; omega) | (simp only [ll]; omega)),?_⟩; ((conv=>whnf);repeat(refine⟨rfl,?_⟩;conv=>whnf)))
 refine ⟨_,za5 v (by omega) hv,?_⟩
 ((conv=>whnf);repeat(refine⟨rfl,?_⟩;conv=>whnf))
 refine ⟨(by unfold zaj; simp only [ll]; omega),?_⟩
 ((conv=>whnf);repeat(refine⟨rfl,?_⟩;conv=>whnf))
 refine ⟨?_,by simp⟩
 rw [show (count : Int) + 1 = ((count + 1 : Nat) : Int) from rfl,zeR (k:=v) (by omega),zeR (k:=v) (by omega),gn_up,gn_up,i64s_app]
 rfl
def cutP (part : Nat→Int) (st : List Nat) (got : Nat) : Nat→Int:=fun v=>if v∈st then (got : Int) else part v
theorem cutP_nil (part : Nat→Int) (got : Nat) : cutP part [] got = part:=by funext v; simp [cutP]
theorem zk8 (part : Nat→Int) (st : List Nat) (got k : Nat) : putA (cutP part st got) k (got : Int) = cutP part (st ++ [k]) got:=by
 funext i
 unfold putA cutP
 by_cases e : i = k
 ·subst e; simp
 ·simp [e]
def c106_1 : PC:=.block 1 (.seq (.ops [qm 5 0,qd 6 (.nilchk (.tmp 5)) 1,qd 7 (.faddr 4 (.tmp 6)) 3,qd 8 (.load1 (.tmp 7)) 7,qm 9 0,qd 10 (.nilchk (.tmp 9)) 16,qd 11 (.faddr 4 (.tmp 10)) 48,qd 12 (.load1 (.tmp 11)) 112,qd 13 (.len (.tmp 12)) 240,qd 14 (.bin .sub (.tmp 13) (.const (.int .i64 1))) 496,qd 15 (.iaddr 1 (.tmp 8) (.tmp 14)) 1023,qd 16 (.load1 (.tmp 15)) 2047,qw 4 16 4095] true) (.seq (.ops [qm 17 0,qm 18 0,qd 19 (.nilchk (.tmp 18)) 2,qd 20 (.faddr 4 (.tmp 19)) 6,qd 21 (.load1 (.tmp 20)) 14,qm 22 0,qd 23 (.nilchk (.tmp 22)) 32,qd 24 (.faddr 4 (.tmp 23)) 96,qd 25 (.load1 (.tmp 24)) 224,qd 26 (.len (.tmp 25)) 480,qd 27 (.bin .sub (.tmp 26) (.const (.int .i64 1))) 992,qd 28 (.slc 1 (.tmp 21) none (some (.tmp 27)) none) 2046,qd 29 (.nilchk (.tmp 17)) 4095,qd 30 (.faddr 4 (.tmp 29)) 8191,qk (.store 1 (.tmp 30) (.tmp 28)) 16383] true) (.seq (.ops [qm 31 0,qd 32 (.nilchk (.tmp 31)) 1,qd 33 (.faddr 3 (.tmp 32)) 3,qd 34 (.load1 (.tmp 33)) 7,qm 35 4,qm 36 0,qd 37 (.nilchk (.tmp 36)) 32,qd 38 (.faddr 6 (.tmp 37)) 96,qd 39 (.load1 (.tmp 38)) 224,qd 40 (.iaddr 1 (.tmp 34) (.tmp 35)) 511,qk (.store 1 (.tmp 40) (.tmp 39)) 1023] true) (.seq (.ops [qm 41 4,qm 42 1,q 43 (.bin .eql (.tmp 41) (.tmp 42))] false) (.cond (.tmp 43) (.exit 0) (.skip))))))
def c106 : PC:=.seq (.block 0 (.loop c106_1)) (.ops [qm 44 0,q 45 (.nilchk (.tmp 44)),q 46 (.faddr 6 (.tmp 45)),q 47 (.load1 (.tmp 46)),q 48 (.bin .add (.tmp 47) (.const (.int .i64 1))),q 49 (.nilchk (.tmp 44)),q 50 (.faddr 6 (.tmp 49)),qn (.store 1 (.tmp 50) (.tmp 48))] false)
theorem c106_ok : FunOK Tryz.prog 106 51 [] c106:=⟨⟨Tryz.f106,Tryz.func106,rfl,by kernel_rfl,rfl,by kernel_rfl⟩⟩
theorem tj_close (g : List (List Int)) (hn : g.length≤1000000000) (num low : Nat→Nat) (part : Nat→Int) (Z : List Int) (pre post : List Nat) (n : Nat) (ver count got : Nat) (hh : (pre ++ n :: post).length≤Z.length) (hh' : (pre ++ n :: post).length≤1000000000) (hg : got≤1000000000)
  (hZ : ∀ j,j < (pre ++ n :: post).length→Z.getD ((pre ++ n :: post).length - 1 - j) 0 = (((pre ++ n :: post).getD j 0 : Nat) : Int)) (hst : ∀ v∈pre ++ n :: post,v < g.length) (hp : n ∉ pre) :
  ACall Tryz.prog 106 [.loc 3 0,.sc (.int .i64 n)] (zcv g num low part Z (pre ++ n :: post).length ver count got) (.tup []) (zcv g num low (cutP part (pre ++ [n]) got) Z post.length ver count (got + 1)):=by
 refine zb4 c106_ok (by simp) (by simp [zcv]) ?_ (by simp [zai,zae]) zfW
 (apply zac; focus (repeat' constructor))
 generalize hst0 : pre ++ n :: post = st at *
 refine zaz [0,1] (fun _ : Nat=>[]) (fun j=>zcv g num low (cutP part (st.take j) got) Z (st.length - j) ver count got)
  (fun j=>j≤pre.length) (fun j=>pre.length - j) 0 ?_
 ((conv=>whnf);repeat(refine⟨rfl,?_⟩;conv=>whnf))
 refine ⟨by omega,by (repeat' (first | exact trivial | refine And.intro rfl ?_)),by rw [List.take_zero,cutP_nil]; rfl,?_⟩
 rintro j hj
 have hlen : st.length = pre.length + post.length + 1:=by rw [← hst0]; simp; omega
 have hkz:=hZ j (by omega)
 have hks : st.getD j 0∈st:=by rw [List.getD_eq_getElem?_getD,List.getElem?_eq_getElem (by omega)]; exact List.getElem_mem _
 have hkn:=hst _ hks
 have htk : st.take (j + 1) = st.take j ++ [st.getD j 0]:=by
  rw [List.take_add_one,List.getElem?_eq_getElem (by omega),List.getD_eq_getElem?_getD,List.getElem?_eq_getElem (by omega)]; rfl
 have hend : st.getD j 0 = n↔j = pre.length:=by
  rw [← hst0]
  constructor
  ·intro e
   rcases Nat.lt_or_ge j pre.length with q | q
   ·exfalso
    rw [List.getD_eq_getElem?_getD,List.getElem?_append_left q,List.getElem?_eq_getElem q] at e
    exact hp (e ▸ List.getElem_mem q)
   ·omega
  ·intro e
   subst e
   rw [List.getD_eq_getElem?_getD,List.getElem?_append_right (Nat.le_refl _),Nat.sub_self]
   rfl
 generalize hk : st.getD j 0 = k at *
 unfold zcv
 ((conv=>whnf);repeat(refine⟨rfl,?_⟩;conv=>whnf))
 (apply zac; focus (repeat' constructor))
 ((conv=>whnf);repeat(refine⟨rfl,?_⟩;conv=>whnf))
 (refine .inl ⟨by (unfold InR; rw [IntKind.wrap_i64]; omega),?_⟩; ((conv=>whnf);repeat(refine⟨rfl,?_⟩;conv=>whnf)))
 (refine ⟨by omega,(by first | omega | (simp; done) | (simp; omega) | (simp only [ll]; omega)),?_⟩; ((conv=>whnf);repeat(refine⟨rfl,?_⟩;conv=>whnf)))
 refine ⟨_,zaW (l:=Z) (k:=st.length - 1 - j) (by omega) (by omega),?_⟩
 rw [hkz]
 ((conv=>whnf);repeat(refine⟨rfl,?_⟩;conv=>whnf))
 (refine .inl ⟨by (unfold InR; rw [IntKind.wrap_i64]; omega),?_⟩; ((conv=>whnf);repeat(refine⟨rfl,?_⟩;conv=>whnf)))
 refine ⟨by omega,by omega,by omega,?_⟩
 ((conv=>whnf);repeat(refine⟨rfl,?_⟩;conv=>whnf))
 (refine ⟨by omega,(by first | omega | (simp; done) | (simp; omega) | (simp only [ll]; omega)),?_⟩; ((conv=>whnf);repeat(refine⟨rfl,?_⟩;conv=>whnf)))
 refine ⟨_,za5 k (by omega) hkn,?_⟩
 ((conv=>whnf);repeat(refine⟨rfl,?_⟩;conv=>whnf))
 (refine zab (fun q=>?_) (fun q=>?_) <;> (rw [q]; ((conv=>whnf);repeat(refine⟨rfl,?_⟩;conv=>whnf))))
 ·have q : k = n:=by ((try simp only[oo,reduceCtorEq]at*)<;>omega)
  have q':=hend.1 q
  (refine .inl ⟨by (unfold InR; rw [IntKind.wrap_i64]; omega),?_⟩; ((conv=>whnf);repeat(refine⟨rfl,?_⟩;conv=>whnf)))
  have hpn : st.take (j + 1) = pre ++ [n]:=by
   rw [← hst0,q',show pre ++ n :: post = (pre ++ [n]) ++ post by simp,List.take_left' (by simp)]
  refine ⟨?_,by simp⟩
  rw [zeR (k:=k) (by omega),zk8,← htk,hpn,show 0 + ((st.length - j - 0 : Nat) - 1 : Int).toNat = post.length by omega]
  rfl
 ·have q : k≠n:=by ((try simp only[oo,reduceCtorEq]at*)<;>omega)
  have q':=fun z=>q (hend.2 z)
  refine ⟨j + 1,by omega,by dsimp only; omega,zan (by (repeat' (first | exact trivial | refine And.intro rfl ?_))) ?_⟩
  rw [zeR (k:=k) (by omega),zk8,← htk,show 0 + ((st.length - j - 0 : Nat) - 1 : Int).toNat = st.length - (j + 1) by omega]
end
section
structure TR where
 S : TJ
 Z : List Int
 ver : Nat
structure ZOK (st : List Nat) (Z : List Int) : Prop where
 len : st.length≤Z.length
 at_ : ∀ j,j < st.length→Z.getD (st.length - 1 - j) 0 = ((st.getD j 0 : Nat) : Int)
theorem ZOK.push {st : List Nat} {Z : List Int} (h : ZOK st Z) (v : Nat) : ZOK (v :: st) (Z.take st.length ++ [(v : Int)]) where
 len:=by have:=h.len; simp; omega
 at_ j hj:=by
  have hl:=h.len
  simp only [List.length_cons] at hj ⊢
  cases j with
  | zero =>
   rw [List.getD_eq_getElem?_getD,List.getElem?_append_right (by simp; omega)]
   rw [show st.length + 1 - 1 - 0 - (Z.take st.length).length = 0 by simp; omega]
   rfl
  | succ j =>
   have:=h.at_ j (by omega)
   rw [List.getD_cons_succ,← this,List.getD_eq_getElem?_getD,List.getD_eq_getElem?_getD,List.getElem?_append_left (by simp; omega),List.getElem?_take,if_pos (by omega),show st.length + 1 - 1 - (j + 1) = st.length - 1 - j by omega]
theorem ZOK.drop {pre post : List Nat} {Z : List Int} (h : ZOK (pre ++ post) Z) : ZOK post Z where
 len:=by have:=h.len; simp at this; omega
 at_ j hj:=by
  have:=h.at_ (pre.length + j) (by simp; omega)
  rw [List.getD_eq_getElem?_getD (l:=pre ++ post),List.getElem?_append_right (by omega),Nat.add_sub_cancel_left,← List.getD_eq_getElem?_getD,List.length_append,show pre.length + post.length - 1 - (pre.length + j) = post.length - 1 - j by omega] at this
  exact this
structure TRI (g : List (List Int)) (R : TR) : Prop where
 tj : TjI g R.S
 zok : ZOK R.S.stack R.Z
def TR.open (R : TR) (v : Nat) (path : List (Nat × Nat)) : TR:=⟨R.S.open v path,R.Z.take R.S.stack.length ++ [(v : Int)],R.ver + 1⟩
def zgH (g : List (List Int)) (R : TR) : TR :=
 match R.S.path with
 | []=>R
 | (p,i) :: r =>
  if i < (g.getD p []).length then
   if R.S.num ((g.getD p []).getD i 0).toNat = 0 then R.open ((g.getD p []).getD i 0).toNat ((p,i + 1) :: r)
   else ⟨R.S.skip p i r ((g.getD p []).getD i 0).toNat,R.Z,R.ver⟩
  else match r with
   | []=>⟨R.S.shut p [] R.S.low,R.Z,R.ver⟩
   | (q,j) :: r'=>if R.S.low p = R.S.num p then ⟨R.S.shut p ((q,j) :: r') (up R.S.low q (min (R.S.low q) (R.S.low p))),R.Z,R.ver⟩ else ⟨R.S.back p q j r',R.Z,R.ver⟩
def runT (g : List (List Int)) : Nat→TR→TR
 | 0,R=>R
 | k + 1,R=>if R.S.path = [] then R else runT g k (zgH g R)
theorem runT_nil {g : List (List Int)} {R : TR} (h : R.S.path = []) : ∀ k,runT g k R = R
 | 0=>rfl
 | k + 1=>by simp only [runT,if_pos h]
theorem TjI.split {g : List (List Int)} {S : TJ} (h : TjI g S) {n : Nat} (hn : n∈S.stack) : ∃ pre post,S.stack = pre ++ n :: post∧n ∉ pre∧(∀ v,v∈pre ++ [n]↔v∈S.stack∧S.num n≤S.num v)∧S.stack.filter (fun v=>decide (S.num v < S.num n)) = post:=by
 obtain ⟨pre,post,e⟩:=List.append_of_mem hn
 have hs:=h.srt
 rw [e,List.pairwise_append] at hs
 obtain ⟨s1,s2,s3⟩:=hs
 rw [List.pairwise_cons] at s2
 have p1 : ∀ v∈pre,S.num n < S.num v:=fun v hv=>s3 v hv n (by simp)
 have p2 : ∀ v∈post,S.num v < S.num n:=fun v hv=>s2.1 v hv
 refine ⟨pre,post,e,fun q=>by have:=p1 n q; omega,fun v=>?_,?_⟩
 ·rw [e]
  simp only [List.mem_append,List.mem_cons,List.not_mem_nil,or_false]
  constructor
  ·rintro (q | q)
   ·exact ⟨.inl q,Nat.le_of_lt (p1 v q)⟩
   ·subst q; exact ⟨.inr (.inl rfl),Nat.le_refl _⟩
  ·rintro ⟨q | q | q,k⟩
   ·exact .inl q
   ·exact .inr q
   ·have:=p2 v q; omega
 ·rw [e,List.filter_append,List.filter_cons,if_neg (by simp)]
  have f1 : pre.filter (fun v=>decide (S.num v < S.num n)) = []:=List.filter_eq_nil_iff.2 fun v hv=>by have:=p1 v hv; simp; omega
  have f2 : post.filter (fun v=>decide (S.num v < S.num n)) = post:=List.filter_eq_self.2 fun v hv=>by simpa using p2 v hv
  rw [f1,f2]; rfl
theorem TjI.low_last {g : List (List Int)} {S : TJ} (h : TjI g S) {p i : Nat} (hp : S.path = [(p,i)]) : S.low p = S.num p:=by
 have hseg:=h.seg
 rw [hp] at hseg
 obtain ⟨g1,g2,g3,g4,g5,⟨w,w1,w2,w3⟩,g7,g8,g9⟩:=hseg
 have:=g9 w w1
 omega
theorem TRI.shut {g : List (List Int)} {R : TR} (h : TRI g R) {n i : Nat} {r : List (Nat × Nat)} (hp : R.S.path = (n,i) :: r) (hi : (g.getD n []).length≤i) (hl : R.S.low n = R.S.num n) {low : Nat→Nat} (hlow : ∀ v,R.S.num v < R.S.num n→low v = R.S.low v) : TRI g ⟨R.S.shut n r low,R.Z,R.ver⟩:=by
 refine ⟨h.tj.shut hp hi hl hlow,?_⟩
 have hn : n∈R.S.stack:=by have:=h.tj.seg; rw [hp] at this; exact this.1
 obtain ⟨pre,post,e,e1,e2,e3⟩:=h.tj.split hn
 show ZOK (R.S.stack.filter _) R.Z
 rw [e3]
 have:=h.zok
 rw [e,show pre ++ n :: post = (pre ++ [n]) ++ post by simp] at this
 exact this.drop
theorem zl8 {g : List (List Int)} (hin : ∀ v x,x∈g.getD v []→x.toNat < g.length) {R : TR} (h : TRI g R) (hp : R.S.path≠[]) : TRI g (zgH g R)∧TJ.fuel g (zgH g R).S < TJ.fuel g R.S∧∀ x,R.S.num x≠0→(zgH g R).S.num x≠0:=by
 unfold zgH
 cases e : R.S.path with
 | nil=>exact absurd e hp
 | cons q r =>
  obtain ⟨p,i⟩:=q
  dsimp only
  by_cases hi : i < (g.getD p []).length
  ·rw [if_pos hi]
   have hv:=hin p _ (zaM hi)
   by_cases h0 : R.S.num ((g.getD p []).getD i 0).toNat = 0
   ·rw [if_pos h0]
    refine ⟨⟨h.tj.push e hi hv h0,h.zok.push _⟩,by have:=zog e hi hv h0; show TJ.fuel g (R.S.open _ _) < _; omega,fun x hx=>?_⟩
    show up R.S.num _ _ x≠0
    rw [zde (fun q=>hx (by rw [q]; exact h0))]
    exact hx
   ·rw [if_neg h0]
    exact ⟨⟨h.tj.skip e hi h0,h.zok⟩,by have:=znL (x:=((g.getD p []).getD i 0).toNat) e hi; show TJ.fuel g (R.S.skip _ _ _ _) < _; omega,fun x hx=>hx⟩
  ·rw [if_neg hi]
   cases r with
   | nil =>
    exact ⟨h.shut e (by omega) (h.tj.low_last e) (fun _ _=>rfl),zk1 e,fun x hx=>hx⟩
   | cons q r =>
    obtain ⟨q,j⟩:=q
    dsimp only
    by_cases hl : R.S.low p = R.S.num p
    ·rw [if_pos hl]
     have hseg:=h.tj.seg
     rw [e] at hseg
     obtain ⟨g1,g2,g3,g4,g5,g6,g7,g8,f1,f2,f3,f4,f5,f6,f7,f8,f9⟩:=hseg
     refine ⟨h.shut e (by omega) hl (fun v _=>?_),zk1 e,fun x hx=>hx⟩
     by_cases ev : v = q
     ·subst ev; rw [zb7]; omega
     ·rw [zde ev]
    ·rw [if_neg hl]
     exact ⟨⟨h.tj.back e (by omega) hl,h.zok⟩,zoa e,fun x hx=>hx⟩
theorem zo3 {g : List (List Int)} (hin : ∀ v x,x∈g.getD v []→x.toNat < g.length) : ∀ (k : Nat) {R : TR},TRI g R→TJ.fuel g R.S≤k→TRI g (runT g k R)∧(runT g k R).S.path = []∧∀ x,R.S.num x≠0→(runT g k R).S.num x≠0
 | 0,R,h,hk=>by
  have hp : R.S.path = []:=by
   cases e : R.S.path with
   | nil=>rfl
   | cons q r=>obtain ⟨p,i⟩:=q; unfold TJ.fuel at hk; rw [e] at hk; simp only [zgs] at hk; omega
  exact ⟨h,hp,fun x hx=>hx⟩
 | k + 1,R,h,hk=>by
  simp only [runT]
  by_cases hp : R.S.path = []
  ·rw [if_pos hp]; exact ⟨h,hp,fun x hx=>hx⟩
  ·rw [if_neg hp]
   obtain ⟨a,b,c⟩:=zl8 hin h hp
   obtain ⟨a',b',c'⟩:=zo3 hin k a (by omega)
   exact ⟨a',b',fun x hx=>c' x (c x hx)⟩
theorem TRI.root {g : List (List Int)} {R : TR} (h : TRI g R) (hp : R.S.path = []) {v : Nat} (hv : v < g.length) (h0 : R.S.num v = 0) : TRI g (R.open v []):=by
 refine ⟨h.tj.opened hv h0 (Nat.zero_le _) ?_ trivial,h.zok.push v⟩
 have:=h.tj.seg
 rw [hp] at this
 exact this
def zf5 (g : List (List Int)) (R : TR) (v : Nat) : TR:=runT g (TJ.fuel g (R.open v []).S) (R.open v [])
def zbG (g : List (List Int)) : Nat→TR
 | 0=>⟨⟨fun _=>0,fun _=>0,fun _=>-1,[],[],0,0⟩,[],0⟩
 | k + 1=>if (zbG g k).S.num k = 0 then zf5 g (zbG g k) k else zbG g k
theorem zoX {g : List (List Int)} (hin : ∀ v x,x∈g.getD v []→x.toNat < g.length) {R : TR} (h : TRI g R) (hp : R.S.path = []) {v : Nat} (hv : v < g.length) (h0 : R.S.num v = 0) :
  TRI g (zf5 g R v)∧(zf5 g R v).S.path = []∧(zf5 g R v).S.num v≠0∧∀ x,R.S.num x≠0→(zf5 g R v).S.num x≠0:=by
 obtain ⟨a,b,c⟩:=zo3 hin _ (h.root hp hv h0) (Nat.le_refl _)
 refine ⟨a,b,c v ?_,fun x hx=>c x ?_⟩
 ·show up R.S.num v (R.S.count + 1) v≠0; rw [zb7]; omega
 ·show up R.S.num v (R.S.count + 1) x≠0
  by_cases e : x = v
  ·subst e; rw [zb7]; omega
  ·rw [zde e]; exact hx
theorem zfa {g : List (List Int)} (hin : ∀ v x,x∈g.getD v []→x.toNat < g.length) : ∀ k,k≤g.length→TRI g (zbG g k)∧(zbG g k).S.path = []∧∀ j,j < k→(zbG g k).S.num j≠0
 | 0,_=>⟨⟨TjI.zero g,⟨Nat.le_refl _,fun j hj=>by cases hj⟩⟩,rfl,fun j hj=>by cases hj⟩
 | k + 1,hk=>by
  obtain ⟨a,b,c⟩:=zfa hin k (by omega)
  simp only [zbG]
  by_cases h0 : (zbG g k).S.num k = 0
  ·rw [if_pos h0]
   obtain ⟨a',b',c',d'⟩:=zoX hin a b (show k < g.length by omega) h0
   refine ⟨a',b',fun j hj=>?_⟩
   by_cases e : j = k
   ·subst e; exact c'
   ·exact d' j (c j (by omega))
  ·rw [if_neg h0]
   refine ⟨a,b,fun j hj=>?_⟩
   by_cases e : j = k
   ·subst e; exact h0
   ·exact c j (by omega)
theorem znC {g : List (List Int)} (hin : ∀ v x,x∈g.getD v []→x.toNat < g.length) : (∀ i,i < g.length→0≤(zbG g g.length).S.part i∧(zbG g g.length).S.part i < ((zbG g g.length).S.got : Int)) ∧
  (∀ i j,i < g.length→j < g.length→((zbG g g.length).S.part i = (zbG g g.length).S.part j↔mutB g i j = true))∧(zbG g g.length).S.got≤g.length:=by
 obtain ⟨a,b,c⟩:=zfa hin g.length (Nat.le_refl _)
 have hd:=fun i (hi : i < g.length)=>a.tj.done b (c i hi)
 refine ⟨fun i hi=>⟨hd i hi,(a.tj.par i (hd i hi)).1⟩,fun i j hi hj=>?_,?_⟩
 ·rw [a.tj.same i j (hd i hi) (hd j hj),mutB_iff]
 ·have h1:=a.tj.size
  have h2:=a.tj.seen
  omega
end
section
open Go.RowKit
def pz (l : List (Nat × Nat)) : List (List D):=l.map fun q=>[.sc (.int .i64 q.1),.sc (.int .i64 q.2)]
@[simp] theorem pz_len (l : List (Nat × Nat)) : (pz l).length = l.length:=by simp [pz]
theorem pure_pz (l : List (Nat × Nat)) : zbd (pz l):=zas _ (fun l=>by simp [zao,Pure]) l
@[simp] theorem underLL_pz {m : Nat} (l : List (Nat × Nat)) : zak m (pz l)↔True:=⟨fun _=>trivial,fun _=>zaa _ (pure_pz l)⟩
theorem pz_at {l : List (Nat × Nat)} {z k : Nat} (hz : z = k) (h : k < l.length) : (pz l)[z]? = some [.sc (.int .i64 (l.getD k (0,0)).1),.sc (.int .i64 (l.getD k (0,0)).2)]:=by
 subst hz
 rw [List.getD_eq_getElem?_getD,List.getElem?_eq_getElem h]
 simp [pz,h]
theorem pz_set {l : List (Nat × Nat)} {z k a b : Nat} (hz : z = k) : (pz l).set z [.sc (.int .i64 a),.sc (.int .i64 b)] = pz (l.set k (a,b)):=by
 subst hz; simp [pz,List.map_set]
theorem pz_app {Z : List (Nat × Nat)} {h a : Nat} : List.drop 0 (List.take h (pz Z)) ++ List.drop 0 (List.take 1 [[D.sc (.int .i64 a),D.sc (.int .i64 0)]]) = pz (Z.take h ++ [(a,0)]):=by simp [pz,List.map_take]
structure POK (pa : List (Nat × Nat)) (PZ : List (Nat × Nat)) : Prop where
 len : pa.length≤PZ.length
 eq : PZ.take pa.length = pa.reverse
theorem POK.top {q : Nat × Nat} {r PZ : List (Nat × Nat)} (h : POK (q :: r) PZ) : PZ.getD r.length (0,0) = q:=by
 have h1:=h.len
 have h2:=h.eq
 simp only [List.length_cons,List.reverse_cons] at h1 h2
 have h3 : (PZ.take (r.length + 1)).getD r.length (0,0) = (r.reverse ++ [q]).getD r.length (0,0):=by rw [h2]
 rw [List.getD_eq_getElem?_getD,List.getD_eq_getElem?_getD,List.getElem?_take,if_pos (by omega),List.getElem?_append_right (by simp)] at h3
 rw [List.getD_eq_getElem?_getD,h3]
 simp
theorem POK.set {q q' : Nat × Nat} {r PZ : List (Nat × Nat)} (h : POK (q :: r) PZ) : POK (q' :: r) (PZ.set r.length q') where
 len:=by have:=h.len; simpa using this
 eq:=by
  have h1:=h.len
  have h2:=h.eq
  simp only [List.length_cons,List.reverse_cons] at h1 h2 ⊢
  rw [List.take_set,h2,List.set_append_right _ _ (by simp)]
  simp
theorem POK.push {r PZ : List (Nat × Nat)} (h : POK r PZ) (q : Nat × Nat) : POK (q :: r) (PZ.take r.length ++ [q]) where
 len:=by have:=h.len; simp; omega
 eq:=by
  have h1:=h.len
  rw [List.take_of_length_le (by simp; omega),h.eq]
  simp
theorem POK.pop {q : Nat × Nat} {r PZ : List (Nat × Nat)} (h : POK (q :: r) PZ) : POK r PZ where
 len:=by have:=h.len; simp at this; omega
 eq:=by
  have h2:=h.eq
  simp only [List.length_cons,List.reverse_cons] at h2
  have h3 : (PZ.take (r.length + 1)).take r.length = (r.reverse ++ [q]).take r.length:=by rw [h2]
  rw [List.take_take,Nat.min_eq_left (by omega),List.take_left' (by simp)] at h3
  exact h3
def zem (g : List (List Int)) (R : TR) : List AObj:=zcv g R.S.num R.S.low R.S.part R.Z R.S.stack.length R.ver R.S.count R.S.got
theorem zkb {g : List (List Int)} {num low : Nat→Nat} {part : Nat→Int} {Z : List Int} {h ver count got : Nat} (X : List AObj) :
  [] ++ ((zcv g num low part Z h ver count got).map (AObj.ren fun i=>([] : List AObj).length + i) ++ X) = zcv g num low part Z h ver count got ++ X:=by
 have e : (fun i=>([] : List AObj).length + i) = fun i=>0 + i:=rfl
 have hg:=fun ρ=>zbE (ρ:=ρ) _ (zbm g)
 have h1:=fun ρ l=>zbn (ρ:=ρ) _ (zas (fun n : Int=>[D.sc (.int .i64 n)]) (fun l=>by simp [zao,Pure]) l)
 simp only [zcv,List.map_cons,List.map_nil,AObj.ren,renL,hg,i64s,h1,List.nil_append,List.cons_append]
 simp only [D.ren,Nat.zero_add,List.length_nil]
theorem zkj {g : List (List Int)} {num low : Nat→Nat} {part : Nat→Int} {Z : List Int} {h ver count got : Nat} : zbg 5 (zcv g num low part Z h ver count got):=by
 simp [zcv,zbg,AObj.under,zae,zai,zaf _ (zbm g)]
theorem zeV {g : List (List Int)} {f : FuncId} {v : Int} {num low num' low' : Nat→Nat} {part part' : Nat→Int} {Z Z' : List Int} {h ver count got h' ver' count' got' : Nat}
  (hA : ACall Tryz.prog f [.loc 3 0,.sc (.int .i64 v)] (zcv g num low part Z h ver count got) (.tup []) (zcv g num' low' part' Z' h' ver' count' got')) (X : List AObj) :
  ACall Tryz.prog f [.loc 3 0,.sc (.int .i64 v)] (zcv g num low part Z h ver count got ++ X) (.tup []) (zcv g num' low' part' Z' h' ver' count' got' ++ X) :=
 zcj hA [] X (by simp [zcv]) (by simp [zcv,zae,zai]) zkj (by simp [renL,D.ren]) (by simp [D.ren,renL]) (zkb X) (zkb X)
theorem TRI.bounds {g : List (List Int)} {R : TR} (h : TRI g R) (hn : g.length≤1000000000) : R.S.stack.length≤1000000000∧R.S.count≤1000000000∧R.S.got≤1000000000∧R.S.path.length≤1000000000:=by
 have h1:=h.tj.size
 have h2:=h.tj.seen
 have h3:=h.tj.deep
 omega
theorem zgY {g : List (List Int)} (hn : g.length≤1000000000) {R : TR} (hI : TRI g R) {p : Nat} (hp : p∈R.S.stack) (low : Nat→Nat) (path : List (Nat × Nat)) (X : List AObj) :
  ACall Tryz.prog 106 [.loc 3 0,.sc (.int .i64 p)] (zcv g R.S.num low R.S.part R.Z R.S.stack.length R.ver R.S.count R.S.got ++ X) (.tup []) (zem g ⟨R.S.shut p path low,R.Z,R.ver⟩ ++ X):=by
 have hb:=hI.bounds hn
 obtain ⟨pre,post,e,e1,e2,e3⟩:=hI.tj.split hp
 have hst : ∀ v∈pre ++ p :: post,v < g.length:=fun v hv=>hI.tj.node v ((hI.tj.stk v).1 (e ▸ hv)).1
 have hl:=hI.zok.len
 have ha:=hI.zok.at_
 rw [e] at hl ha hb
 have hC:=tj_close g hn R.S.num low R.S.part R.Z pre post p R.ver R.S.count R.S.got hl hb.1 hb.2.2.1 ha hst e1
 have ep : cutP R.S.part (pre ++ [p]) R.S.got = (R.S.shut p path low).part:=by
  funext v
  show (if v∈pre ++ [p] then _ else _) = if v∈R.S.stack∧R.S.num p≤R.S.num v then _ else _
  by_cases q : v∈pre ++ [p]
  ·rw [if_pos q,if_pos ((e2 v).1 q)]
  ·rw [if_neg q,if_neg (fun z=>q ((e2 v).2 z))]
 have es : (R.S.shut p path low).stack = post:=e3
 have:=zeV hC X
 rw [ep,← e,← es] at this
 exact this
def c72_1 : PC:=.seq (.seq (.ops [qm 15 4,q 16 (.len (.tmp 15)),q 17 (.bin .gtr (.tmp 16) (.const (.int .i64 0)))] false) (.cond (.tmp 17) (.skip) (.exit 0))) (.block 1 (.seq (.ops [qm 18 4,qm 19 4,q 20 (.len (.tmp 19)),q 21 (.bin .sub (.tmp 20) (.const (.int .i64 1))),q 22 (.iaddr 2 (.tmp 18) (.tmp 21)),qm 5 22] false) (.seq (.seq (.ops [qm 23 5,qd 24 (.nilchk (.tmp 23)) 1,qd 25 (.faddr 1 (.tmp 24)) 3,qd 26 (.load1 (.tmp 25)) 7,qm 27 0,qd 28 (.nilchk (.tmp 27)) 16,qd 29 (.faddr 0 (.tmp 28)) 48,qd 30 (.load1 (.tmp 29)) 112,qm 31 5,qd 32 (.nilchk (.tmp 31)) 256,qd 33 (.faddr 0 (.tmp 32)) 768,qd 34 (.load1 (.tmp 33)) 1792,qd 35 (.iaddr 1 (.tmp 30) (.tmp 34)) 4080,qd 36 (.load1 (.tmp 35)) 8176,qd 37 (.len (.tmp 36)) 16368,qd 38 (.bin .lss (.tmp 26) (.tmp 37)) 32767] true) (.cond (.tmp 38) (.seq (.ops [qm 39 0,qd 40 (.nilchk (.tmp 39)) 1,qd 41 (.faddr 0 (.tmp 40)) 3,qd 42 (.load1 (.tmp 41)) 7,qm 43 5,qd 44 (.nilchk (.tmp 43)) 16,qd 45 (.faddr 0 (.tmp 44)) 48,qd 46 (.load1 (.tmp 45)) 112,qd 47 (.iaddr 1 (.tmp 42) (.tmp 46)) 255,qd 48 (.load1 (.tmp 47)) 511,qm 49 5,qd 50 (.nilchk (.tmp 49)) 1024,qd 51 (.faddr 1 (.tmp 50)) 3072,qd 52 (.load1 (.tmp 51)) 7168,qd 53 (.iaddr 1 (.tmp 48) (.tmp 52)) 16383,qd 54 (.load1 (.tmp 53)) 32767,qw 6 54 65535] true) (.seq (.ops [qm 55 5,q 56 (.nilchk (.tmp 55)),q 57 (.faddr 1 (.tmp 56)),q 58 (.load1 (.tmp 57)),q 59 (.bin .add (.tmp 58) (.const (.int .i64 1))),q 60 (.nilchk (.tmp 55)),q 61 (.faddr 1 (.tmp 60)),qn (.store 1 (.tmp 61) (.tmp 59))] false) (.seq (.block 2 (.seq (.ops [qm 63 0,q 64 (.nilchk (.tmp 63)),q 65 (.faddr 1 (.tmp 64)),q 66 (.load1 (.tmp 65)),qm 67 6,q 68 (.iaddr 1 (.tmp 66) (.tmp 67)),q 69 (.load1 (.tmp 68)),q 70 (.bin .eql (.tmp 69) (.const (.int .i64 0))),qm 62 70] false) (.cond (.tmp 62) (.seq (.ops [qm 71 0,qm 72 6,q 73 (.call 105 [(.tmp 71),(.tmp 72)])] false) (.ops [qm 74 4,qm 75 6,q 76 (.build [(.int .i64 0),(.int .i64 0)] [(0,1,(.tmp 75)),(1,1,(.const (.int .i64 0)))]),q 77 (.bslice 2 1 [(.tmp 76)]),q 78 (.append 2 16 (.tmp 74) (.tmp 77)),qm 4 78] false)) (.seq (.ops [qm 80 0,q 81 (.nilchk (.tmp 80)),q 82 (.faddr 3 (.tmp 81)),q 83 (.load1 (.tmp 82)),qm 84 6,q 85 (.iaddr 1 (.tmp 83) (.tmp 84)),q 86 (.load1 (.tmp 85)),q 87 (.bin .lss (.tmp 86) (.const (.int .i64 0))),qm 79 87] false) (.cond (.tmp 79) (.ops [qm 88 0,qd 89 (.nilchk (.tmp 88)) 1,qd 90 (.faddr 2 (.tmp 89)) 3,qd 91 (.load1 (.tmp 90)) 7,qm 92 5,qd 93 (.nilchk (.tmp 92)) 16,qd 94 (.faddr 0 (.tmp 93)) 48,qd 95 (.load1 (.tmp 94)) 112,qm 96 0,qd 97 (.nilchk (.tmp 96)) 256,qd 98 (.faddr 2 (.tmp 97)) 768,qd 99 (.load1 (.tmp 98)) 1792,qm 100 5,qd 101 (.nilchk (.tmp 100)) 4096,qd 102 (.faddr 0 (.tmp 101)) 12288,qd 103 (.load1 (.tmp 102)) 28672,qd 104 (.iaddr 1 (.tmp 99) (.tmp 103)) 65280,qd 105 (.load1 (.tmp 104)) 130816,qm 106 0,qd 107 (.nilchk (.tmp 106)) 262144,qd 108 (.faddr 1 (.tmp 107)) 786432,qd 109 (.load1 (.tmp 108)) 1835008,qm 110 6,qd 111 (.iaddr 1 (.tmp 109) (.tmp 110)) 8126464,qd 112 (.load1 (.tmp 111)) 16515072,qd 113 (.mx false (.tmp 105) (.tmp 112)) 33554176,qd 114 (.iaddr 1 (.tmp 91) (.tmp 95)) 67108863,qk (.store 1 (.tmp 114) (.tmp 113)) 134217727] true) (.skip)))))) (.exit 1)))) (.skip))) (.seq (.ops [qm 115 5,q 116 (.nilchk (.tmp 115)),q 117 (.faddr 0 (.tmp 116)),q 118 (.load1 (.tmp 117)),qm 7 118] false) (.seq (.ops [qm 119 4,qm 120 4,q 121 (.len (.tmp 120)),q 122 (.bin .sub (.tmp 121) (.const (.int .i64 1))),q 123 (.slc 2 (.tmp 119) none (some (.tmp 122)) none),qm 4 123] false) (.seq (.seq (.ops [qm 124 4,q 125 (.len (.tmp 124)),q 126 (.bin .gtr (.tmp 125) (.const (.int .i64 0)))] false) (.cond (.tmp 126) (.seq (.ops [qm 127 4,qm 128 4,q 129 (.len (.tmp 128)),q 130 (.bin .sub (.tmp 129) (.const (.int .i64 1))),q 131 (.iaddr 2 (.tmp 127) (.tmp 130)),q 132 (.faddr 0 (.tmp 131)),q 133 (.load1 (.tmp 132)),qm 8 133] false) (.ops [qm 134 0,qd 135 (.nilchk (.tmp 134)) 1,qd 136 (.faddr 2 (.tmp 135)) 3,qd 137 (.load1 (.tmp 136)) 7,qm 138 8,qm 139 0,qd 140 (.nilchk (.tmp 139)) 32,qd 141 (.faddr 2 (.tmp 140)) 96,qd 142 (.load1 (.tmp 141)) 224,qm 143 8,qd 144 (.iaddr 1 (.tmp 142) (.tmp 143)) 992,qd 145 (.load1 (.tmp 144)) 2016,qm 146 0,qd 147 (.nilchk (.tmp 146)) 4096,qd 148 (.faddr 2 (.tmp 147)) 12288,qd 149 (.load1 (.tmp 148)) 28672,qm 150 7,qd 151 (.iaddr 1 (.tmp 149) (.tmp 150)) 126976,qd 152 (.load1 (.tmp 151)) 258048,qd 153 (.mx false (.tmp 145) (.tmp 152)) 524256,qd 154 (.iaddr 1 (.tmp 137) (.tmp 138)) 1048575,qk (.store 1 (.tmp 154) (.tmp 153)) 2097151] true)) (.skip))) (.seq (.ops [qm 155 0,qd 156 (.nilchk (.tmp 155)) 1,qd 157 (.faddr 2 (.tmp 156)) 3,qd 158 (.load1 (.tmp 157)) 7,qm 159 7,qd 160 (.iaddr 1 (.tmp 158) (.tmp 159)) 31,qd 161 (.load1 (.tmp 160)) 63,qm 162 0,qd 163 (.nilchk (.tmp 162)) 128,qd 164 (.faddr 1 (.tmp 163)) 384,qd 165 (.load1 (.tmp 164)) 896,qm 166 7,qd 167 (.iaddr 1 (.tmp 165) (.tmp 166)) 3968,qd 168 (.load1 (.tmp 167)) 8064,qd 169 (.bin .eql (.tmp 161) (.tmp 168)) 16383] true) (.cond (.tmp 169) (.ops [qm 170 0,qm 171 7,q 172 (.call 106 [(.tmp 170),(.tmp 171)])] false) (.skip)))))))))
def c72 : PC:=.seq (.ops [qm 9 1,q 10 (.build [(.int .i64 0),(.int .i64 0)] [(0,1,(.tmp 9)),(1,1,(.const (.int .i64 0)))]),q 11 (.bslice 2 1 [(.tmp 10)]),qm 4 11] false) (.seq (.ops [qm 12 0,qm 13 1,q 14 (.call 105 [(.tmp 12),(.tmp 13)])] false) (.block 0 (.loop c72_1)))
theorem c72_ok : FunOK Tryz.prog 72 173 [] c72:=⟨⟨Tryz.f72,Tryz.func72,rfl,by kernel_rfl,rfl,by kernel_rfl⟩⟩
theorem tj_visit (g : List (List Int)) (hn : g.length≤1000000000) (hin0 : ∀ l∈g,inB l g.length = true) (hF : FitsG g) (R : TR) (hR : TRI g R) (hp : R.S.path = []) (v : Nat) (hv : v < g.length) (h0 : R.S.num v = 0) :
  ACall Tryz.prog 72 [.loc 3 0,.sc (.int .i64 v)] (zem g R) (.tup []) (zem g (zf5 g R v)):=by
 have hrow:=fun k=>zbL hin0 k
 have hin : ∀ v x,x∈g.getD v []→x.toNat < g.length:=fun v x hx=>by have:=zaN (hrow v) hx; omega
 have hb:=hR.bounds hn
 have hB:=zeV (zlZ g hn R.S.num R.S.low R.S.part R.Z R.S.stack.length R.ver R.S.count R.S.got hR.zok.len hb.1 hb.2.1 v hv) [.vec true 0 2 (pz [(v,0)])]
 refine zb4 c72_ok (by simp) (by simp [zem,zcv]) ?_ (by simp [zai,zae]) zfW
 have hI0:=hR.root hp hv h0
 have eF : zf5 g R v = runT g (TJ.fuel g (R.open v []).S) (R.open v []):=rfl
 generalize zf5 g R v = Fin at *
 have eO : zem g (R.open v []) = zcv g (up R.S.num v (R.S.count + 1)) (up R.S.low v (R.S.count + 1)) R.S.part (R.Z.take R.S.stack.length ++ [(v : Int)]) (R.S.stack.length + 1) (R.ver + 1) (R.S.count + 1) R.S.got:=rfl
 rw [← eO] at hB
 clear eO
 have ep : (R.open v []).S.path = [(v,0)]:=rfl
 generalize R.open v [] = R0 at *
 unfold zem zcv at hB ⊢
 (apply zac; focus (repeat' constructor))
 ((conv=>whnf);repeat(refine⟨rfl,?_⟩;conv=>whnf))
 (refine .inr (.inr (.inl ⟨rfl,_,_,hB,?_⟩)); ((conv=>whnf);repeat(refine⟨rfl,?_⟩;conv=>whnf)))
 refine zaz [0] (fun ((R,PZ,pver,k) : TR × List (Nat × Nat) × Nat × Nat)=>[(4,.own 5 pver 0 R.S.path.length)]) (fun (R,PZ,pver,k)=>zem g R ++ [.vec true pver 2 (pz PZ)])
  (fun (R,PZ,pver,k)=>TRI g R∧POK R.S.path PZ∧TJ.fuel g R.S≤k∧runT g k R = Fin) (fun (R,PZ,pver,k)=>TJ.fuel g R.S) (R0,[(v,0)],0,TJ.fuel g R0.S) ?_
 ((conv=>whnf);repeat(refine⟨rfl,?_⟩;conv=>whnf))
 refine ⟨⟨hI0,by rw [ep]; exact ⟨by simp,rfl⟩,Nat.le_refl _,eF.symm⟩,⟨by rw [ep]; rfl,by (repeat' (first | exact trivial | refine And.intro rfl ?_))⟩,rfl,?_⟩
 clear hB hI0 ep eF
 rintro ⟨R,PZ,pver,k⟩ ⟨hI,hPZ,hk,hF'⟩
 have hb:=hI.bounds hn
 cases ep : R.S.path with
 | nil =>
  rw [runT_nil ep] at hF'
  subst hF'
  have hph : R.S.path.length = 0:=by rw [ep]; rfl
  unfold zem zcv
  ((conv=>whnf);repeat(refine⟨rfl,?_⟩;conv=>whnf))
  (apply zac; focus (repeat' constructor))
  ((conv=>whnf);repeat(refine⟨rfl,?_⟩;conv=>whnf))
  rw [hph]
  ((conv=>whnf);repeat(refine⟨rfl,?_⟩;conv=>whnf))
  show (5 : Nat)≤6
  omega
 | cons q r =>
  obtain ⟨p,i⟩:=q
  have hst:=hI.tj.seg
  rw [ep] at hst hPZ
  have hps:=hst.1
  have hpn:=hI.tj.node p ((hI.tj.stk p).1 hps).1
  have hsO:=zl8 hin hI (by rw [ep]; simp)
  obtain ⟨k',rfl⟩ : ∃ k',k = k' + 1:=⟨k - 1,by have:=hsO.2.1; omega⟩
  have hF'' : runT g k' (zgH g R) = Fin:=by rw [← hF']; simp only [runT]; rw [if_neg (by rw [ep]; simp)]
  have hlt:=hsO.2.1
  have hI':=hsO.1
  have htop:=hPZ.top
  have hPl:=hPZ.len
  rw [ep] at hb
  simp only [List.length_cons] at hb hPl
  have hgF:=hF.at p
  have hph : R.S.path.length = r.length + 1:=by rw [ep]; rfl
  generalize hS' : zgH g R = R' at *
  unfold zem zcv zbe
  ((conv=>whnf);repeat(refine⟨rfl,?_⟩;conv=>whnf))
  (apply zac; focus (repeat' constructor))
  ((conv=>whnf);repeat(refine⟨rfl,?_⟩;conv=>whnf))
  rw [hph]
  (refine zab (fun q0=>?_) (fun q0=>?_) <;> (rw [q0]; ((conv=>whnf);repeat(refine⟨rfl,?_⟩;conv=>whnf))))
  ·have hat : (pz PZ)[r.length]? = some [.sc (.int .i64 p),.sc (.int .i64 i)]:=by rw [pz_at rfl (by omega),htop]
   (refine .inl ⟨by (unfold InR; rw [IntKind.wrap_i64]; omega),?_⟩; ((conv=>whnf);repeat(refine⟨rfl,?_⟩;conv=>whnf)))
   (refine ⟨by omega,(by first | omega | (simp; done) | (simp; omega) | (simp only [ll]; omega)),?_⟩; ((conv=>whnf);repeat(refine⟨rfl,?_⟩;conv=>whnf)))
   rw [show 0 + (((r.length + 1 - 0 : Nat) : Int) - 1).toNat = r.length by omega]
   refine ⟨_,hat,?_⟩
   ((conv=>whnf);repeat(refine⟨rfl,?_⟩;conv=>whnf))
   refine ⟨_,hat,?_⟩
   ((conv=>whnf);repeat(refine⟨rfl,?_⟩;conv=>whnf))
   refine ⟨by omega,_,zbx (k:=p) (by omega) hpn,?_⟩
   ((conv=>whnf);repeat(refine⟨rfl,?_⟩;conv=>whnf))
   rw [List.length_map]
   (refine zab (fun hi=>?_) (fun hi=>?_) <;> (rw [hi]; ((conv=>whnf);repeat(refine⟨rfl,?_⟩;conv=>whnf))))
   ·have hi : i < (g.getD p []).length:=by ((try simp only[oo,reduceCtorEq]at*)<;>omega)
    have hx:=zaN (hrow p) (zaM hi)
    refine ⟨_,hat,?_⟩
    ((conv=>whnf);repeat(refine⟨rfl,?_⟩;conv=>whnf))
    refine ⟨by omega,_,zbx (k:=p) (by omega) hpn,?_⟩
    ((conv=>whnf);repeat(refine⟨rfl,?_⟩;conv=>whnf))
    refine ⟨_,hat,?_⟩
    ((conv=>whnf);repeat(refine⟨rfl,?_⟩;conv=>whnf))
    refine ⟨by omega,_,zaW (l:=g.getD p []) (k:=i) (by omega) hi,?_⟩
    ((conv=>whnf);repeat(refine⟨rfl,?_⟩;conv=>whnf))
    refine ⟨_,hat,?_⟩
    ((conv=>whnf);repeat(refine⟨rfl,?_⟩;conv=>whnf))
    (refine .inl ⟨by (unfold InR; rw [IntKind.wrap_i64]; omega),?_⟩; ((conv=>whnf);repeat(refine⟨rfl,?_⟩;conv=>whnf)))
    refine ⟨_,hat,?_⟩
    ((conv=>whnf);repeat(refine⟨rfl,?_⟩;conv=>whnf))
    rw [show (i : Int) + 1 = ((i + 1 : Nat) : Int) from rfl,pz_set (k:=r.length) rfl]
    have hPS:=hPZ.set (q':=(p,i + 1))
    have hSl : (PZ.set r.length (p,i + 1)).length = PZ.length:=by simp
    have hto : zgH g R = if R.S.num ((g.getD p []).getD i 0).toNat = 0 then R.open ((g.getD p []).getD i 0).toNat ((p,i + 1) :: r) else ⟨R.S.skip p i r ((g.getD p []).getD i 0).toNat,R.Z,R.ver⟩:=by
     unfold zgH; rw [ep]; simp only [if_pos hi]
    have hxe : ∀ k,k = i→(g.getD p []).getD k 0 = (g.getD p []).getD i 0:=fun k e=>by rw [e]
    generalize (g.getD p []).getD i 0 = x at *
    obtain ⟨to,rfl⟩ : ∃ to : Nat,x = to:=⟨x.toNat,by omega⟩
    rw [Int.toNat_natCast] at hto
    have htn : to < g.length:=by omega
    (refine ⟨by omega,(by first | omega | (simp; done) | (simp; omega) | (simp only [ll]; omega)),?_⟩; ((conv=>whnf);repeat(refine⟨rfl,?_⟩;conv=>whnf)))
    refine ⟨_,za5 to (by omega) htn,?_⟩
    ((conv=>whnf);repeat(refine⟨rfl,?_⟩;conv=>whnf))
    rw [show gn R.S.num to = (R.S.num to : Int) from rfl]
    (refine zab (fun h1=>?_) (fun h1=>?_) <;> (rw [h1]; ((conv=>whnf);repeat(refine⟨rfl,?_⟩;conv=>whnf))))
    ·have h1 : R.S.num to = 0:=by ((try simp only[oo,reduceCtorEq]at*)<;>omega)
     rw [if_pos h1,hS'] at hto
     subst hto
     have hB:=zeV (zlZ g hn R.S.num R.S.low R.S.part R.Z R.S.stack.length R.ver R.S.count R.S.got hI.zok.len hb.1 hb.2.1 to htn) [.vec true pver 2 (pz (PZ.set r.length (p,i + 1)))]
     unfold zcv zbe at hB
     (refine .inr (.inr (.inl ⟨rfl,_,_,hB,?_⟩)); ((conv=>whnf);repeat(refine⟨rfl,?_⟩;conv=>whnf)))
     refine ⟨(by unfold zaj; simp only [ll]; omega),?_⟩
     ((conv=>whnf);repeat(refine⟨rfl,?_⟩;conv=>whnf))
     refine ⟨(R.open to ((p,i + 1) :: r),(PZ.set r.length (p,i + 1)).take (r.length + 1) ++ [(to,0)],pver + 1,k'),⟨hI',hPS.push (to,0),by omega,hF''⟩,by dsimp only; omega,?_⟩
     (refine zal 6 (by simp) rfl ?_ ?_ <;> (repeat' (first | exact trivial | exact rfl | exact DeepM.refl _ | exact DeepML.refl _ | exact DeepMLL.refl _ | refine And.intro ?_ ?_ | (simp [zai,zae,zak,-List.map_take,-List.map_drop]; done))))
     exact zah pz_app
    ·have h1 : R.S.num to≠0:=by ((try simp only[oo,reduceCtorEq]at*)<;>omega)
     rw [if_neg h1,hS'] at hto
     subst hto
     have hcn:=hI.tj.cnt to
     have hcp:=hI.tj.cnt p
     (refine ⟨by omega,(by first | omega | (simp; done) | (simp; omega) | (simp only [ll]; omega)),?_⟩; ((conv=>whnf);repeat(refine⟨rfl,?_⟩;conv=>whnf)))
     refine ⟨_,za5 to (by omega) htn,?_⟩
     ((conv=>whnf);repeat(refine⟨rfl,?_⟩;conv=>whnf))
     (refine zab (fun h2=>?_) (fun h2=>?_) <;> (rw [h2]; ((conv=>whnf);repeat(refine⟨rfl,?_⟩;conv=>whnf))))
     ·have h2 : R.S.part to < 0:=by ((try simp only[oo,reduceCtorEq]at*)<;>omega)
      have hat' : (pz (PZ.set r.length (p,i + 1)))[r.length]? = some [.sc (.int .i64 p),.sc (.int .i64 ((i + 1 : Nat) : Int))]:=by
       rw [pz_at rfl (by omega),hPS.top]
      refine ⟨_,hat',?_⟩
      ((conv=>whnf);repeat(refine⟨rfl,?_⟩;conv=>whnf))
      refine ⟨_,hat',?_⟩
      ((conv=>whnf);repeat(refine⟨rfl,?_⟩;conv=>whnf))
      (refine ⟨by omega,(by first | omega | (simp; done) | (simp; omega) | (simp only [ll]; omega)),?_⟩; ((conv=>whnf);repeat(refine⟨rfl,?_⟩;conv=>whnf)))
      refine ⟨_,za5 p (by omega) hpn,?_⟩
      ((conv=>whnf);repeat(refine⟨rfl,?_⟩;conv=>whnf))
      (refine ⟨by omega,(by first | omega | (simp; done) | (simp; omega) | (simp only [ll]; omega)),?_⟩; ((conv=>whnf);repeat(refine⟨rfl,?_⟩;conv=>whnf)))
      refine ⟨_,za5 to (by omega) htn,?_⟩
      ((conv=>whnf);repeat(refine⟨rfl,?_⟩;conv=>whnf))
      (refine ⟨by omega,(by first | omega | (simp; done) | (simp; omega) | (simp only [ll]; omega)),?_⟩; ((conv=>whnf);repeat(refine⟨rfl,?_⟩;conv=>whnf)))
      refine ⟨_,za5 p (by omega) hpn,?_⟩
      ((conv=>whnf);repeat(refine⟨rfl,?_⟩;conv=>whnf))
      have el : (R.S.skip p i r to).low = up R.S.low p (min (R.S.low p) (R.S.num to)):=if_pos h2
      refine ⟨(⟨R.S.skip p i r to,R.Z,R.ver⟩,PZ.set r.length (p,i + 1),pver,k'),⟨hI',hPS,by omega,hF''⟩,by dsimp only; omega,zan (by (repeat' (first | exact trivial | refine And.intro rfl ?_))) ?_⟩
      dsimp only
      rw [el,show min (gn R.S.low p) (gn R.S.num to) = ((min (R.S.low p) (R.S.num to) : Nat) : Int) by unfold gn; omega,zeR (k:=p) (by omega),gn_up]
      rfl
     ·have h2 : ¬ R.S.part to < 0:=by ((try simp only[oo,reduceCtorEq]at*)<;>omega)
      have el : (R.S.skip p i r to).low = R.S.low:=if_neg h2
      refine ⟨(⟨R.S.skip p i r to,R.Z,R.ver⟩,PZ.set r.length (p,i + 1),pver,k'),⟨hI',hPS,by omega,hF''⟩,by dsimp only; omega,zan (by (repeat' (first | exact trivial | refine And.intro rfl ?_))) ?_⟩
      dsimp only
      rw [el]
      rfl
   ·have hi : (g.getD p []).length≤i:=by have : ¬ i < (g.getD p []).length:=by ((try simp only[oo,reduceCtorEq]at*)<;>omega)
                                         omega
    refine ⟨_,hat,?_⟩
    ((conv=>whnf);repeat(refine⟨rfl,?_⟩;conv=>whnf))
    (refine .inl ⟨by (unfold InR; rw [IntKind.wrap_i64]; omega),?_⟩; ((conv=>whnf);repeat(refine⟨rfl,?_⟩;conv=>whnf)))
    refine ⟨by omega,by omega,by omega,?_⟩
    ((conv=>whnf);repeat(refine⟨rfl,?_⟩;conv=>whnf))
    rw [show 0 + (((r.length + 1 - 0 : Nat) : Int) - 1).toNat = r.length by omega]
    have hPP:=hPZ.pop
    have hpl:=hI.tj.cnt p
    have hlp : R.S.low p≤R.S.num p:=hst.2.2.2.2.1
    cases r with
    | nil =>
     have hto : zgH g R = ⟨R.S.shut p [] R.S.low,R.Z,R.ver⟩:=by
      unfold zgH; rw [ep]; simp only [if_neg (Nat.not_lt.2 hi)]
     rw [hS'] at hto
     ((conv=>whnf);repeat(refine⟨rfl,?_⟩;conv=>whnf))
     (refine ⟨by omega,(by first | omega | (simp; done) | (simp; omega) | (simp only [ll]; omega)),?_⟩; ((conv=>whnf);repeat(refine⟨rfl,?_⟩;conv=>whnf)))
     refine ⟨_,za5 p (by omega) hpn,?_⟩
     ((conv=>whnf);repeat(refine⟨rfl,?_⟩;conv=>whnf))
     (refine ⟨by omega,(by first | omega | (simp; done) | (simp; omega) | (simp only [ll]; omega)),?_⟩; ((conv=>whnf);repeat(refine⟨rfl,?_⟩;conv=>whnf)))
     refine ⟨_,za5 p (by omega) hpn,?_⟩
     ((conv=>whnf);repeat(refine⟨rfl,?_⟩;conv=>whnf))
     rw [show gn R.S.low p = (R.S.low p : Int) from rfl,show gn R.S.num p = (R.S.num p : Int) from rfl]
     have hll:=hI.tj.low_last ep
     (refine zab (fun h3=>?_) (fun h3=>?_) <;> (rw [h3]; ((conv=>whnf);repeat(refine⟨rfl,?_⟩;conv=>whnf))))
     ·have hC:=zgY hn hI hps R.S.low [] [.vec true pver 2 (pz PZ)]
      unfold zem zcv zbe at hC
      (refine .inr (.inr (.inl ⟨rfl,_,_,hC,?_⟩)); ((conv=>whnf);repeat(refine⟨rfl,?_⟩;conv=>whnf)))
      subst hto
      refine ⟨(⟨R.S.shut p [] R.S.low,R.Z,R.ver⟩,PZ,pver,k'),⟨hI',hPP,by omega,hF''⟩,by dsimp only; omega,zan (by (repeat' (first | exact trivial | refine And.intro rfl ?_))) rfl⟩
     ·exfalso; ((try simp only[oo,reduceCtorEq]at*)<;>omega)
    | cons q r =>
     obtain ⟨q,j⟩:=q
     have hqp:=hst.2.2.2.2.2.2.2.2
     have hqs:=hqp.1
     have hqn:=hI.tj.node q ((hI.tj.stk q).1 hqs).1
     have hne : p≠q:=fun e=>by
      have:=hqp.2.1
      rw [e] at this
      omega
     have hto : zgH g R = if R.S.low p = R.S.num p then ⟨R.S.shut p ((q,j) :: r) (up R.S.low q (min (R.S.low q) (R.S.low p))),R.Z,R.ver⟩ else ⟨R.S.back p q j r,R.Z,R.ver⟩:=by
      unfold zgH; rw [ep]; simp only [if_neg (Nat.not_lt.2 hi)]
     rw [hS'] at hto
     have hat2 : (pz PZ)[r.length]? = some [.sc (.int .i64 q),.sc (.int .i64 j)]:=by rw [pz_at rfl (by simp at hPl; omega),hPP.top]
     rw [List.length_cons] at hPl hb
     rw [List.length_cons]
     (refine zab (fun q5=>?_) (fun q5=>?_) <;> (rw [q5]; ((conv=>whnf);repeat(refine⟨rfl,?_⟩;conv=>whnf))))
     ·(refine .inl ⟨by (unfold InR; rw [IntKind.wrap_i64]; omega),?_⟩; ((conv=>whnf);repeat(refine⟨rfl,?_⟩;conv=>whnf)))
      (refine ⟨by omega,(by first | omega | (simp; done) | (simp; omega) | (simp only [ll]; omega)),?_⟩; ((conv=>whnf);repeat(refine⟨rfl,?_⟩;conv=>whnf)))
      rw [show 0 + (((r.length + 1 - (0 + 0) : Nat) : Int) - 1).toNat = r.length by omega]
      refine ⟨_,hat2,?_⟩
      ((conv=>whnf);repeat(refine⟨rfl,?_⟩;conv=>whnf))
      (refine ⟨by omega,(by first | omega | (simp; done) | (simp; omega) | (simp only [ll]; omega)),?_⟩; ((conv=>whnf);repeat(refine⟨rfl,?_⟩;conv=>whnf)))
      refine ⟨_,za5 q (by omega) hqn,?_⟩
      ((conv=>whnf);repeat(refine⟨rfl,?_⟩;conv=>whnf))
      (refine ⟨by omega,(by first | omega | (simp; done) | (simp; omega) | (simp only [ll]; omega)),?_⟩; ((conv=>whnf);repeat(refine⟨rfl,?_⟩;conv=>whnf)))
      refine ⟨_,za5 p (by omega) hpn,?_⟩
      ((conv=>whnf);repeat(refine⟨rfl,?_⟩;conv=>whnf))
      (refine ⟨by omega,(by first | omega | (simp; done) | (simp; omega) | (simp only [ll]; omega)),?_⟩; ((conv=>whnf);repeat(refine⟨rfl,?_⟩;conv=>whnf)))
      refine ⟨_,za5 q (by omega) hqn,?_⟩
      ((conv=>whnf);repeat(refine⟨rfl,?_⟩;conv=>whnf))
      rw [show min (gn R.S.low q) (gn R.S.low p) = ((min (R.S.low q) (R.S.low p) : Nat) : Int) by unfold gn; omega,zeR (k:=q) (by omega),gn_up]
      (refine ⟨by omega,(by first | omega | (simp; done) | (simp; omega) | (simp only [ll]; omega)),?_⟩; ((conv=>whnf);repeat(refine⟨rfl,?_⟩;conv=>whnf)))
      refine ⟨_,za5 p (by omega) hpn,?_⟩
      ((conv=>whnf);repeat(refine⟨rfl,?_⟩;conv=>whnf))
      (refine ⟨by omega,(by first | omega | (simp; done) | (simp; omega) | (simp only [ll]; omega)),?_⟩; ((conv=>whnf);repeat(refine⟨rfl,?_⟩;conv=>whnf)))
      refine ⟨_,za5 p (by omega) hpn,?_⟩
      ((conv=>whnf);repeat(refine⟨rfl,?_⟩;conv=>whnf))
      rw [show gn (up R.S.low q (min (R.S.low q) (R.S.low p))) p = (R.S.low p : Int) by unfold gn; rw [zde hne],show gn R.S.num p = (R.S.num p : Int) from rfl]
      (refine zab (fun h3=>?_) (fun h3=>?_) <;> (rw [h3]; ((conv=>whnf);repeat(refine⟨rfl,?_⟩;conv=>whnf))))
      ·have h3 : R.S.low p = R.S.num p:=by ((try simp only[oo,reduceCtorEq]at*)<;>omega)
       rw [if_pos h3] at hto
       have hC:=zgY hn hI hps (up R.S.low q (min (R.S.low q) (R.S.low p))) ((q,j) :: r) [.vec true pver 2 (pz PZ)]
       unfold zem zcv zbe at hC
       (refine .inr (.inr (.inl ⟨rfl,_,_,hC,?_⟩)); ((conv=>whnf);repeat(refine⟨rfl,?_⟩;conv=>whnf)))
       subst hto
       refine ⟨(⟨R.S.shut p ((q,j) :: r) (up R.S.low q (min (R.S.low q) (R.S.low p))),R.Z,R.ver⟩,PZ,pver,k'),⟨hI',hPP,by omega,hF''⟩,by dsimp only; omega,zan (by (repeat' (first | exact trivial | refine And.intro rfl ?_))) rfl⟩
      ·have h3 : R.S.low p≠R.S.num p:=by ((try simp only[oo,reduceCtorEq]at*)<;>omega)
       rw [if_neg h3] at hto
       subst hto
       refine ⟨(⟨R.S.back p q j r,R.Z,R.ver⟩,PZ,pver,k'),⟨hI',hPP,by omega,hF''⟩,by dsimp only; omega,zan (by (repeat' (first | exact trivial | refine And.intro rfl ?_))) rfl⟩
     ·exfalso; ((try simp only[oo,reduceCtorEq]at*)<;>omega)
  ·exfalso; ((try simp only[oo,reduceCtorEq]at*)<;>omega)
end
section
open Go.RowKit
noncomputable def partsG (g : List (List Int)) : Nat→Int:=gn (pnum (mutB g))
noncomputable def zdp (g : List (List Int)) : List Int:=gl g.length (partsG g)
def znZ (same : Nat→Nat→Bool) (part : Nat→Int) (name : Nat→Int) (k : Nat) : Prop:=∀ i : Nat,(∃ b,b < k∧part b = (i : Int)∧name i = (pnum same b : Int) + 1)∨((∀ b,b < k→part b≠(i : Int))∧name i = 0)
theorem zoH {same : Nat→Nat→Bool} {part : Nat→Int} {name : Nat→Int} {n k : Nat} (hk : k < n) (h : znZ same part name k) (hp : ∀ i,i < n→0≤part i) (hs : ∀ i j,i < n→j < n→(part i = part j↔same i j = true)) (h0 : name (part k).toNat = 0) :
  pnum same k = pcnt same k∧pcnt same (k + 1) = pcnt same k + 1∧znZ same part (putA name (part k).toNat ((pcnt same k : Int) + 1)) (k + 1):=by
 have hk0:=hp k hk
 have hno : ∀ c,c < k→same c k = false:=fun c hc=>by
  rw [Bool.eq_false_iff]
  intro q
  have e:=(hs c k (by omega) hk).2 q
  rcases h (part k).toNat with ⟨b,b1,b2,b3⟩ | ⟨b1,b2⟩
  ·omega
  ·exact b1 c hc (by omega)
 obtain ⟨e1,e2⟩:=zjI hno
 refine ⟨e1,by simp [pcnt,e2],fun i=>?_⟩
 unfold putA
 by_cases e : i = (part k).toNat
 ·left
  refine ⟨k,by omega,by omega,by rw [if_pos e,e1]⟩
 ·rw [if_neg e]
  rcases h i with ⟨b,b1,b2,b3⟩ | ⟨b1,b2⟩
  ·exact .inl ⟨b,by omega,b2,b3⟩
  ·refine .inr ⟨fun b hb q=>?_,b2⟩
   by_cases eb : b = k
   ·subst eb; omega
   ·exact b1 b (by omega) q
theorem znU {same : Nat→Nat→Bool} {part : Nat→Int} {name : Nat→Int} {n k : Nat} (he : Eqv same n) (hk : k < n) (h : znZ same part name k) (hp : ∀ i,i < n→0≤part i) (hs : ∀ i j,i < n→j < n→(part i = part j↔same i j = true)) (h0 : name (part k).toNat≠0) :
  name (part k).toNat = (pnum same k : Int) + 1∧pcnt same (k + 1) = pcnt same k∧znZ same part name (k + 1):=by
 have hk0:=hp k hk
 rcases h (part k).toNat with ⟨b,b1,b2,b3⟩ | ⟨b1,b2⟩
 ·obtain ⟨e1,e2⟩:=zjG he hk b1 ((hs b k (by omega) hk).1 (by omega))
  refine ⟨by rw [b3,e1],by simp [pcnt,e2],fun i=>?_⟩
  rcases h i with ⟨c,c1,c2,c3⟩ | ⟨c1,c2⟩
  ·exact .inl ⟨c,by omega,c2,c3⟩
  ·refine .inr ⟨fun c hc q=>?_,c2⟩
   by_cases ec : c = k
   ·subst ec
    have : i = (part c).toNat:=by omega
    subst this
    exact h0 c2
   ·exact c1 c (by omega) q
 ·exact absurd b2 h0
def c41_1 : PC:=.seq (.ops [q 24 (.bin .lss (.tmp 23) (.tmp 22))] false) (.seq (.cond (.tmp 24) (.skip) (.exit 0)) (.seq (.block 1 (.seq (.ops [qm 25 23,qm 5 25] false) (.ops [qm 26 4,q 27 (.nilchk (.tmp 26)),q 28 (.faddr 3 (.tmp 27)),q 29 (.load1 (.tmp 28)),qm 30 5,q 31 (.iaddr 1 (.tmp 29) (.tmp 30)),qn (.store 1 (.tmp 31) (.const (.int .i64 (-1))))] false))) (.ops [q 32 (.bin .add (.tmp 23) (.const (.int .i64 1))),qm 23 32] false)))
def c41_2 : PC:=.seq (.ops [q 35 (.bin .lss (.tmp 34) (.tmp 33))] false) (.seq (.cond (.tmp 35) (.skip) (.exit 2)) (.seq (.block 3 (.seq (.ops [qm 36 34,qm 6 36] false) (.seq (.ops [qm 37 4,q 38 (.nilchk (.tmp 37)),q 39 (.faddr 1 (.tmp 38)),q 40 (.load1 (.tmp 39)),qm 41 6,q 42 (.iaddr 1 (.tmp 40) (.tmp 41)),q 43 (.load1 (.tmp 42)),q 44 (.bin .eql (.tmp 43) (.const (.int .i64 0)))] false) (.cond (.tmp 44) (.ops [qm 45 4,qm 46 6,q 47 (.call 72 [(.tmp 45),(.tmp 46)])] false) (.skip))))) (.ops [q 48 (.bin .add (.tmp 34) (.const (.int .i64 1))),qm 34 48] false)))
def c41_3 : PC:=.seq (.ops [q 58 (.bin .lss (.tmp 57) (.tmp 56))] false) (.seq (.cond (.tmp 58) (.skip) (.exit 4)) (.seq (.block 5 (.seq (.ops [qm 59 57,qm 10 59] false) (.seq (.seq (.ops [qm 60 7,qm 61 4,q 62 (.nilchk (.tmp 61)),q 63 (.faddr 3 (.tmp 62)),q 64 (.load1 (.tmp 63)),qm 65 10,q 66 (.iaddr 1 (.tmp 64) (.tmp 65)),q 67 (.load1 (.tmp 66)),q 68 (.iaddr 1 (.tmp 60) (.tmp 67)),q 69 (.load1 (.tmp 68)),q 70 (.bin .eql (.tmp 69) (.const (.int .i64 0)))] false) (.cond (.tmp 70) (.seq (.ops [qm 71 8,q 72 (.bin .add (.tmp 71) (.const (.int .i64 1))),qm 8 72] false) (.ops [qm 73 7,qm 74 4,q 75 (.nilchk (.tmp 74)),q 76 (.faddr 3 (.tmp 75)),q 77 (.load1 (.tmp 76)),qm 78 10,q 79 (.iaddr 1 (.tmp 77) (.tmp 78)),q 80 (.load1 (.tmp 79)),qm 81 8,q 82 (.iaddr 1 (.tmp 73) (.tmp 80)),qn (.store 1 (.tmp 82) (.tmp 81))] false)) (.skip))) (.ops [qm 83 9,qm 84 10,qm 85 7,qm 86 4,q 87 (.nilchk (.tmp 86)),q 88 (.faddr 3 (.tmp 87)),q 89 (.load1 (.tmp 88)),qm 90 10,q 91 (.iaddr 1 (.tmp 89) (.tmp 90)),q 92 (.load1 (.tmp 91)),q 93 (.iaddr 1 (.tmp 85) (.tmp 92)),q 94 (.load1 (.tmp 93)),q 95 (.bin .sub (.tmp 94) (.const (.int .i64 1))),q 96 (.iaddr 1 (.tmp 83) (.tmp 84)),qn (.store 1 (.tmp 96) (.tmp 95))] false)))) (.ops [q 97 (.bin .add (.tmp 57) (.const (.int .i64 1))),qm 57 97] false)))
def c41 : PC:=.seq (.ops [q 2 (.move (.const (.slice none 0 0)))] false) (.seq (.ops [qm 11 0,q 12 (.len (.tmp 11)),qm 3 12] false) (.seq (.ops [qm 13 0,qm 14 3,qd 15 (.mslice 1 8 [(.int .i64 0)] (.tmp 14) (.tmp 14)) 2,qm 16 3,qd 17 (.mslice 1 8 [(.int .i64 0)] (.tmp 16) (.tmp 16)) 8,qm 18 3,qd 19 (.mslice 1 8 [(.int .i64 0)] (.tmp 18) (.tmp 18)) 32,qd 20 (.build [(.slice none 0 0),(.slice none 0 0),(.slice none 0 0),(.slice none 0 0),(.slice none 0 0),(.int .i64 0),(.int .i64 0)] [(0,1,(.tmp 13)),(1,1,(.tmp 15)),(2,1,(.tmp 17)),(3,1,(.tmp 19))]) 127,qd 21 (.box (.tmp 20)) 255,qw 4 21 511] true) (.seq (.seq (.ops [qm 22 3,q 23 (.move (.const (.int .i64 0)))] false) (.block 0 (.loop c41_1))) (.seq (.seq (.ops [qm 33 3,q 34 (.move (.const (.int .i64 0)))] false) (.block 2 (.loop c41_2))) (.seq (.ops [qm 49 4,q 50 (.nilchk (.tmp 49)),q 51 (.faddr 6 (.tmp 50)),q 52 (.load1 (.tmp 51)),q 53 (.mslice 1 8 [(.int .i64 0)] (.tmp 52) (.tmp 52)),qm 7 53] false) (.seq (.ops [q 8 (.move (.const (.int .i64 0)))] false) (.seq (.ops [qm 54 3,q 55 (.mslice 1 8 [(.int .i64 0)] (.tmp 54) (.tmp 54)),qm 9 55] false) (.seq (.seq (.ops [qm 56 3,q 57 (.move (.const (.int .i64 0)))] false) (.block 4 (.loop c41_3))) (.seq (.ops [qm 98 9,qm 2 98] false) (.ret))))))))))
theorem c41_ok : FunOK Tryz.prog 41 99 [.tmp 2] c41:=⟨⟨Tryz.f41,Tryz.func41,rfl,by kernel_rfl,rfl,by kernel_rfl⟩⟩
theorem zpd (g : List (List Int)) (hn : g.length≤1000000000) (hin0 : ∀ l∈g,inB l g.length = true) (hF : FitsG g) : PCall Tryz.prog 41 [zbe g] (zaD (zdp g)):=by
 have hrow:=fun k=>zbL hin0 k
 have hin : ∀ v x,x∈g.getD v []→x.toNat < g.length:=fun v x hx=>by have:=zaN (hrow v) hx; omega
 refine zag c41_ok (by simp) (by simp [zao,zbm]) ?_ (zam _)
 have hV:=fun k (hk : k < g.length) h0=>tj_visit g hn hin0 hF (zbG g k) (zfa hin k (by omega)).1 (zfa hin k (by omega)).2.1 k hk h0
 have hSp:=fun k hk=>zfa hin k hk
 have e00 : ∀ k,List.replicate k (List.map D.sc [Value.int .i64 0]) = i64s (gl k fun _=>0):=zn4
 unfold zbe
 (apply zac; focus (repeat' constructor))
 ((conv=>whnf);repeat(refine⟨rfl,?_⟩;conv=>whnf))
 rw [List.length_map]
 refine ⟨by omega,by omega,by omega,?_⟩
 rw [Int.toNat_natCast]
 ((conv=>whnf);repeat(refine⟨rfl,?_⟩;conv=>whnf))
 refine ⟨by omega,by omega,by omega,?_⟩
 rw [Int.toNat_natCast]
 ((conv=>whnf);repeat(refine⟨rfl,?_⟩;conv=>whnf))
 refine ⟨by omega,by omega,by omega,?_⟩
 rw [Int.toNat_natCast]
 ((conv=>whnf);repeat(refine⟨rfl,?_⟩;conv=>whnf))
 refine zaT [3,4,22] (fun k : Nat=>[(23,.sc (.int .i64 k))]) (fun k=>[(2,.vec true 0 1 (i64s (gl g.length fun i=>if i < k then -1 else 0)))]) (fun k=>k≤g.length) (fun k=>g.length - k) 0 ?_
 ((conv=>whnf);repeat(refine⟨rfl,?_⟩;conv=>whnf))
 refine ⟨by omega,by (repeat' (first | exact trivial | refine And.intro rfl ?_)),by rw [e00]; simp; rfl,?_⟩
 rintro k hk
 ((conv=>whnf);repeat(refine⟨rfl,?_⟩;conv=>whnf))
 (apply zac; focus (repeat' constructor))
 ((conv=>whnf);repeat(refine⟨rfl,?_⟩;conv=>whnf))
 (refine zab (fun q0=>?_) (fun q0=>?_) <;> (rw [q0]; ((conv=>whnf);repeat(refine⟨rfl,?_⟩;conv=>whnf))))
 ·have q0 : k < g.length:=by ((try simp only[oo,reduceCtorEq]at*)<;>omega)
  (refine ⟨by omega,(by first | omega | (simp; done) | (simp; omega) | (simp only [ll]; omega)),?_⟩; ((conv=>whnf);repeat(refine⟨rfl,?_⟩;conv=>whnf)))
  refine ⟨_,za5 k (by omega) q0,?_⟩
  ((conv=>whnf);repeat(refine⟨rfl,?_⟩;conv=>whnf))
  (refine .inl ⟨by (unfold InR; rw [IntKind.wrap_i64]; omega),?_⟩; ((conv=>whnf);repeat(refine⟨rfl,?_⟩;conv=>whnf)))
  refine ⟨k + 1,by omega,by dsimp only; omega,zan (by (repeat' (first | exact trivial | refine And.intro rfl ?_))) ?_⟩
  rw [zeR (k:=k) (by omega),zfl (g':=fun i=>if i < k + 1 then -1 else 0) fun i _=>by
   show putA (fun i=>if i < k then -1 else 0) k (-1) i = if i < k + 1 then -1 else 0
   unfold putA
   by_cases e : i = k
   ·subst e; simp
   ·by_cases e2 : i < k
    ·rw [if_neg e,if_pos (show i < k + 1 by omega)]; exact if_pos e2
    ·rw [if_neg e,if_neg (show ¬ i < k + 1 by omega)]; exact if_neg e2]
  rfl
 have q0 : k = g.length:=by have : ¬ k < g.length:=by ((try simp only[oo,reduceCtorEq]at*)<;>omega)
                            omega
 subst q0
 rw [zfl (g':=fun _=>-1) fun i hi=>if_pos hi]
 refine zaA (zbp 3 4 1 (by simp) rfl rfl) ?_
 have e0 : List.replicate g.length (List.map D.sc [Value.int .i64 0]) = i64s (gl g.length (gn fun _=>0)):=zn4 _
 rw [e0]
 refine zaz [3,4,33] (fun k : Nat=>[(34,.sc (.int .i64 k))]) (fun k=>zem g (zbG g k)) (fun k=>k≤g.length) (fun k=>g.length - k) 0 ?_
 ((conv=>whnf);repeat(refine⟨rfl,?_⟩;conv=>whnf))
 refine ⟨by omega,by (repeat' (first | exact trivial | refine And.intro rfl ?_)),rfl,?_⟩
 rintro k hk
 obtain ⟨s1,s2,s3⟩:=hSp k hk
 unfold zem zcv zbe at hV ⊢
 ((conv=>whnf);repeat(refine⟨rfl,?_⟩;conv=>whnf))
 (apply zac; focus (repeat' constructor))
 ((conv=>whnf);repeat(refine⟨rfl,?_⟩;conv=>whnf))
 (refine zab (fun q0=>?_) (fun q0=>?_) <;> (rw [q0]; ((conv=>whnf);repeat(refine⟨rfl,?_⟩;conv=>whnf))))
 ·have q0 : k < g.length:=by ((try simp only[oo,reduceCtorEq]at*)<;>omega)
  have hVk:=hV k q0
  (refine ⟨by omega,(by first | omega | (simp; done) | (simp; omega) | (simp only [ll]; omega)),?_⟩; ((conv=>whnf);repeat(refine⟨rfl,?_⟩;conv=>whnf)))
  refine ⟨_,za5 k (by omega) q0,?_⟩
  ((conv=>whnf);repeat(refine⟨rfl,?_⟩;conv=>whnf))
  rw [show gn (zbG g k).S.num k = ((zbG g k).S.num k : Int) from rfl]
  (refine zab (fun h0=>?_) (fun h0=>?_) <;> (rw [h0]; ((conv=>whnf);repeat(refine⟨rfl,?_⟩;conv=>whnf))))
  ·have h0 : (zbG g k).S.num k = 0:=by ((try simp only[oo,reduceCtorEq]at*)<;>omega)
   (refine .inr (.inr (.inl ⟨rfl,_,_,(hVk h0),?_⟩)); ((conv=>whnf);repeat(refine⟨rfl,?_⟩;conv=>whnf)))
   (refine .inl ⟨by (unfold InR; rw [IntKind.wrap_i64]; omega),?_⟩; ((conv=>whnf);repeat(refine⟨rfl,?_⟩;conv=>whnf)))
   refine ⟨k + 1,by omega,by dsimp only; omega,zan (by (repeat' (first | exact trivial | refine And.intro rfl ?_))) ?_⟩
   dsimp only
   rw [show zbG g (k + 1) = zf5 g (zbG g k) k from if_pos h0]
  ·have h0 : ¬ (zbG g k).S.num k = 0:=by ((try simp only[oo,reduceCtorEq]at*)<;>omega)
   (refine .inl ⟨by (unfold InR; rw [IntKind.wrap_i64]; omega),?_⟩; ((conv=>whnf);repeat(refine⟨rfl,?_⟩;conv=>whnf)))
   refine ⟨k + 1,by omega,by dsimp only; omega,zan (by (repeat' (first | exact trivial | refine And.intro rfl ?_))) ?_⟩
   dsimp only
   rw [show zbG g (k + 1) = zbG g k from if_neg h0]
 have q0 : k = g.length:=by have : ¬ k < g.length:=by ((try simp only[oo,reduceCtorEq]at*)<;>omega)
                            omega
 subst q0
 obtain ⟨f1,f2,f3⟩:=znC hin
 clear hV hSp s1 s2 s3 e0
 generalize (zbG g g.length).S.num = num at *
 generalize (zbG g g.length).S.low = low at *
 generalize (zbG g g.length).S.part = part at *
 generalize (zbG g g.length).S.got = got at *
 generalize (zbG g g.length).S.count = count at *
 generalize (zbG g g.length).S.stack.length = h at *
 generalize (zbG g g.length).ver = ver at *
 generalize (zbG g g.length).Z = Z at *
 refine ⟨by omega,by omega,by omega,?_⟩
 rw [Int.toNat_natCast]
 ((conv=>whnf);repeat(refine⟨rfl,?_⟩;conv=>whnf))
 refine ⟨by omega,by omega,by omega,?_⟩
 rw [Int.toNat_natCast]
 ((conv=>whnf);repeat(refine⟨rfl,?_⟩;conv=>whnf))
 have e0 : ∀ k,List.replicate k (List.map D.sc [Value.int .i64 0]) = i64s (gl k fun _=>0):=zn4
 rw [e0,e0]
 have hq:=zlz g g.length
 have hp:=fun i hi=>(f1 i hi).1
 refine zaT [4,7,9,56] (fun ((k,name) : Nat × (Nat→Int))=>[(8,.sc (.int .i64 ((pcnt (mutB g) k : Nat) : Int))),(57,.sc (.int .i64 k))]) (fun (k,name)=>[(5,.vec true 0 1 (i64s (gl got name))),(6,.vec true 0 1 (i64s (gl g.length fun i=>if i < k then partsG g i else 0)))])
  (fun (k,name)=>k≤g.length∧znZ (mutB g) part name k) (fun (k,name)=>g.length - k) (0,fun _=>0) ?_
 ((conv=>whnf);repeat(refine⟨rfl,?_⟩;conv=>whnf))
 refine ⟨⟨by omega,fun i=>.inr ⟨fun b hb=>by omega,rfl⟩⟩,by (repeat' (first | exact trivial | refine And.intro rfl ?_)),by simp; rfl,?_⟩
 rintro ⟨k,name⟩ ⟨hk,hN⟩
 have hpc:=zlw (mutB g) k
 ((conv=>whnf);repeat(refine⟨rfl,?_⟩;conv=>whnf))
 (apply zac; focus (repeat' constructor))
 ((conv=>whnf);repeat(refine⟨rfl,?_⟩;conv=>whnf))
 (refine zab (fun q0=>?_) (fun q0=>?_) <;> (rw [q0]; ((conv=>whnf);repeat(refine⟨rfl,?_⟩;conv=>whnf))))
 ·have q0 : k < g.length:=by ((try simp only[oo,reduceCtorEq]at*)<;>omega)
  have hpk:=f1 k q0
  have hnew:=zoH q0 hN hp f2
  have hold:=znU hq q0 hN hp f2
  obtain ⟨pk,hpk'⟩ : ∃ pk : Nat,part k = pk:=⟨(part k).toNat,by omega⟩
  rw [hpk'] at hpk hnew hold
  rw [Int.toNat_natCast] at hnew hold
  (refine ⟨by omega,(by first | omega | (simp; done) | (simp; omega) | (simp only [ll]; omega)),?_⟩; ((conv=>whnf);repeat(refine⟨rfl,?_⟩;conv=>whnf)))
  refine ⟨_,za5 k (by omega) q0,?_⟩
  rw [hpk']
  ((conv=>whnf);repeat(refine⟨rfl,?_⟩;conv=>whnf))
  (refine ⟨by omega,(by first | omega | (simp; done) | (simp; omega) | (simp only [ll]; omega)),?_⟩; ((conv=>whnf);repeat(refine⟨rfl,?_⟩;conv=>whnf)))
  refine ⟨_,za5 pk (by omega) (by omega),?_⟩
  ((conv=>whnf);repeat(refine⟨rfl,?_⟩;conv=>whnf))
  have hout : ∀ v,v = partsG g k→i64s (gl g.length (putA (fun i=>if i < k then partsG g i else 0) k v)) = i64s (gl g.length fun i=>if i < k + 1 then partsG g i else 0):=fun v hv=>by
   rw [zfl fun i _=>?_]
   show putA (fun i=>if i < k then partsG g i else 0) k v i = if i < k + 1 then partsG g i else 0
   unfold putA
   by_cases e : i = k
   ·subst e; rw [if_pos rfl,if_pos (by omega),hv]
   ·by_cases e2 : i < k
    ·rw [if_neg e,if_pos (show i < k + 1 by omega)]; exact if_pos e2
    ·rw [if_neg e,if_neg (show ¬ i < k + 1 by omega)]; exact if_neg e2
  (refine zab (fun h0=>?_) (fun h0=>?_) <;> (rw [h0]; ((conv=>whnf);repeat(refine⟨rfl,?_⟩;conv=>whnf))))
  ·have h0 : name pk = 0:=by ((try simp only[oo,reduceCtorEq]at*)<;>omega)
   obtain ⟨n1,n2,n3⟩:=hnew h0
   (refine .inl ⟨by (unfold InR; rw [IntKind.wrap_i64]; omega),?_⟩; ((conv=>whnf);repeat(refine⟨rfl,?_⟩;conv=>whnf)))
   (refine ⟨by omega,(by first | omega | (simp; done) | (simp; omega) | (simp only [ll]; omega)),?_⟩; ((conv=>whnf);repeat(refine⟨rfl,?_⟩;conv=>whnf)))
   refine ⟨_,za5 k (by omega) q0,?_⟩
   rw [hpk']
   ((conv=>whnf);repeat(refine⟨rfl,?_⟩;conv=>whnf))
   (refine ⟨by omega,(by first | omega | (simp; done) | (simp; omega) | (simp only [ll]; omega)),?_⟩; ((conv=>whnf);repeat(refine⟨rfl,?_⟩;conv=>whnf)))
   refine ⟨_,za5 pk (by omega) (by omega),?_⟩
   ((conv=>whnf);repeat(refine⟨rfl,?_⟩;conv=>whnf))
   rw [zeR (k:=pk) (by omega)]
   (refine ⟨by omega,(by first | omega | (simp; done) | (simp; omega) | (simp only [ll]; omega)),?_⟩; ((conv=>whnf);repeat(refine⟨rfl,?_⟩;conv=>whnf)))
   refine ⟨_,za5 k (by omega) q0,?_⟩
   rw [hpk']
   ((conv=>whnf);repeat(refine⟨rfl,?_⟩;conv=>whnf))
   (refine ⟨by omega,(by first | omega | (simp; done) | (simp; omega) | (simp only [ll]; omega)),?_⟩; ((conv=>whnf);repeat(refine⟨rfl,?_⟩;conv=>whnf)))
   refine ⟨_,za5 pk (by omega) (by omega),?_⟩
   ((conv=>whnf);repeat(refine⟨rfl,?_⟩;conv=>whnf))
   rw [zf8]
   (refine .inl ⟨by (unfold InR; rw [IntKind.wrap_i64]; omega),?_⟩; ((conv=>whnf);repeat(refine⟨rfl,?_⟩;conv=>whnf)))
   (refine ⟨by omega,(by first | omega | (simp; done) | (simp; omega) | (simp only [ll]; omega)),?_⟩; ((conv=>whnf);repeat(refine⟨rfl,?_⟩;conv=>whnf)))
   refine ⟨_,za5 k (by omega) q0,?_⟩
   ((conv=>whnf);repeat(refine⟨rfl,?_⟩;conv=>whnf))
   (refine .inl ⟨by (unfold InR; rw [IntKind.wrap_i64]; omega),?_⟩; ((conv=>whnf);repeat(refine⟨rfl,?_⟩;conv=>whnf)))
   have e8 : D.sc (.int .i64 (((pcnt (mutB g) k : Nat) : Int) + 1)) = D.sc (.int .i64 ((pcnt (mutB g) (k + 1) : Nat) : Int)):=by rw [n2]; rfl
   refine ⟨(k + 1,putA name pk ((pcnt (mutB g) k : Int) + 1)),⟨by omega,n3⟩,by dsimp only; omega,zan ⟨e8,by (repeat' (first | exact trivial | refine And.intro rfl ?_))⟩ ?_⟩
   dsimp only
   rw [zeR (k:=k) (by omega),hout _ (by unfold partsG gn; rw [n1]; omega)]
   rfl
  ·have h0 : ¬ name pk = 0:=by ((try simp only[oo,reduceCtorEq]at*)<;>omega)
   obtain ⟨n1,n2,n3⟩:=hold h0
   (refine ⟨by omega,(by first | omega | (simp; done) | (simp; omega) | (simp only [ll]; omega)),?_⟩; ((conv=>whnf);repeat(refine⟨rfl,?_⟩;conv=>whnf)))
   refine ⟨_,za5 k (by omega) q0,?_⟩
   rw [hpk']
   ((conv=>whnf);repeat(refine⟨rfl,?_⟩;conv=>whnf))
   (refine ⟨by omega,(by first | omega | (simp; done) | (simp; omega) | (simp only [ll]; omega)),?_⟩; ((conv=>whnf);repeat(refine⟨rfl,?_⟩;conv=>whnf)))
   refine ⟨_,za5 pk (by omega) (by omega),?_⟩
   ((conv=>whnf);repeat(refine⟨rfl,?_⟩;conv=>whnf))
   have hpl:=zoS hq q0
   rw [n1]
   (refine .inl ⟨by (unfold InR; rw [IntKind.wrap_i64]; omega),?_⟩; ((conv=>whnf);repeat(refine⟨rfl,?_⟩;conv=>whnf)))
   (refine ⟨by omega,(by first | omega | (simp; done) | (simp; omega) | (simp only [ll]; omega)),?_⟩; ((conv=>whnf);repeat(refine⟨rfl,?_⟩;conv=>whnf)))
   refine ⟨_,za5 k (by omega) q0,?_⟩
   ((conv=>whnf);repeat(refine⟨rfl,?_⟩;conv=>whnf))
   (refine .inl ⟨by (unfold InR; rw [IntKind.wrap_i64]; omega),?_⟩; ((conv=>whnf);repeat(refine⟨rfl,?_⟩;conv=>whnf)))
   have e8 : D.sc (.int .i64 ((pcnt (mutB g) k : Nat) : Int)) = D.sc (.int .i64 ((pcnt (mutB g) (k + 1) : Nat) : Int)):=by rw [n2]
   refine ⟨(k + 1,name),⟨by omega,n3⟩,by dsimp only; omega,zan ⟨e8,by (repeat' (first | exact trivial | refine And.intro rfl ?_))⟩ ?_⟩
   dsimp only
   rw [zeR (k:=k) (by omega),hout _ (by unfold partsG gn; omega)]
   rfl
 ·have q0 : k = g.length:=by have : ¬ k < g.length:=by ((try simp only[oo,reduceCtorEq]at*)<;>omega)
                             omega
  subst q0
  rw [zfl (g':=partsG g) fun i hi=>if_pos hi]
  exact deep_gl rfl
end
section
section
def Wlk (g : List (List Int)) (to : Nat→Bool) : Nat→Nat→Prop
 | 0,v=>to v = true
 | d + 1,v=>∃ x,x∈g.getD v []∧Wlk g to d x.toNat
def Far (g : List (List Int)) (to : Nat→Bool) (v d : Nat) : Prop:=Wlk g to d v∧∀ e,e < d→¬ Wlk g to e v
theorem zjE {g : List (List Int)} {to : Nat→Bool} {v d e : Nat} (h : Far g to v d) (k : Far g to v e) : d = e:=by
 rcases Nat.lt_trichotomy d e with q | q | q
 ·exact absurd h.1 (k.2 d q)
 ·exact q
 ·exact absurd k.1 (h.2 e q)
theorem far_of {g : List (List Int)} {to : Nat→Bool} {v : Nat} : ∀ {d : Nat},Wlk g to d v→∃ e,e≤d∧Far g to v e
 | d,h=>by
  induction d using Nat.strongRecOn with
  | ind d ih =>
   by_cases q : ∃ e,e < d∧Wlk g to e v
   ·obtain ⟨e,h1,h2⟩:=q
    obtain ⟨f,h3,h4⟩:=ih e h1 h2
    exact ⟨f,by omega,h4⟩
   ·exact ⟨d,Nat.le_refl _,h,fun e he w=>q ⟨e,he,w⟩⟩
theorem far_zero {g : List (List Int)} {to : Nat→Bool} {v : Nat} : Far g to v 0↔to v = true:=⟨fun h=>h.1,fun h=>⟨h,fun e he=>by omega⟩⟩
theorem zjQ {g : List (List Int)} {to : Nat→Bool} {v d : Nat} (h : Far g to v (d + 1)) : ∃ x,x∈g.getD v []∧Far g to x.toNat d:=by
 obtain ⟨x,h1,h2⟩:=h.1
 obtain ⟨e,h3,h4⟩:=far_of h2
 by_cases q : e = d
 ·subst q; exact ⟨x,h1,h4⟩
 ·exact absurd ⟨x,h1,h4.1⟩ (h.2 (e + 1) (by omega))
theorem far_next {g : List (List Int)} {to : Nat→Bool} {v d : Nat} {x : Int} (hx : x∈g.getD v []) (h : Far g to x.toNat d) : ∃ e,e≤d + 1∧Far g to v e:=far_of (d:=d + 1) ⟨x,hx,h.1⟩
theorem far_iff {g : List (List Int)} {to : Nat→Bool} {v d : Nat} : Far g to v (d + 1)↔(∃ x,x∈g.getD v []∧Far g to x.toNat d)∧∀ e,e≤d→¬ Far g to v e:=by
 constructor
 ·intro h
  exact ⟨zjQ h,fun e he k=>by have:=zjE h k; omega⟩
 ·rintro ⟨⟨x,h1,h2⟩,h3⟩
  obtain ⟨e,h4,h5⟩:=far_next h1 h2
  by_cases q : e = d + 1
  ·subst q; exact h5
  ·exact absurd h5 (h3 e (by omega))
end
section
structure Bfs (g : List (List Int)) (to : Nat→Bool) (o : Nat→Int) (Q : List Nat) : Prop where
 sound : ∀ n,0≤o n→Far g to n (o n).toNat
 node : ∀ n∈Q,0≤o n
 sort : ∀ i j,i < j→j < Q.length→o (Q.getD i 0)≤o (Q.getD j 0)∧o (Q.getD j 0)≤o (Q.getD i 0) + 1
 done : ∀ n,0≤o n→n∈Q∨∀ k x,x∈g.getD k []→x.toNat = n→0≤o k
 all : ∀ n d,Far g to n d→(∀ q∈Q,(d : Int)≤o q)→0≤o n
structure BfsJ (g : List (List Int)) (to : Nat→Bool) (o : Nat→Int) (Q : List Nat) (n : Nat) (B : List Nat) : Prop where
 sound : ∀ n,0≤o n→Far g to n (o n).toNat
 node : ∀ n∈Q,0≤o n
 here : 0≤o n
 low : ∀ q∈Q,o n≤o q∧o q≤o n + 1
 sort : ∀ i j,i < j→j < Q.length→o (Q.getD i 0)≤o (Q.getD j 0)
 done : ∀ m,0≤o m→m∈Q∨(m = n∧∀ k∈B,0≤o k)∨(m≠n∧∀ k x,x∈g.getD k []→x.toNat = m→0≤o k)
 all : ∀ m d,Far g to m d→(d : Int)≤o n→0≤o m
theorem BfsJ.skip {g : List (List Int)} {to : Nat→Bool} {o : Nat→Int} {Q : List Nat} {n : Nat} {B : List Nat} {k : Nat} (h : BfsJ g to o Q n B) (hk : 0≤o k) : BfsJ g to o Q n (B ++ [k]) where
 sound:=h.sound
 node:=h.node
 here:=h.here
 low:=h.low
 sort:=h.sort
 done m hm:=by
  rcases h.done m hm with q | ⟨rfl,q⟩ | q
  ·exact .inl q
  ·refine .inr (.inl ⟨rfl,fun j hj=>?_⟩)
   rcases List.mem_append.1 hj with w | w
   ·exact q j w
   ·rw [List.mem_singleton] at w; subst w; exact hk
  ·exact .inr (.inr q)
 all:=h.all
theorem zii {l r : List Nat} {a : Nat} (h : a < l.length) : (l ++ r).getD a 0 = l.getD a 0:=by
 rw [List.getD_eq_getElem?_getD,List.getD_eq_getElem?_getD,List.getElem?_append_left h]
theorem zmY {l : List Nat} {x : Nat} : (l ++ [x]).getD l.length 0 = x:=by
 rw [List.getD_eq_getElem?_getD,List.getElem?_append_right (Nat.le_refl _),Nat.sub_self]
 rfl
theorem zdl {l : List Nat} {k : Nat} (h : k < l.length) : l.getD k 0∈l:=by
 rw [List.getD_eq_getElem?_getD,List.getElem?_eq_getElem h]; exact List.getElem_mem h
def setO (o : Nat→Int) (k : Nat) (v : Int) : Nat→Int:=fun i=>if i = k then v else o i
theorem ze4 {o : Nat→Int} {k i : Nat} {v : Int} (h : i≠k) : setO o k v i = o i:=by simp [setO,h]
@[simp] theorem zcU (o : Nat→Int) (k : Nat) (v : Int) : setO o k v k = v:=by simp [setO]
theorem BfsJ.push {g : List (List Int)} {to : Nat→Bool} {o : Nat→Int} {Q : List Nat} {n : Nat} {B : List Nat} {k : Nat} {x : Int} (h : BfsJ g to o Q n B) (hk : o k < 0) (hx : x∈g.getD k []) (hn : x.toNat = n) :
  BfsJ g to (setO o k (o n + 1)) (Q ++ [k]) n (B ++ [k]):=by
 have hkn : k≠n:=fun e=>by subst e; have:=h.here; omega
 have old : ∀ m,0≤o m→setO o k (o n + 1) m = o m:=fun m hm=>ze4 fun e=>by subst e; omega
 have en : setO o k (o n + 1) n = o n:=old n h.here
 have ge : ∀ m,0≤setO o k (o n + 1) m→m = k∨0≤o m:=fun m hm=>by
  by_cases e : m = k
  ·exact .inl e
  ·rw [ze4 e] at hm; exact .inr hm
 have up : ∀ m,0≤o m→0≤setO o k (o n + 1) m:=fun m hm=>by rw [old m hm]; exact hm
 have hfar : Far g to k ((o n).toNat + 1):=by
  refine far_iff.2 ⟨⟨x,hx,by rw [hn]; exact h.sound n h.here⟩,fun e he w=>?_⟩
  have:=h.all k e w (by have:=h.here; omega)
  omega
 have h0:=h.here
 constructor
 ·intro m hm
  rcases ge m hm with rfl | q
  ·rw [zcU,show (o n + 1).toNat = (o n).toNat + 1 by omega]; exact hfar
  ·rw [old m q]; exact h.sound m q
 ·intro m hm
  rcases List.mem_append.1 hm with w | w
  ·exact up m (h.node m w)
  ·rw [List.mem_singleton] at w; subst w; rw [zcU]; omega
 ·rw [en]; exact h0
 ·intro q hq
  rw [en]
  rcases List.mem_append.1 hq with w | w
  ·rw [old q (h.node q w)]; exact h.low q w
  ·rw [List.mem_singleton] at w; subst w; rw [zcU]; omega
 ·intro i j hij hj
  rw [List.length_append,List.length_singleton] at hj
  by_cases e : j = Q.length
  ·subst e
   rw [zii hij,zmY,zcU,old _ (h.node _ (zdl hij))]
   exact (h.low _ (zdl hij)).2
  ·rw [zii (by omega),zii (by omega),old _ (h.node _ (zdl (by omega))),old _ (h.node _ (zdl (by omega)))]
   exact h.sort i j hij (by omega)
 ·intro m hm
  rcases ge m hm with rfl | q
  ·exact .inl (by simp)
  ·rcases h.done m q with w | ⟨rfl,w⟩ | ⟨w,w2⟩
   ·exact .inl (List.mem_append_left _ w)
   ·refine .inr (.inl ⟨rfl,fun j hj=>?_⟩)
    rcases List.mem_append.1 hj with z | z
    ·exact up j (w j z)
    ·rw [List.mem_singleton] at z; subst z; rw [zcU]; omega
   ·exact .inr (.inr ⟨w,fun j y h1 h2=>up j (w2 j y h1 h2)⟩)
 ·intro m d h1 h2
  rw [en] at h2
  exact up m (h.all m d h1 h2)
theorem Bfs.pop {g : List (List Int)} {to : Nat→Bool} {o : Nat→Int} {Q : List Nat} {n : Nat} (h : Bfs g to o (n :: Q)) : BfsJ g to o Q n [] where
 sound:=h.sound
 node m hm:=h.node m (List.mem_cons_of_mem _ hm)
 here:=h.node n List.mem_cons_self
 low q hq:=by
  obtain ⟨k,hk,rfl⟩:=List.mem_iff_getElem.1 hq
  have:=h.sort 0 (k + 1) (by omega) (by simp; omega)
  simpa [List.getD_eq_getElem?_getD,List.getElem?_eq_getElem hk] using this
 sort i j hij hj:=by
  have:=(h.sort (i + 1) (j + 1) (by omega) (by simp; omega)).1
  simpa using this
 done m hm:=by
  rcases h.done m hm with q | q
  ·rcases List.mem_cons.1 q with q | q
   ·exact .inr (.inl ⟨q,fun k hk=>by cases hk⟩)
   ·exact .inl q
  ·by_cases e : m = n
   ·exact .inr (.inl ⟨e,fun k hk=>by cases hk⟩)
   ·exact .inr (.inr ⟨e,q⟩)
 all m d h1 h2:=h.all m d h1 fun q hq=>by
  rcases List.mem_cons.1 hq with w | w
  ·subst w; exact h2
  ·obtain ⟨k,hk,rfl⟩:=List.mem_iff_getElem.1 w
   have:=(h.sort 0 (k + 1) (by omega) (by simp; omega)).1
   have e : (n :: Q).getD (k + 1) 0 = Q[k]:=by simp [List.getD_eq_getElem?_getD,List.getElem?_eq_getElem hk]
   rw [e] at this
   have e0 : (n :: Q).getD 0 0 = n:=rfl
   rw [e0] at this
   omega
theorem BfsJ.fin {g : List (List Int)} {to : Nat→Bool} {o : Nat→Int} {Q : List Nat} {n : Nat} {B : List Nat} (h : BfsJ g to o Q n B) (hB : ∀ k x,x∈g.getD k []→x.toNat = n→k∈B) : Bfs g to o Q where
 sound:=h.sound
 node:=h.node
 sort i j hij hj:=by
  have h1:=h.sort i j hij hj
  have h2:=h.low _ (zdl (l:=Q) (k:=i) (by omega))
  have h3:=h.low _ (zdl hj)
  omega
 done m hm:=by
  rcases h.done m hm with q | ⟨rfl,q⟩ | ⟨_,q⟩
  ·exact .inl q
  ·exact .inr fun k x h1 h2=>q k (hB k x h1 h2)
  ·exact .inr q
 all m d h1 h2:=by
  have step : ∀ d m,Far g to m d→(∀ q∈Q,(d : Int)≤o q)→0≤o m:=by
   intro d
   induction d using Nat.strongRecOn with
   | ind d ih =>
    intro m h1 h2
    by_cases e : (d : Int)≤o n
    ·exact h.all m d h1 e
    ·cases d with
     | zero=>exfalso; have:=h.here; omega
     | succ d =>
      obtain ⟨x,hx,hf⟩:=zjQ h1
      have hx0 : 0≤o x.toNat:=ih d (by omega) x.toNat hf fun q hq=>by have:=h2 q hq; omega
      have ex:=zjE hf (h.sound _ hx0)
      rcases h.done x.toNat hx0 with q | ⟨q1,q2⟩ | ⟨_,q⟩
      ·have:=h2 _ q
       omega
      ·exact q2 m (hB m x hx q1)
      ·exact q m x hx rfl
  exact step d m h1 h2
theorem Bfs.fin {g : List (List Int)} {to : Nat→Bool} {o : Nat→Int} (h : Bfs g to o []) {n d : Nat} : Far g to n d↔o n = d:=by
 constructor
 ·intro k
  have h1:=h.all n d k fun q hq=>by cases hq
  have:=zjE k (h.sound n h1)
  omega
 ·intro k
  have:=h.sound n (by omega)
  rw [k,Int.toNat_natCast] at this
  exact this
theorem Bfs.begin {g : List (List Int)} {to : Nat→Bool} {o : Nat→Int} {Q : List Nat} (ho : ∀ n,o n = if to n = true∧n∈Q then 0 else -1) (hQ : ∀ n,to n = true↔n∈Q) : Bfs g to o Q where
 sound n hn:=by
  rw [ho] at hn
  split at hn
  ·rename_i q
   rw [ho,if_pos q]
   exact far_zero.2 q.1
  ·omega
 node n hn:=by rw [ho,if_pos ⟨(hQ n).2 hn,hn⟩]; exact Int.le_refl _
 sort i j hij hj:=by
  have h1:=zdl (l:=Q) (k:=i) (by omega)
  have h2:=zdl (l:=Q) (k:=j) hj
  rw [ho (Q.getD i 0),ho (Q.getD j 0),if_pos ⟨(hQ _).2 h1,h1⟩,if_pos ⟨(hQ _).2 h2,h2⟩]
  omega
 done n hn:=by
  rw [ho] at hn
  split at hn
  ·rename_i q; exact .inl q.2
  ·omega
 all n d h1 h2:=by
  by_cases e : Q = []
  ·subst e
   have none : ∀ d m,¬ Wlk g to d m:=by
    intro d
    induction d with
    | zero=>intro m h; exact absurd ((hQ m).1 h) (by simp)
    | succ d ih=>rintro m ⟨x,_,h⟩; exact ih _ h
   exact absurd h1.1 (none d n)
  ·obtain ⟨q,hq⟩:=List.exists_mem_of_ne_nil Q e
   have:=h2 q hq
   rw [ho,if_pos ⟨(hQ q).2 hq,hq⟩] at this
   have : d = 0:=by omega
   subst this
   have ht:=far_zero.1 h1
   rw [ho,if_pos ⟨ht,(hQ n).1 ht⟩]
   exact Int.le_refl _
end
section
structure RndJ (g : List (List Int)) (to : Nat→Bool) (o : Nat→Int) (r k : Nat) : Prop where
 old : ∀ n d : Nat,d≤r→(o n = (d : Int) + 1↔Far g to n d)
 new : ∀ n,n < k→(o n = (r : Int) + 2↔Far g to n (r + 1))
 rest : ∀ n,k≤n→o n≠(r : Int) + 2
 rng : ∀ n,o n≠0→∃ d : Nat,d≤r + 1∧o n = (d : Int) + 1
theorem RndJ.keep {g : List (List Int)} {to : Nat→Bool} {o : Nat→Int} {r k : Nat} (h : RndJ g to o r k) (hk : o k≠0∨∀ x,x∈g.getD k []→o x.toNat≠(r : Int) + 1) : RndJ g to o r (k + 1) where
 old:=h.old
 new n hn:=by
  by_cases e : n = k
  ·subst e
   refine ⟨fun q=>absurd q (h.rest n (Nat.le_refl _)),fun q=>?_⟩
   rcases hk with hk | hk
   ·obtain ⟨d,h1,h2⟩:=h.rng n hk
    have h3:=h.rest n (Nat.le_refl _)
    have h4:=(h.old n d (by omega)).1 h2
    have:=zjE h4 q
    omega
   ·obtain ⟨x,h1,h2⟩:=zjQ q
    exact absurd ((h.old x.toNat r (Nat.le_refl _)).2 h2) (hk x h1)
  ·exact h.new n (by omega)
 rest n hn:=h.rest n (by omega)
 rng:=h.rng
theorem RndJ.hit {g : List (List Int)} {to : Nat→Bool} {o : Nat→Int} {r k : Nat} {x : Int} (h : RndJ g to o r k) (hk : o k = 0) (hx : x∈g.getD k []) (ho : o x.toNat = (r : Int) + 1) : RndJ g to (setO o k ((r : Int) + 2)) r (k + 1) where
 old n d hd:=by
  by_cases e : n = k
  ·subst e
   rw [zcU]
   refine ⟨fun q=>by omega,fun q=>?_⟩
   have:=(h.old n d hd).2 q
   omega
  ·rw [ze4 e]; exact h.old n d hd
 new n hn:=by
  by_cases e : n = k
  ·subst e
   rw [zcU]
   refine ⟨fun _=>far_iff.2 ⟨⟨x,hx,(h.old x.toNat r (Nat.le_refl _)).1 ho⟩,fun e he w=>?_⟩,fun _=>rfl⟩
   have:=(h.old n e he).2 w
   omega
  ·rw [ze4 e]; exact h.new n (by omega)
 rest n hn:=by
  rw [ze4 (by omega)]
  exact h.rest n (by omega)
 rng n hn:=by
  by_cases e : n = k
  ·subst e
   rw [zcU]
   exact ⟨r + 1,Nat.le_refl _,by omega⟩
  ·rw [ze4 e] at hn ⊢; exact h.rng n hn
theorem RndJ.begin {g : List (List Int)} {to : Nat→Bool} {o : Nat→Int} (h : ∀ n,o n = if to n = true then 1 else 0) : RndJ g to o 0 0 where
 old n d hd:=by
  rw [show d = 0 by omega,far_zero,h]
  split <;> simp_all
 new n hn:=by omega
 rest n _:=by rw [h]; split <;> simp
 rng n hn:=by
  rw [h] at hn ⊢
  split
  ·exact ⟨0,by omega,by simp⟩
  ·rename_i q; rw [if_neg q] at hn; exact absurd rfl hn
theorem RndJ.next {g : List (List Int)} {to : Nat→Bool} {o : Nat→Int} {r n : Nat} (h : RndJ g to o r n) (hno : ∀ m,n≤m→∀ d,¬ Far g to m d) : RndJ g to o (r + 1) 0 where
 old m d hd:=by
  by_cases e : d = r + 1
  ·subst e
   by_cases q : m < n
   ·have:=h.new m q
    rw [show ((r + 1 : Nat) : Int) + 1 = (r : Int) + 2 by omega]
    exact this
   ·refine ⟨fun w=>?_,fun w=>absurd w (hno m (by omega) _)⟩
    exact absurd (by omega) (h.rest m (by omega))
  ·exact h.old m d (by omega)
 new m hm:=by omega
 rest m _:=by
  intro w
  obtain ⟨d,h1,h2⟩:=h.rng m (by omega)
  omega
 rng m hm:=by
  obtain ⟨d,h1,h2⟩:=h.rng m hm
  exact ⟨d,by omega,h2⟩
end
section
end
section
end
end
section
theorem Rch.one (g : List (List Int)) (v : Nat) : Rch g [(v : Int)] v:=by
 have:=Rch.base (g:=g) (from_:=[(v : Int)]) (x:=(v : Int)) (by simp)
 rwa [Int.toNat_natCast] at this
theorem Rch.trans {g : List (List Int)} {a : List Int} {u v : Nat} (h : Rch g a u) (k : Rch g [(u : Int)] v) : Rch g a v:=by
 induction k with
 | base hx =>
  rw [List.mem_singleton] at hx
  subst hx
  simpa using h
 | step _ hx ih=>exact .step ih hx
end
section
open Go.RowKit
def setB (l : List Int) : Nat→Bool:=fun v=>l.contains (v : Int)
noncomputable def zmQ (g : List (List Int)) (n : Nat) : Bool:=(g.getD n []).any fun x=>partsG g x.toNat == partsG g n
noncomputable def okT (g : List (List Int)) (k i : Nat) : Bool:=(List.range k).any fun n=>partsG g n == (i : Int) && zmQ g n
theorem zdq {g : List (List Int)} {a b : Nat} (ha : a < g.length) (hb : b < g.length) : partsG g a = partsG g b↔mutB g a b = true:=by
 rw [← pnum_eq (zlz g g.length) ha hb]
 unfold partsG gn
 omega
theorem zgx {g : List (List Int)} {a : Nat} (ha : a < g.length) : 0≤partsG g a∧partsG g a < (g.length : Int):=by
 have:=zoS (zlz g g.length) ha
 unfold partsG gn
 omega
theorem zjo {g : List (List Int)} (hin : ∀ v x,x∈g.getD v []→x.toNat < g.length) {n : Nat} (hn : n < g.length) : zmQ g n = true↔Nontriv g n:=by
 unfold zmQ
 rw [List.any_eq_true]
 constructor
 ·rintro ⟨x,hx,e⟩
  rw [beq_iff_eq,zdq (hin n x hx) hn,mutB_iff] at e
  exact ⟨x,hx,e.1⟩
 ·rintro ⟨x,hx,e⟩
  exact ⟨x,hx,by rw [beq_iff_eq,zdq (hin n x hx) hn,mutB_iff]; exact ⟨e,zcL hx⟩⟩
theorem okT_succ (g : List (List Int)) (k i : Nat) : okT g (k + 1) i = (okT g k i || (partsG g k == (i : Int) && zmQ g k)):=by
 unfold okT; rw [List.range_succ,List.any_append]; simp
theorem all_take {α : Type} {p : α→Bool} {l : List α} {k : Nat} (h : k < l.length) (d : α) : (l.take (k + 1)).all p = ((l.take k).all p && p (l.getD k d)):=by
 rw [List.take_add_one,List.getElem?_eq_getElem h,List.all_append,List.getD_eq_getElem?_getD,List.getElem?_eq_getElem h]
 simp
theorem zfP {n z i : Nat} {f f' : Nat→Bool} {b : Bool} (hz : z = i) (h : ∀ v,v < n→f' v = if v = i then b else f v) : (rbl n f).set z [.sc (.bool b)] = rbl n f':=by
 subst hz
 rw [zcw]
 exact zbK fun v hv=>(h v hv).symm
end
section
open Go.RowKit
def zlc (a p i : Nat) : Nat:=if i + 1 = a + p then a else i + 1
def nexts (A : AutoD) (f : Nat→Int) (a p s i : Nat) : List Int:=if zhj A s (f i) = true then (A.next.getD s []).filter fun t=>zhj A t.toNat (f (zlc a p i)) else []
def prodP (A : AutoD) (f : Nat→Int) (a p : Nat) : List (List Int):=(List.range (A.next.length * (a + p))).map fun v=>(nexts A f a p (v % A.next.length) (v / A.next.length)).map fun t=>((zlc a p (v / A.next.length) * A.next.length : Nat) : Int) + t
def prodR (A : AutoD) (f : Nat→Int) (a p : Nat) : List (List Int):=(List.range (A.next.length * (a + p))).map fun v=>(nexts A f a p (v / (a + p)) (v % (a + p))).map fun t=>t * ((a + p : Nat) : Int) + (zlc a p (v % (a + p)) : Int)
end
section
open Go.RowKit
structure WorldD where
 start : List Int
 next : List (List Int)
 label : List Int
 fair : List (List Int)
def WorldD.cells (W : WorldD) : List D:=[zaD W.start,zbe W.next,dlet W.label,zbe W.fair]
def zcR (W : WorldD) : D:=.agg W.cells
theorem zdh (W : WorldD) : zao W.cells:=by simp [WorldD.cells,zao,zam,zbm,zcQ]
theorem zb5 (W : WorldD) : Pure (zcR W):=by simp [zcR,Pure,zdh]
structure WorldD.Fits (W : WorldD) : Prop where
 start : W.start.length≤17592186043904
 next : W.next.length≤17592186043904
 label : W.label.length≤17592186043904
 fair : W.fair.length≤17592186043904
 nextEach : ∀ l∈W.next,l.length≤17592186043904
 fairEach : ∀ l∈W.fair,l.length≤17592186043904
def WorldD.chk (W : WorldD) : Int :=
 if 600 < W.next.length∨80 < W.fair.length then 2
 else if W.label.length≠W.next.length∨inB W.start W.next.length = false then 1
 else if (W.next.any fun l=>l.isEmpty || !(inB l W.next.length)) = true then 1
 else if (W.fair.any fun l=>!(inB l W.next.length)) = true then 1
 else 0
def c58 : PC:=.seq (.ops [q 3 (.move (.const (.bool false)))] false) (.seq (.ops [qm 4 0,q 5 (.bin .lss (.tmp 4) (.const (.int .i64 0))),qm 6 5,⟨some 7,.move (.tmp 0),some (6,false),0⟩,⟨some 8,.load1 (.tmp 1),some (6,false),0⟩,⟨some 9,.bin .geq (.tmp 7) (.tmp 8),some (6,false),0⟩,q 10 (.pick (.tmp 6) (.const (.bool true)) (.tmp 9)),qm 3 10] false) (.ret))
theorem c58_ok : FunOK Tryz.prog 58 11 [.tmp 3] c58:=⟨⟨Tryz.f58,Tryz.func58,rfl,by kernel_rfl,rfl,by kernel_rfl⟩⟩
def c26 : PC:=.seq (.ops [q 3 (.box (.tmp 1)),q 4 (.move (.const (.bool false)))] false) (.seq (.ops [qm 5 0,q 6 (.mkfn (.func 58) [] [(.tmp 3)]),q 7 (.call 57 [(.tmp 5),(.tmp 6)]),qm 4 7] false) (.ret))
theorem c26_ok : FunOK Tryz.prog 26 8 [.tmp 4] c26:=⟨⟨Tryz.f26,Tryz.func26,rfl,by kernel_rfl,rfl,by kernel_rfl⟩⟩
def c28 : PC:=.seq (.ops [q 3 (.move (.const (.bool false)))] false) (.seq (.ops [qm 4 0,q 5 (.load1 (.tmp 1)),q 6 (.call 26 [(.tmp 4),(.tmp 5)]),qm 3 6] false) (.ret))
theorem c28_ok : FunOK Tryz.prog 28 7 [.tmp 3] c28:=⟨⟨Tryz.f28,Tryz.func28,rfl,by kernel_rfl,rfl,by kernel_rfl⟩⟩
def c9_1 : PC:=.seq (.ops [q 32 (.bin .lss (.tmp 31) (.tmp 30))] false) (.seq (.cond (.tmp 32) (.skip) (.exit 0)) (.seq (.block 1 (.seq (.ops [q 33 (.iaddr 1 (.tmp 29) (.tmp 31)),q 34 (.load1 (.tmp 33)),qm 5 34] false) (.seq (.ops [qm 35 5,q 36 (.len (.tmp 35)),q 37 (.bin .eql (.tmp 36) (.const (.int .i64 0))),qm 38 37,⟨some 39,.move (.tmp 5),some (38,false),0⟩,⟨some 40,.load1 (.tmp 3),some (38,false),0⟩,⟨some 41,.call 26 [(.tmp 39),(.tmp 40)],some (38,false),0⟩,q 42 (.pick (.tmp 38) (.const (.bool true)) (.tmp 41))] false) (.cond (.tmp 42) (.seq (.ops [q 2 (.move (.const (.int .i64 1)))] false) (.ret)) (.skip))))) (.ops [q 43 (.bin .add (.tmp 31) (.const (.int .i64 1))),qm 31 43] false)))
def c9 : PC:=.seq (.ops [q 1 (.box (.tmp 0)),q 2 (.move (.const (.int .i64 0)))] false) (.seq (.ops [q 6 (.faddr 1 (.tmp 1)),q 7 (.load1 (.tmp 6)),q 8 (.len (.tmp 7)),q 3 (.alloc [(.int .i64 0)]),qn (.store 1 (.tmp 3) (.tmp 8))] false) (.seq (.seq (.ops [q 9 (.load1 (.tmp 3)),q 10 (.bin .gtr (.tmp 9) (.const (.int .i64 600))),qm 11 10,⟨some 12,.faddr 3 (.tmp 1),some (11,false),0⟩,⟨some 13,.load1 (.tmp 12),some (11,false),0⟩,⟨some 14,.len (.tmp 13),some (11,false),0⟩,⟨some 15,.bin .gtr (.tmp 14) (.const (.int .i64 80)),some (11,false),0⟩,q 16 (.pick (.tmp 11) (.const (.bool true)) (.tmp 15))] false) (.cond (.tmp 16) (.seq (.ops [q 2 (.move (.const (.int .i64 2)))] false) (.ret)) (.skip))) (.seq (.seq (.ops [q 17 (.faddr 2 (.tmp 1)),q 18 (.load1 (.tmp 17)),q 19 (.len (.tmp 18)),q 20 (.load1 (.tmp 3)),q 21 (.bin .neq (.tmp 19) (.tmp 20)),qm 22 21,⟨some 23,.faddr 0 (.tmp 1),some (22,false),0⟩,⟨some 24,.load1 (.tmp 23),some (22,false),0⟩,⟨some 25,.load1 (.tmp 3),some (22,false),0⟩,⟨some 26,.call 26 [(.tmp 24),(.tmp 25)],some (22,false),0⟩,q 27 (.pick (.tmp 22) (.const (.bool true)) (.tmp 26))] false) (.cond (.tmp 27) (.seq (.ops [q 2 (.move (.const (.int .i64 1)))] false) (.ret)) (.skip))) (.seq (.seq (.ops [q 28 (.faddr 1 (.tmp 1)),q 29 (.load1 (.tmp 28)),q 30 (.len (.tmp 29)),q 31 (.move (.const (.int .i64 0)))] false) (.block 0 (.loop c9_1))) (.seq (.seq (.ops [q 44 (.faddr 3 (.tmp 1)),q 45 (.load1 (.tmp 44)),q 46 (.mkfn (.func 28) [] [(.tmp 3)]),q 47 (.call 27 [(.tmp 45),(.tmp 46)])] false) (.cond (.tmp 47) (.seq (.ops [q 2 (.move (.const (.int .i64 1)))] false) (.ret)) (.skip))) (.seq (.ops [q 2 (.move (.const (.int .i64 0)))] false) (.ret)))))))
theorem c9_ok : FunOK Tryz.prog 9 48 [.tmp 2] c9:=⟨⟨Tryz.f9,Tryz.func9,rfl,by kernel_rfl,rfl,by kernel_rfl⟩⟩
theorem wo_odd1 (x : Int) (n : Nat) : PCall Tryz.prog 58 [.sc (.int .i64 x),.ipt [.sc (.int .i64 n)]] (.sc (.bool (decide (x < 0) || decide (x≥(n : Int))))):=by
 refine zag c58_ok (by simp) (by simp [zao,Pure]) ?_ (by simp [Pure])
 (apply zac; focus (repeat' constructor))
 ((conv=>whnf);repeat(refine⟨rfl,?_⟩;conv=>whnf))
 (refine zab (fun h=>?_) (fun h=>?_) <;> (rw [h]; ((conv=>whnf);repeat(refine⟨rfl,?_⟩;conv=>whnf))))
 ·exact zbW (by simp)
 ·exact zbW (by simp)
theorem zoc (l : List Int) (hl : l.length≤9223372036854775807) (n : Nat) : PCall Tryz.prog 26 [zaD l,.sc (.int .i64 n)] (.sc (.bool !(inB l n))):=by
 refine zag c26_ok (by simp) (by simp [zao,Pure,zam]) ?_ (by simp [Pure])
 (apply zac; focus (repeat' constructor))
 ((conv=>whnf);repeat(refine⟨rfl,?_⟩;conv=>whnf))
 (refine .inr (.inl ⟨_,_,(by (repeat' (first | exact Deep.refl _ | exact Deep.none _ | exact zaF _ | exact DeepL.nil | exact DeepLL.nil | refine Deep.agg _ _ ?_ | refine Deep.tup _ _ ?_ | refine Deep.own _ _ _ _ _ _ _ _ rfl ?_ | refine Deep.loc _ _ _ _ _ rfl ?_ | refine Deep.ifc _ _ _ ?_ | refine Deep.fn _ _ _ _ _ ?_ ?_ | refine DeepL.cons _ _ _ _ ?_ ?_ | refine DeepLL.cons _ _ _ _ ?_ ?_ | exact zaq _))),(zdt (fun n=>.sc (.int .i64 n)) (fun a=>by simp [Pure]) l hl (fun x=>decide (x < 0) || decide (x≥(n : Int))) 58 [.ipt [.sc (.int .i64 n)]] (by simp [zao,Pure]) fun a _=>wo_odd1 a n),rfl,?_⟩); ((conv=>whnf);repeat(refine⟨rfl,?_⟩;conv=>whnf)))
 rw [zo4]
 exact .refl _
theorem zon (l : List Int) (hl : l.length≤9223372036854775807) (n : Nat) : PCall Tryz.prog 28 [zaD l,.ipt [.sc (.int .i64 n)]] (.sc (.bool !(inB l n))):=by
 refine zag c28_ok (by simp) (by simp [zao,Pure,zam]) ?_ (by simp [Pure])
 (apply zac; focus (repeat' constructor))
 ((conv=>whnf);repeat(refine⟨rfl,?_⟩;conv=>whnf))
 (refine .inl ⟨_,(zoc l hl n),?_⟩; ((conv=>whnf);repeat(refine⟨rfl,?_⟩;conv=>whnf)))
 exact .refl _
theorem zmx (W : WorldD) (hW : W.Fits) : PCall Tryz.prog 9 [zcR W] (.sc (.int .i64 W.chk)):=by
 have b1:=hW.start
 have b2:=hW.next
 have b3:=hW.label
 have b4:=hW.fair
 refine zag c9_ok (by simp) (by simp [zao,Pure,zb5]) ?_ (by simp [Pure])
 (apply zac; focus (repeat' constructor))
 ((conv=>whnf);repeat(refine⟨rfl,?_⟩;conv=>whnf))
 rw [List.length_map]
 have fin : ∀ {H : List AObj} {z : Int},z = W.chk→Deep H (.sc (.int .i64 z)) (.sc (.int .i64 W.chk)):=fun h=>h ▸ .refl _
 (refine zab (fun h1=>?_) (fun h1=>?_) <;> (rw [h1]; ((conv=>whnf);repeat(refine⟨rfl,?_⟩;conv=>whnf))))
 ·exact fin (by unfold WorldD.chk; rw [if_pos (by ((try simp only[oo,reduceCtorEq]at*)<;>omega))])
 rw [List.length_map]
 (refine zab (fun h2=>?_) (fun h2=>?_) <;> (rw [h2]; ((conv=>whnf);repeat(refine⟨rfl,?_⟩;conv=>whnf))))
 ·exact fin (by unfold WorldD.chk; rw [if_pos (by ((try simp only[oo,reduceCtorEq]at*)<;>omega))])
 have c1 : ¬ (600 < W.next.length∨80 < W.fair.length):=by ((try simp only[oo,reduceCtorEq]at*)<;>omega)
 rw [List.length_map]
 (refine zab (fun h3=>?_) (fun h3=>?_) <;> (rw [h3]; ((conv=>whnf);repeat(refine⟨rfl,?_⟩;conv=>whnf))))
 ·exact fin (by unfold WorldD.chk; rw [if_neg c1,if_pos (by ((try simp only[oo,reduceCtorEq]at*)<;>omega))])
 (refine .inl ⟨_,(zoc W.start (by omega) W.next.length),?_⟩; ((conv=>whnf);repeat(refine⟨rfl,?_⟩;conv=>whnf)))
 (refine zab (fun h4=>?_) (fun h4=>?_) <;> (rw [h4]; ((conv=>whnf);repeat(refine⟨rfl,?_⟩;conv=>whnf))))
 ·exact fin (by unfold WorldD.chk; rw [if_neg c1,if_pos (.inr (by simpa using h4))])
 have c2 : ¬ (W.label.length≠W.next.length∨inB W.start W.next.length = false):=by
  rintro (q | q)
  ·((try simp only[oo,reduceCtorEq]at*)<;>omega)
  ·rw [q] at h4; cases h4
 refine zaT [1,3,29,30] (fun k : Nat=>[(31,.sc (.int .i64 k))]) (fun _=>[]) (fun k=>k≤W.next.length∧∀ j (hj : j < k) (hl : j < W.next.length),(W.next[j].isEmpty || !(inB W.next[j] W.next.length)) = false) (fun k=>W.next.length - k) 0 ?_
 ((conv=>whnf);repeat(refine⟨rfl,?_⟩;conv=>whnf))
 refine ⟨⟨by omega,fun j hj=>by omega⟩,by (repeat' (first | exact trivial | refine And.intro rfl ?_)),rfl,?_⟩
 rintro k ⟨hk,hall⟩
 ((conv=>whnf);repeat(refine⟨rfl,?_⟩;conv=>whnf))
 (apply zac; focus (repeat' constructor))
 ((conv=>whnf);repeat(refine⟨rfl,?_⟩;conv=>whnf))
 (refine zab (fun g=>?_) (fun g=>?_) <;> (rw [g]; ((conv=>whnf);repeat(refine⟨rfl,?_⟩;conv=>whnf))))
 ·have hk' : k < W.next.length:=by ((try simp only[oo,reduceCtorEq]at*)<;>omega)
  refine ⟨by omega,_,zjf (k:=k) (by omega) hk',?_⟩
  ((conv=>whnf);repeat(refine⟨rfl,?_⟩;conv=>whnf))
  rw [List.length_map]
  have bk:=hW.nextEach _ (List.getElem_mem hk')
  (refine zab (fun g1=>?_) (fun g1=>?_) <;> (rw [g1]; ((conv=>whnf);repeat(refine⟨rfl,?_⟩;conv=>whnf))))
  ·have e1 : (W.next[k]).isEmpty = true:=by rw [List.isEmpty_iff_length_eq_zero]; ((try simp only[oo,reduceCtorEq]at*)<;>omega)
   exact fin (by unfold WorldD.chk; rw [if_neg c1,if_neg c2,if_pos (zig hk' (by rw [e1]; rfl))])
  have e1 : (W.next[k]).isEmpty = false:=by rw [← Bool.not_eq_true,List.isEmpty_iff_length_eq_zero]; ((try simp only[oo,reduceCtorEq]at*)<;>omega)
  (refine .inl ⟨_,(zoc W.next[k] (by omega) W.next.length),?_⟩; ((conv=>whnf);repeat(refine⟨rfl,?_⟩;conv=>whnf)))
  (refine zab (fun g2=>?_) (fun g2=>?_) <;> (rw [g2]; ((conv=>whnf);repeat(refine⟨rfl,?_⟩;conv=>whnf))))
  ·exact fin (by unfold WorldD.chk; rw [if_neg c1,if_neg c2,if_pos (zig hk' (by rw [g2,e1]; rfl))])
  ·(refine .inl ⟨by (unfold InR; rw [IntKind.wrap_i64]; omega),?_⟩; ((conv=>whnf);repeat(refine⟨rfl,?_⟩;conv=>whnf)))
   refine ⟨k + 1,⟨by omega,fun j hj hl=>?_⟩,by dsimp only; omega,zan (by (repeat' (first | exact trivial | refine And.intro rfl ?_))) rfl⟩
   by_cases e : j = k
   ·subst e; rw [e1,g2]; rfl
   ·exact hall j (by omega) hl
 ·have hk' : ¬ k < W.next.length:=by ((try simp only[oo,reduceCtorEq]at*)<;>omega)
  have c3 : ¬ (W.next.any fun l=>l.isEmpty || !(inB l W.next.length)) = true:=by rw [zoK fun j hj=>hall j (by omega) hj]; simp
  (refine .inr (.inl ⟨_,_,(by (repeat' (first | exact Deep.refl _ | exact Deep.none _ | exact zaF _ | exact DeepL.nil | exact DeepLL.nil | refine Deep.agg _ _ ?_ | refine Deep.tup _ _ ?_ | refine Deep.own _ _ _ _ _ _ _ _ rfl ?_ | refine Deep.loc _ _ _ _ _ rfl ?_ | refine Deep.ifc _ _ _ ?_ | refine Deep.fn _ _ _ _ _ ?_ ?_ | refine DeepL.cons _ _ _ _ ?_ ?_ | refine DeepLL.cons _ _ _ _ ?_ ?_ | exact zaq _))),(zeg zaD zam W.fair (by omega) (fun l=>!(inB l W.next.length)) 28 [.ipt [.sc (.int .i64 W.next.length)]] (by simp [zao,Pure]) fun a ha=>zon a (by have:=hW.fairEach a ha; omega) _),rfl,?_⟩); ((conv=>whnf);repeat(refine⟨rfl,?_⟩;conv=>whnf)))
  (refine zab (fun g3=>?_) (fun g3=>?_) <;> (rw [g3]; ((conv=>whnf);repeat(refine⟨rfl,?_⟩;conv=>whnf))))
  ·exact fin (by unfold WorldD.chk; rw [if_neg c1,if_neg c2,if_neg c3,if_pos g3])
  ·exact fin (by unfold WorldD.chk; rw [if_neg c1,if_neg c2,if_neg c3,if_neg (by rw [g3]; simp)])
def c5_1 : PC:=.seq (.seq (.ops [qm 29 4,qm 30 3,q 31 (.bin .lss (.tmp 29) (.tmp 30))] false) (.cond (.tmp 31) (.skip) (.exit 0))) (.seq (.block 1 (.seq (.ops [q 34 (.faddr 1 (.tmp 1)),q 35 (.load1 (.tmp 34)),qm 36 4,q 37 (.iaddr 1 (.tmp 35) (.tmp 36)),q 38 (.load1 (.tmp 37)),q 39 (.len (.tmp 38)),q 40 (.bin .eql (.tmp 39) (.const (.int .i64 0))),qm 41 40,⟨some 42,.faddr 1 (.tmp 1),some (41,false),0⟩,⟨some 43,.load1 (.tmp 42),some (41,false),0⟩,⟨some 44,.move (.tmp 4),some (41,false),0⟩,⟨some 45,.iaddr 1 (.tmp 43) (.tmp 44),some (41,false),0⟩,⟨some 46,.load1 (.tmp 45),some (41,false),0⟩,⟨some 47,.move (.tmp 3),some (41,false),0⟩,⟨some 48,.call 13 [(.tmp 46),(.tmp 47)],some (41,false),0⟩,⟨some 49,.un .not (.tmp 48),some (41,false),0⟩,q 50 (.pick (.tmp 41) (.const (.bool true)) (.tmp 49))] false) (.cond (.tmp 50) (.seq (.ops [q 2 (.move (.const (.int .i64 1)))] false) (.ret)) (.skip)))) (.ops [qm 32 4,q 33 (.bin .add (.tmp 32) (.const (.int .i64 1))),qm 4 33] false))
def c5_2 : PC:=.seq (.seq (.ops [qm 51 5,q 52 (.faddr 3 (.tmp 1)),q 53 (.load1 (.tmp 52)),q 54 (.len (.tmp 53)),q 55 (.bin .lss (.tmp 51) (.tmp 54))] false) (.cond (.tmp 55) (.skip) (.exit 2))) (.seq (.block 3 (.seq (.ops [q 58 (.faddr 3 (.tmp 1)),q 59 (.load1 (.tmp 58)),qm 60 5,q 61 (.iaddr 1 (.tmp 59) (.tmp 60)),q 62 (.load1 (.tmp 61)),qm 63 3,q 64 (.call 13 [(.tmp 62),(.tmp 63)]),q 65 (.un .not (.tmp 64))] false) (.cond (.tmp 65) (.seq (.ops [q 2 (.move (.const (.int .i64 1)))] false) (.ret)) (.skip)))) (.ops [qm 56 5,q 57 (.bin .add (.tmp 56) (.const (.int .i64 1))),qm 5 57] false))
def c5 : PC:=.seq (.ops [q 1 (.box (.tmp 0)),q 2 (.move (.const (.int .i64 0)))] false) (.seq (.ops [q 6 (.faddr 1 (.tmp 1)),q 7 (.load1 (.tmp 6)),q 8 (.len (.tmp 7)),qm 3 8] false) (.seq (.seq (.ops [qm 9 3,q 10 (.bin .gtr (.tmp 9) (.const (.int .i64 600))),qm 11 10,⟨some 12,.faddr 3 (.tmp 1),some (11,false),0⟩,⟨some 13,.load1 (.tmp 12),some (11,false),0⟩,⟨some 14,.len (.tmp 13),some (11,false),0⟩,⟨some 15,.bin .gtr (.tmp 14) (.const (.int .i64 80)),some (11,false),0⟩,q 16 (.pick (.tmp 11) (.const (.bool true)) (.tmp 15))] false) (.cond (.tmp 16) (.seq (.ops [q 2 (.move (.const (.int .i64 2)))] false) (.ret)) (.skip))) (.seq (.seq (.ops [q 17 (.faddr 2 (.tmp 1)),q 18 (.load1 (.tmp 17)),q 19 (.len (.tmp 18)),qm 20 3,q 21 (.bin .neq (.tmp 19) (.tmp 20)),qm 22 21,⟨some 23,.faddr 0 (.tmp 1),some (22,false),0⟩,⟨some 24,.load1 (.tmp 23),some (22,false),0⟩,⟨some 25,.move (.tmp 3),some (22,false),0⟩,⟨some 26,.call 13 [(.tmp 24),(.tmp 25)],some (22,false),0⟩,⟨some 27,.un .not (.tmp 26),some (22,false),0⟩,q 28 (.pick (.tmp 22) (.const (.bool true)) (.tmp 27))] false) (.cond (.tmp 28) (.seq (.ops [q 2 (.move (.const (.int .i64 1)))] false) (.ret)) (.skip))) (.seq (.seq (.ops [q 4 (.move (.const (.int .i64 0)))] false) (.block 0 (.loop c5_1))) (.seq (.seq (.ops [q 5 (.move (.const (.int .i64 0)))] false) (.block 2 (.loop c5_2))) (.seq (.ops [q 2 (.move (.const (.int .i64 0)))] false) (.ret)))))))
theorem c5_ok : FunOK Tryz.prog 5 66 [.tmp 2] c5:=⟨⟨Tryz.f5,Tryz.func5,rfl,by kernel_rfl,rfl,by kernel_rfl⟩⟩
theorem zpl (W : WorldD) (hW : W.Fits) : PCall Tryz.prog 5 [zcR W] (.sc (.int .i64 W.chk)):=by
 have b1:=hW.start
 have b2:=hW.next
 have b3:=hW.label
 have b4:=hW.fair
 refine zag c5_ok (by simp) (by simp [zao,Pure,zb5]) ?_ (by simp [Pure])
 (apply zac; focus (repeat' constructor))
 ((conv=>whnf);repeat(refine⟨rfl,?_⟩;conv=>whnf))
 rw [List.length_map]
 have fin : ∀ {H : List AObj} {z : Int},z = W.chk→Deep H (.sc (.int .i64 z)) (.sc (.int .i64 W.chk)):=fun h=>h ▸ .refl _
 (refine zab (fun h1=>?_) (fun h1=>?_) <;> (rw [h1]; ((conv=>whnf);repeat(refine⟨rfl,?_⟩;conv=>whnf))))
 ·exact fin (by unfold WorldD.chk; rw [if_pos (by ((try simp only[oo,reduceCtorEq]at*)<;>omega))])
 rw [List.length_map]
 (refine zab (fun h2=>?_) (fun h2=>?_) <;> (rw [h2]; ((conv=>whnf);repeat(refine⟨rfl,?_⟩;conv=>whnf))))
 ·exact fin (by unfold WorldD.chk; rw [if_pos (by ((try simp only[oo,reduceCtorEq]at*)<;>omega))])
 have c1 : ¬ (600 < W.next.length∨80 < W.fair.length):=by ((try simp only[oo,reduceCtorEq]at*)<;>omega)
 rw [List.length_map]
 (refine zab (fun h3=>?_) (fun h3=>?_) <;> (rw [h3]; ((conv=>whnf);repeat(refine⟨rfl,?_⟩;conv=>whnf))))
 ·exact fin (by unfold WorldD.chk; rw [if_neg c1,if_pos (by ((try simp only[oo,reduceCtorEq]at*)<;>omega))])
 (refine .inl ⟨_,(zn6 W.start (by omega) W.next.length),?_⟩; ((conv=>whnf);repeat(refine⟨rfl,?_⟩;conv=>whnf)))
 (refine zab (fun h4=>?_) (fun h4=>?_) <;> (rw [h4]; ((conv=>whnf);repeat(refine⟨rfl,?_⟩;conv=>whnf))))
 ·exact fin (by unfold WorldD.chk; rw [if_neg c1,if_pos (.inr (by simpa using h4))])
 have c2 : ¬ (W.label.length≠W.next.length∨inB W.start W.next.length = false):=by
  rintro (q | q)
  ·((try simp only[oo,reduceCtorEq]at*)<;>omega)
  ·rw [q] at h4; cases h4
 refine zaT [1,3] (fun k : Nat=>[(4,.sc (.int .i64 k))]) (fun _=>[]) (fun k=>k≤W.next.length∧∀ j (hj : j < k) (hl : j < W.next.length),(W.next[j].isEmpty || !(inB W.next[j] W.next.length)) = false) (fun k=>W.next.length - k) 0 ?_
 ((conv=>whnf);repeat(refine⟨rfl,?_⟩;conv=>whnf))
 refine ⟨⟨by omega,fun j hj=>by omega⟩,by (repeat' (first | exact trivial | refine And.intro rfl ?_)),rfl,?_⟩
 rintro k ⟨hk,hall⟩
 ((conv=>whnf);repeat(refine⟨rfl,?_⟩;conv=>whnf))
 (apply zac; focus (repeat' constructor))
 ((conv=>whnf);repeat(refine⟨rfl,?_⟩;conv=>whnf))
 (refine zab (fun g=>?_) (fun g=>?_) <;> (rw [g]; ((conv=>whnf);repeat(refine⟨rfl,?_⟩;conv=>whnf))))
 ·have hk' : k < W.next.length:=by ((try simp only[oo,reduceCtorEq]at*)<;>omega)
  refine ⟨by omega,_,zjf (k:=k) (by omega) hk',?_⟩
  ((conv=>whnf);repeat(refine⟨rfl,?_⟩;conv=>whnf))
  rw [List.length_map]
  have bk:=hW.nextEach _ (List.getElem_mem hk')
  (refine zab (fun g1=>?_) (fun g1=>?_) <;> (rw [g1]; ((conv=>whnf);repeat(refine⟨rfl,?_⟩;conv=>whnf))))
  ·have e1 : (W.next[k]).isEmpty = true:=by rw [List.isEmpty_iff_length_eq_zero]; ((try simp only[oo,reduceCtorEq]at*)<;>omega)
   exact fin (by unfold WorldD.chk; rw [if_neg c1,if_neg c2,if_pos (zig hk' (by rw [e1]; rfl))])
  have e1 : (W.next[k]).isEmpty = false:=by rw [← Bool.not_eq_true,List.isEmpty_iff_length_eq_zero]; ((try simp only[oo,reduceCtorEq]at*)<;>omega)
  refine ⟨by omega,_,zjf (k:=k) (by omega) hk',?_⟩
  ((conv=>whnf);repeat(refine⟨rfl,?_⟩;conv=>whnf))
  (refine .inl ⟨_,(zn6 W.next[k] (by omega) W.next.length),?_⟩; ((conv=>whnf);repeat(refine⟨rfl,?_⟩;conv=>whnf)))
  (refine zab (fun g2=>?_) (fun g2=>?_) <;> (rw [g2]; ((conv=>whnf);repeat(refine⟨rfl,?_⟩;conv=>whnf))))
  ·exact fin (by unfold WorldD.chk; rw [if_neg c1,if_neg c2,if_pos (zig hk' (by rw [g2,e1]; rfl))])
  ·(refine .inl ⟨by (unfold InR; rw [IntKind.wrap_i64]; omega),?_⟩; ((conv=>whnf);repeat(refine⟨rfl,?_⟩;conv=>whnf)))
   refine ⟨k + 1,⟨by omega,fun j hj hl=>?_⟩,by dsimp only; omega,zan (by (repeat' (first | exact trivial | refine And.intro rfl ?_))) rfl⟩
   by_cases e : j = k
   ·subst e; rw [e1,g2]; rfl
   ·exact hall j (by omega) hl
 ·have hk' : ¬ k < W.next.length:=by ((try simp only[oo,reduceCtorEq]at*)<;>omega)
  have c3 : ¬ (W.next.any fun l=>l.isEmpty || !(inB l W.next.length)) = true:=by rw [zoK fun j hj=>hall j (by omega) hj]; simp
  clear hall
  refine zaT [1,3] (fun k : Nat=>[(5,.sc (.int .i64 k))]) (fun _=>[]) (fun k=>k≤W.fair.length∧∀ j (hj : j < k) (hl : j < W.fair.length),(!(inB W.fair[j] W.next.length)) = false) (fun k=>W.fair.length - k) 0 ?_
  ((conv=>whnf);repeat(refine⟨rfl,?_⟩;conv=>whnf))
  refine ⟨⟨by omega,fun j hj=>by omega⟩,by (repeat' (first | exact trivial | refine And.intro rfl ?_)),rfl,?_⟩
  rintro q ⟨hq,hall⟩
  ((conv=>whnf);repeat(refine⟨rfl,?_⟩;conv=>whnf))
  (apply zac; focus (repeat' constructor))
  ((conv=>whnf);repeat(refine⟨rfl,?_⟩;conv=>whnf))
  rw [List.length_map]
  (refine zab (fun g=>?_) (fun g=>?_) <;> (rw [g]; ((conv=>whnf);repeat(refine⟨rfl,?_⟩;conv=>whnf))))
  ·have hq' : q < W.fair.length:=by ((try simp only[oo,reduceCtorEq]at*)<;>omega)
   refine ⟨by omega,_,zjf (k:=q) (by omega) hq',?_⟩
   ((conv=>whnf);repeat(refine⟨rfl,?_⟩;conv=>whnf))
   have bk:=hW.fairEach _ (List.getElem_mem hq')
   (refine .inl ⟨_,(zn6 W.fair[q] (by omega) W.next.length),?_⟩; ((conv=>whnf);repeat(refine⟨rfl,?_⟩;conv=>whnf)))
   (refine zab (fun g2=>?_) (fun g2=>?_) <;> (rw [g2]; ((conv=>whnf);repeat(refine⟨rfl,?_⟩;conv=>whnf))))
   ·exact fin (by unfold WorldD.chk; rw [if_neg c1,if_neg c2,if_neg c3,if_pos (zig hq' g2)])
   ·(refine .inl ⟨by (unfold InR; rw [IntKind.wrap_i64]; omega),?_⟩; ((conv=>whnf);repeat(refine⟨rfl,?_⟩;conv=>whnf)))
    refine ⟨q + 1,⟨by omega,fun j hj hl=>?_⟩,by dsimp only; omega,zan (by (repeat' (first | exact trivial | refine And.intro rfl ?_))) rfl⟩
    by_cases e : j = q
    ·subst e; exact g2
    ·exact hall j (by omega) hl
  ·have hq' : ¬ q < W.fair.length:=by ((try simp only[oo,reduceCtorEq]at*)<;>omega)
   have c4 : ¬ (W.fair.any fun l=>!(inB l W.next.length)) = true:=by rw [zoK fun j hj=>hall j (by omega) hj]; simp
   exact fin (by unfold WorldD.chk; rw [if_neg c1,if_neg c2,if_neg c3,if_neg c4])
end
section
open Go.RowKit
end
section
section
open Go.RowKit
def wcell (n : Int) : List D:=[.sc (.int .i64 n)]
@[simp] theorem under_wcell {m : Nat} (n : Int) : zae m (wcell n):=by simp [wcell,zae,zai]
end
section
open Go.RowKit
open Classical in
theorem headQ {Z : List Int} {lo hi : Nat} (h1 : lo < hi) (h2 : hi≤Z.length) : (Z.take hi).drop lo = Z.getD lo 0 :: (Z.take hi).drop (lo + 1):=by
 rw [List.drop_eq_getElem_cons (by rw [List.length_take]; omega),List.getElem_take,List.getD_eq_getElem?_getD,List.getElem?_eq_getElem (by omega)]
 rfl
theorem zdF {Z : List Int} {lo hi : Nat} {k : Int} : ((i64s Z).take hi).drop lo ++ [[D.sc (.int .i64 k)]] = i64s ((Z.take hi).drop lo ++ [k]):=by
 simp [i64s]
end
section
open Go.RowKit
structure QOk (g : List (List Int)) (to : Nat→Bool) (o : Nat→Int) (Z : List Int) : Prop where
 rng : ∀ x∈Z,0≤x∧x < (g.length : Int)
 low : ∀ n,-1≤o n
 out : ∀ n,g.length≤n→o n = -1
theorem QOk.put {g : List (List Int)} {to : Nat→Bool} {o : Nat→Int} {Z : List Int} (h : QOk g to o Z) {k : Nat} (hk : k < g.length) {v : Int} (hv : 0≤v) {lo hi : Nat} : QOk g to (setO o k v) ((Z.take hi).drop lo ++ [(k : Int)]) where
 rng x hx:=by
  rcases List.mem_append.1 hx with q | q
  ·exact h.rng x (List.mem_of_mem_take (List.mem_of_mem_drop q))
  ·rw [List.mem_singleton] at q; subst q; omega
 low n:=by
  by_cases e : n = k
  ·subst e; rw [zcU]; omega
  ·rw [ze4 e]; exact h.low n
 out n hn:=by rw [ze4 (by omega)]; exact h.out n hn
end
section
open Go.RowKit
end
end
section
open Go.RowKit
theorem zoF {P : Program} {f : FuncId} {args args' : List D} {d : D} {H : List AObj} (hd : DeepL H args args') (h : PCall P f args' d) : ACall P f args H d (zfZ H):=by
 obtain ⟨hf,hp⟩:=h
 refine ⟨hf,by rw [zb8,List.length_map]; exact Nat.le_refl _,fun J F w vs hok hdom hargs=>?_⟩
 have hlt : ∀ b,F b∨Owns J b→b < w.heap.size:=fun b hb=>hb.elim (hok.lt b) fun ⟨i,s,hi,hs⟩=>hok.blk_lt hi hs
 refine (hp J (fun b=>F b∨Owns J b) w _ (hok.lt.mono (fun _ h=>.inl h) (fun _ _=>rfl) hlt) (zck hok (fun _ _ h=>h) _ _ _ hd hargs)).mono fun e w' hR=>?_
 obtain ⟨v,F',rfl,h1,h2,h3⟩:=hR
 have hblk : ∀ b,b < w.heap.size→w'.heap[b]? = w.heap[b]?:=fun b hb=>h3.block b hb (zd2 b)
 refine ⟨v,J,F',rfl,⟨fun i s hs=>?_,hok.one,fun i s b o g1 g2 g3 g4=>?_,hok.lt.mono (fun b hb=>h3.grow b (.inl hb)) (fun b hb=>hblk b (hok.lt b hb)) h1⟩,fun id hid=>?_,za4 (zht J) (fun _ h=>h) (fun _ _=>rfl) _ _ h2,?_⟩
 ·obtain ⟨o,q1,q2⟩:=hok.obj i s hs
  refine ⟨o.frozen,?_,?_⟩
  ·rw [zb8,List.getElem?_map,q1]; rfl
  ·have q3:=zbJ (J':=J) (F':=F') (w':=w') (Inj.le_refl J) (fun b hb=>h3.grow b (.inl hb)) (fun b hb=>hblk b (hok.lt b hb)) (fun b hb=>hblk b (hok.blk_lt hs hb)) q2
   cases o with
   | row m cs =>
    obtain ⟨k1,k2,k3,k4,k5,b,vals,te,t1,t2,t3,t4,t5⟩:=q3
    exact ⟨k1,k2,k3,k4,k5,b,vals,te,t1,t2,t3,t4,fun _=>h3.grow b (.inr ⟨i,s,hs,by simp [Site.blk,k1,t1]⟩)⟩
   | vec m v e xs =>
    obtain ⟨k1,k2,k3,k4,k5,k6⟩:=q3
    refine ⟨k1,k2,k3,k4,k5,?_⟩
    by_cases hz : s.cap = 0
    ·exact .inl hz
    ·rcases k6 with k6 | ⟨b,o,vals,te,t1,t2,t3,t4,t5⟩
     ·exact .inl k6
     ·exact .inr ⟨b,o,vals,te,t1,t2,t3,t4,fun _=>h3.grow b (.inr ⟨i,s,hs,by simp [Site.blk,k1,hz,t1]⟩)⟩
   | mapo m I=>exact q3
 ·exfalso
  rw [zb8,List.getElem?_map] at g3
  cases e : H[i]? with
  | none=>rw [e] at g3; cases g3
  | some x =>
   rw [e] at g3
   cases x <;> cases g3 <;> cases g4
 ·rw [zb8,List.length_map]
  exact hdom id hid
 ·exact ⟨h3.os,h3.tape,h3.output,h3.size,fun b hb _=>hblk b hb,fun b hb=>hblk b (hok.lt b hb),Inj.le_refl J,fun b hb=>h3.grow b (.inl hb),fun b hb=>.inl hb,fun b hb=>by
   rcases h3.growBack b hb with q | q | q
   ·rcases q with q | q
    ·exact .inl q
    ·exact .inr (.inl q)
   ·exact absurd q (zd2 b)
   ·exact .inr (.inr q)⟩
theorem zf1 {P : Program} {f : FuncId} {args0 args' args : List D} {d : D} {H0 H : List AObj} (hd : DeepL H0 args0 args') (h : PCall P f args' d) (hp : Pure d) (L : List Nat) (hL : L.length = H0.length) (hnd : L.Nodup)
  (hargs : zae H0.length args0) (hobj : zbg H0.length H0) (e1 : renL (fun i=>L.getD i 0) args0 = args)
  (h1 : ∀ i o,H0[i]? = some o→H[L.getD i 0]? = some (o.ren fun i=>L.getD i 0)) : ACallAt P f args H d (putL H L ((zfZ H0).map (AObj.ren fun i=>L.getD i 0))) L :=
 zfg (zoF hd h) (by rw [zb8,List.length_map]) L hL hnd hargs hobj e1 (zbE _ hp) h1
end
section
open Go.RowKit
def curL (N : Nat) (T : Nat→List Int) (k : Nat) (c : List Int) : List (List Int):=(List.range N).map fun i=>if i < k then T i else if i = k then c else []
@[simp] theorem curL_len (N : Nat) (T : Nat→List Int) (k : Nat) (c : List Int) : (curL N T k c).length = N:=by simp [curL]
@[simp] theorem under_dlet3 {m : Nat} (l : List Int) : zai m (dlet l)↔True:=⟨fun _=>trivial,fun _=>zaf _ (zcQ l)⟩
end
section
open Go.RowKit Go.ChangeShapes Go.WideShapes Go.ChangeAt
end
section
open Go.RowKit Go.ChangeShapes Go.WideShapes Go.ChangeAt
theorem zmE {P : Program} {L : Nat} {t u : TypeId} {k : IntKind} {cs : List D} (ht : P.underlying t = some (.slice u)) (hu : P.underlying u = some (.int k)) (hc : P.cellsOf u = 1) (h : OfTz P (L + 1) t cs) :
  ∃ l : List Int,cs = [.lst 1 (l.map fun n=>[.sc (.int k n)])]∧l.length≤L + 1∧∀ x∈l,k.min≤x∧x≤k.max:=by
 obtain ⟨xs,rfl,hz,hx⟩:=zj5 ht h
 obtain ⟨l,rfl,hl⟩:=of_cells (f:=fun n : Int=>.int k n) (ok:=fun x=>k.min≤x∧x≤k.max) (fun cs h=>by obtain ⟨n,e,q⟩:=zoq hu h; exact ⟨n,e,q⟩) hx
 rw [hc]
 rw [List.length_map] at hz
 exact ⟨l,rfl,hz,hl⟩
theorem grid_ofL {P : Program} {L : Nat} {t e u : TypeId} {cs : List D} (ht : P.underlying t = some (.slice e)) (he : P.underlying e = some (.slice u)) (hu : P.underlying u = some (.int .i64)) (hc : P.cellsOf u = 1) (hce : P.cellsOf e = 1) (h : OfTz P (L + 1) t cs) :
  ∃ g : List (List Int),cs = [zbe g]∧g.length≤L + 1∧∀ l∈g,l.length≤L + 1:=by
 obtain ⟨xs,rfl,hz,hx⟩:=zj5 ht h
 have : ∃ g : List (List Int),xs = g.map (fun l=>[zaD l])∧∀ l∈g,l.length≤L + 1:=by
  clear hz h
  induction xs with
  | nil=>exact ⟨[],rfl,by simp⟩
  | cons x xs ih =>
   cases hx with
   | cons _ _ _ h1 h2 =>
    obtain ⟨g,rfl,hg⟩:=ih h2
    obtain ⟨l,rfl,hl,_⟩:=zmE he hu hc h1
    refine ⟨l :: g,rfl,fun a ha=>?_⟩
    rcases List.mem_cons.1 ha with rfl | ha
    ·exact hl
    ·exact hg a ha
 obtain ⟨g,rfl,hg⟩:=this
 rw [hce]
 rw [List.length_map] at hz
 exact ⟨g,rfl,hz,hg⟩
end
section
section
open Go.RowKit
theorem zmh {g small : List (List Int)} {L : List Int} {num : Nat→Int} (hlen : small.length = L.length) (hnum : ∀ i,i < L.length→num (L.getD i 0).toNat = (i : Int) + 1)
  (hcl : ∀ x∈L,∀ y∈g.getD x.toNat [],y∈L) (hsm : ∀ i,i < L.length→small.getD i [] = (g.getD (L.getD i 0).toNat []).map fun y=>num y.toNat - 1) (sets : List (Nat→Bool)) {i : Nat} (hi : i < L.length) :
  Fw small (sets.map fun S v=>S (L.getD v 0).toNat) i↔Fw g sets (L.getD i 0).toNat:=by
 have key : ∀ v x,v < L.length→x∈small.getD v []→∃ j,j < L.length∧x = (j : Int)∧L.getD j 0∈g.getD (L.getD v 0).toNat []:=fun v x hv hx=>by
  rw [hsm v hv] at hx
  obtain ⟨y,hy,rfl⟩:=List.mem_map.1 hx
  obtain ⟨j,hj,rfl⟩:=zd6 (hcl _ (zaM hv) y hy)
  exact ⟨j,hj,by rw [hnum j hj]; omega,hy⟩
 have out : ∀ v x,x∈small.getD v []→v < L.length:=fun v x hx=>by
  rcases Nat.lt_or_ge v L.length with q | q
  ·exact q
  ·rw [List.getD_eq_getElem?_getD,List.getElem?_eq_none (by omega)] at hx; cases hx
 constructor
 ·refine fw_map (h:=fun v=>(L.getD v 0).toNat) fun v x hx=>?_
  obtain ⟨j,hj,rfl,hy⟩:=key v x (out v x hx) hx
  exact ⟨_,hy,by rw [Int.toNat_natCast]⟩
 ·refine zow (h:=fun v=>(L.getD v 0).toNat) (fun v hv y hy=>?_) (fun v x hx=>?_) (by omega)
  ·have hv' : v < L.length:=by omega
   obtain ⟨j,hj,rfl⟩:=zd6 (hcl _ (zaM hv') y hy)
   refine ⟨(j : Int),?_,by rw [Int.toNat_natCast]⟩
   rw [hsm v hv']
   exact List.mem_map.2 ⟨_,hy,by rw [hnum j hj]; omega⟩
  ·obtain ⟨j,hj,rfl,_⟩:=key v x (out v x hx) hx
   rw [Int.toNat_natCast]; omega
noncomputable def hasF (g : List (List Int)) (S : Nat→Bool) (k i : Nat) : Bool:=(List.range k).any fun v=>partsG g v == (i : Int) && S v
noncomputable def zfA (g : List (List Int)) (sets : List (Nat→Bool)) (i : Nat) : Bool:=okT g g.length i && sets.all fun S=>hasF g S g.length i
theorem znI (g : List (List Int)) (S : Nat→Bool) (k i : Nat) : hasF g S (k + 1) i = (hasF g S k i || (partsG g k == (i : Int) && S k)):=by
 unfold hasF; rw [List.range_succ,List.any_append]; simp
theorem zpe {g : List (List Int)} (hin : ∀ v x,x∈g.getD v []→x.toNat < g.length) (sets : List (Nat→Bool)) : (∃ i,i < g.length∧zfA g sets i = true)↔∃ v,v < g.length∧Fw g sets v:=by
 constructor
 ·rintro ⟨i,hi,h⟩
  unfold zfA at h
  rw [Bool.and_eq_true,List.all_eq_true] at h
  obtain ⟨h1,h2⟩:=h
  unfold okT at h1
  rw [List.any_eq_true] at h1
  obtain ⟨n,hn,q⟩:=h1
  have hn:=List.mem_range.1 hn
  rw [Bool.and_eq_true,beq_iff_eq] at q
  refine ⟨n,hn,n,zbN g n,(zjo hin hn).1 q.2,fun S hS=>?_⟩
  have:=h2 S hS
  unfold hasF at this
  rw [List.any_eq_true] at this
  obtain ⟨d,hd,r⟩:=this
  have hd:=List.mem_range.1 hd
  rw [Bool.and_eq_true,beq_iff_eq,← q.1,zdq hd hn,mutB_iff] at r
  exact ⟨d,r.2,r.1.2,r.1.1⟩
 ·rintro ⟨v,hv,c,h1,h2,h3⟩
  have hc:=to_lt hin hv h1
  have hp:=zgx hc
  refine ⟨(partsG g c).toNat,by omega,?_⟩
  unfold zfA
  rw [Bool.and_eq_true,List.all_eq_true]
  have e : ((partsG g c).toNat : Int) = partsG g c:=by omega
  refine ⟨?_,fun S hS=>?_⟩
  ·unfold okT
   rw [List.any_eq_true]
   exact ⟨c,List.mem_range.2 hc,by rw [Bool.and_eq_true,beq_iff_eq,e]; exact ⟨rfl,(zjo hin hc).2 h2⟩⟩
  ·obtain ⟨d,d1,d2,d3⟩:=h3 S hS
   have hd:=to_lt hin hc d2
   unfold hasF
   rw [List.any_eq_true]
   exact ⟨d,List.mem_range.2 hd,by rw [Bool.and_eq_true,beq_iff_eq,e,zdq hd hc,mutB_iff]; exact ⟨⟨d3,d2⟩,d1⟩⟩
structure ReI (g : List (List Int)) (from_ : List Int) (num : Nat→Int) (L T : List Int) : Prop where
 at_ : ∀ i,i < L.length→num (L.getD i 0).toNat = (i : Int) + 1
 zero : ∀ v : Nat,(v : Int) ∉ L→num v = 0
 rngL : ∀ x∈L,0≤x∧x.toNat < g.length
 rngT : ∀ x∈T,0≤x∧x.toNat < g.length
 reach : ∀ x,x∈L∨x∈T→∃ y∈from_,To g y.toNat x.toNat
 closed : ∀ x∈L,∀ y∈g.getD x.toNat [],y∈L∨y∈T
 start : ∀ y∈from_,y∈L∨y∈T
theorem ReI.begin {g : List (List Int)} {from_ : List Int} (hf : ∀ x∈from_,0≤x∧x.toNat < g.length) : ReI g from_ (fun _=>0) [] from_ where
 at_ i hi:=by simp at hi
 zero v _:=rfl
 rngL x hx:=by cases hx
 rngT:=hf
 reach x hx:=by
  rcases hx with q | q
  ·cases q
  ·exact ⟨x,q,zbN _ _⟩
 closed x hx:=by cases hx
 start y hy:=.inr hy
theorem ReI.old {g : List (List Int)} {from_ : List Int} {num : Nat→Int} {L T : List Int} {k : Int} (h : ReI g from_ num L (T ++ [k])) (hk : num k.toNat≠0) : ReI g from_ num L T:=by
 have hkL : k∈L:=by
  by_cases q : k∈L
  ·exact q
  ·have h0:=(h.rngT k (by simp)).1
   exact absurd (h.zero k.toNat (by rwa [Int.toNat_of_nonneg h0])) hk
 exact ⟨h.at_,h.zero,h.rngL,fun x hx=>h.rngT x (List.mem_append_left _ hx),fun x hx=>h.reach x (hx.imp_right fun q=>List.mem_append_left _ q),fun x hx y hy=>by
  rcases h.closed x hx y hy with q | q
  ·exact .inl q
  ·rcases List.mem_append.1 q with r | r
   ·exact .inr r
   ·rw [List.mem_singleton] at r; subst r; exact .inl hkL,fun y hy=>by
  rcases h.start y hy with q | q
  ·exact .inl q
  ·rcases List.mem_append.1 q with r | r
   ·exact .inr r
   ·rw [List.mem_singleton] at r; subst r; exact .inl hkL⟩
theorem ReI.new {g : List (List Int)} (hin : ∀ v x,x∈g.getD v []→0≤x∧x.toNat < g.length) {from_ : List Int} {num : Nat→Int} {L T : List Int} {k : Int} (h : ReI g from_ num L (T ++ [k])) (hk : num k.toNat = 0) :
  ReI g from_ (fun v=>if v = k.toNat then ((L.length + 1 : Nat) : Int) else num v) (L ++ [k]) (T ++ g.getD k.toNat []):=by
 have h0:=h.rngT k (by simp)
 have hkL : k ∉ L:=fun q=>by
  obtain ⟨j,hj,rfl⟩:=zd6 q
  rw [h.at_ j hj] at hk
  omega
 obtain ⟨y0,y1,y2⟩:=h.reach k (.inr (by simp))
 refine ⟨fun i hi=>?_,fun v hv=>?_,fun x hx=>?_,fun x hx=>?_,fun x hx=>?_,fun x hx y hy=>?_,fun y hy=>?_⟩
 ·rw [List.length_append,List.length_singleton] at hi
  by_cases q : i < L.length
  ·have e : (L ++ [k]).getD i 0 = L.getD i 0:=by rw [List.getD_eq_getElem?_getD,List.getElem?_append_left q,List.getD_eq_getElem?_getD]
   have hm:=zaM q
   have hr:=h.rngL _ hm
   rw [e,if_neg fun r=>hkL (by rw [show k = L.getD i 0 by omega]; exact hm),h.at_ i q]
  ·have : i = L.length:=by omega
   subst this
   have e : (L ++ [k]).getD L.length 0 = k:=by rw [List.getD_eq_getElem?_getD,List.getElem?_append_right (Nat.le_refl _),Nat.sub_self]; rfl
   rw [e,if_pos rfl]; omega
 ·rw [if_neg fun r=>hv (by rw [r,Int.toNat_of_nonneg h0.1]; simp)]
  exact h.zero v fun q=>hv (List.mem_append_left _ q)
 ·rcases List.mem_append.1 hx with q | q
  ·exact h.rngL x q
  ·rw [List.mem_singleton] at q; subst q; exact h0
 ·rcases List.mem_append.1 hx with q | q
  ·exact h.rngT x (List.mem_append_left _ q)
  ·exact hin _ _ q
 ·rcases hx with q | q
  ·rcases List.mem_append.1 q with r | r
   ·exact h.reach x (.inl r)
   ·rw [List.mem_singleton] at r; subst r; exact ⟨y0,y1,y2⟩
  ·rcases List.mem_append.1 q with r | r
   ·exact h.reach x (.inr (List.mem_append_left _ r))
   ·exact ⟨y0,y1,zbq y2 (zcL r)⟩
 ·rcases List.mem_append.1 hx with q | q
  ·rcases h.closed x q y hy with r | r
   ·exact .inl (List.mem_append_left _ r)
   ·rcases List.mem_append.1 r with r | r
    ·exact .inr (List.mem_append_left _ r)
    ·exact .inl (List.mem_append_right _ r)
  ·rw [List.mem_singleton] at q
   subst q
   exact .inr (List.mem_append_right _ hy)
 ·rcases h.start y hy with r | r
  ·exact .inl (List.mem_append_left _ r)
  ·rcases List.mem_append.1 r with r | r
   ·exact .inr (List.mem_append_left _ r)
   ·exact .inl (List.mem_append_right _ r)
theorem ReI.fin {g small : List (List Int)} {from_ : List Int} {num : Nat→Int} {L : List Int} (h : ReI g from_ num L []) (hlen : small.length = L.length) (hsm : ∀ i,i < L.length→small.getD i [] = (g.getD (L.getD i 0).toNat []).map fun y=>num y.toNat - 1) (sets : List (Nat→Bool)) :
  (∃ i,i < small.length∧Fw small (sets.map fun S v=>S (L.getD v 0).toNat) i)↔∃ y∈from_,Fw g sets y.toNat:=by
 have hcl : ∀ x∈L,∀ y∈g.getD x.toNat [],y∈L:=fun x hx y hy=>(h.closed x hx y hy).resolve_right (by simp)
 constructor
 ·rintro ⟨i,hi,k⟩
  rw [hlen] at hi
  have k:=(zmh hlen h.at_ hcl hsm sets hi).1 k
  obtain ⟨y,y1,y2⟩:=h.reach _ (.inl (zaM hi))
  exact ⟨y,y1,k.back y2⟩
 ·rintro ⟨y,hy,k⟩
  have hyL:=(h.start y hy).resolve_right (by simp)
  obtain ⟨j,hj,rfl⟩:=zd6 hyL
  exact ⟨j,by omega,(zmh hlen h.at_ hcl hsm sets hj).2 k⟩
end
section
open Go.RowKit
end
section
open Go.RowKit
structure ReS where
 num : Nat→Int
 L : List Int
 T : List Int
end
section
open Go.RowKit
end
end
section
section
open Go.RowKit
def nextsT (A : AutoD) (f : Nat→Int) (a p s i j : Nat) : List Int:=if zhj A s (f i) = true then ((A.next.getD s []).take j).filter fun t=>zhj A t.toNat (f (zlc a p i)) else []
def cellP (n a p i : Nat) (l : List Int) : List Int:=l.map fun t=>((zlc a p i * n : Nat) : Int) + t
def rowP (A : AutoD) (f : Nat→Int) (a p v : Nat) : List Int:=cellP A.next.length a p (v / A.next.length) (nexts A f a p (v % A.next.length) (v / A.next.length))
@[simp] theorem prodP_len (A : AutoD) (f : Nat→Int) (a p : Nat) : (prodP A f a p).length = A.next.length * (a + p):=by simp [prodP]
def cellR (m j : Nat) (l : List Int) : List Int:=l.map fun t=>t * (m : Int) + (j : Int)
def curR (A : AutoD) (f : Nat→Int) (a p i s k : Nat) (x : Nat) : List Int :=
 if x % (a + p) < i∨(x % (a + p) = i∧x / (a + p) < s) then cellR (a + p) (zlc a p (x % (a + p))) (nexts A f a p (x / (a + p)) (x % (a + p)))
 else if x % (a + p) = i∧x / (a + p) = s then cellR (a + p) (zlc a p i) (nextsT A f a p s i k) else []
def gridR (A : AutoD) (f : Nat→Int) (a p i s k : Nat) : List (List Int):=(List.range (A.next.length * (a + p))).map (curR A f a p i s k)
@[simp] theorem gridR_len (A : AutoD) (f : Nat→Int) (a p i s k : Nat) : (gridR A f a p i s k).length = A.next.length * (a + p):=by simp [gridR]
@[simp] theorem prodR_len (A : AutoD) (f : Nat→Int) (a p : Nat) : (prodR A f a p).length = A.next.length * (a + p):=by simp [prodR]
end
section
open Go.RowKit
@[simp] theorem cellP_len (n a p i : Nat) (l : List Int) : (cellP n a p i l).length = l.length:=by simp [cellP]
def gridP (A : AutoD) (f : Nat→Int) (a p i s j : Nat) : List (List Int):=curL (A.next.length * (a + p)) (rowP A f a p) (i * A.next.length + s) (cellP A.next.length a p i (nextsT A f a p s i j))
@[simp] theorem gridP_len (A : AutoD) (f : Nat→Int) (a p i s j : Nat) : (gridP A f a p i s j).length = A.next.length * (a + p):=by simp [gridP]
end
section
open Go.RowKit
theorem zkT : ∀ (n m : Nat) (h : Nat→Nat),(∀ i,i < m→h i < n)→(∀ i j,i < m→j < m→h i = h j→i = j)→m≤n
 | 0,m,h,h1,_=>by
  rcases Nat.eq_zero_or_pos m with e | e
  ·omega
  ·have:=h1 0 e; omega
 | n + 1,m,h,h1,h2=>by
  by_cases q : ∃ i,i < m∧h i = n
  ·obtain ⟨i0,q1,q2⟩:=q
   have:=zkT n (m - 1) (fun i=>h (if i = i0 then m - 1 else i)) (fun i hi=>by
    split
    ·rename_i e
     have a1:=h1 (m - 1) (by omega)
     have a2 : h (m - 1)≠n:=fun e2=>by have:=h2 (m - 1) i0 (by omega) q1 (by rw [e2,q2]); omega
     omega
    ·rename_i e
     have a1:=h1 i (by omega)
     have a2 : h i≠n:=fun e2=>e (h2 i i0 (by omega) q1 (by rw [e2,q2]))
     omega) (fun i j hi hj e=>by
    have:=h2 _ _ (by split <;> omega) (by split <;> omega) e
    split at this <;> split at this <;> omega)
   omega
  ·have:=zkT n m h (fun i hi=>by have:=h1 i hi; have : h i≠n:=fun e=>q ⟨i,hi,e⟩; omega) h2
   omega
end
section
open Go.RowKit
structure AutoD.Tame (A : AutoD) : Prop where
 start : A.start.length≤1048576
 next : ∀ l∈A.next,l.length≤1048576
 fair : ∀ l∈A.fair,l.length≤1048576
end
end
section
open Go.RowKit
def zfy (a b : Int) : List D:=[.sc (.int .i64 a),.sc (.int .i64 b)]
def zgQ (l : List Pr) : List (List D):=l.map fun o=>zfy o.1 o.2
def zg3 (l : List Pr) : D:=.lst 2 (zgQ l)
@[simp] theorem zgc (l : List Pr) : (zgQ l).length = l.length:=by simp [zgQ]
theorem zgA (l : List Pr) : zbd (zgQ l):=zas _ (fun l=>by simp [zfy,zao,Pure]) l
theorem zfM (l : List Pr) : Pure (zg3 l):=by simp only [zg3,Pure]; exact zgA l
@[simp] theorem underLL_prows {m : Nat} (l : List Pr) : zak m (zgQ l)↔True:=⟨fun _=>trivial,fun _=>zaa _ (zgA l)⟩
@[simp] theorem under_dpairs {m : Nat} (l : List Pr) : zai m (zg3 l)↔True:=⟨fun _=>trivial,fun _=>zaf _ (zfM l)⟩
theorem zhq {l : List Pr} {z k : Nat} (hz : z = k) (h : k < l.length) : (zgQ l)[z]? = some (zfy (l.getD k (0,0)).1 (l.getD k (0,0)).2):=by
 subst hz
 unfold zgQ
 rw [List.getElem?_map,List.getElem?_eq_getElem h,List.getD_eq_getElem?_getD,List.getElem?_eq_getElem h]
 rfl
def zba (L : List (List Int)) : List (List D):=L.map fun l=>[zaD l]
@[simp] theorem growsI_len (L : List (List Int)) : (zba L).length = L.length:=by simp [zba]
theorem zaP (L : List (List Int)) : zbd (zba L):=zas _ (fun l=>by simp [zao,zam]) L
@[simp] theorem underLL_growsI {m : Nat} (l : List (List Int)) : zak m (zba l)↔True:=⟨fun _=>trivial,fun _=>zaa _ (zaP l)⟩
theorem zly {L : List (List Int)} {c : Nat} {l : List Int} (h : c = L.length) : List.drop 0 (List.take c (zba L)) ++ [[zaD l]] = zba (L ++ [l]):=by
 subst h
 rw [zav (by simp)]
 simp [zba]
theorem zaR (l : List Int) (x : Int) : List.drop 0 (List.take l.length (i64s l)) ++ List.drop 0 (List.take 1 [[D.sc (.int .i64 x)]]) = i64s (l ++ [x]):=by
 rw [zav (by simp [i64s])]
 simp [i64s]
theorem zlr (L : List Pr) (p : Pr) : List.drop 0 (List.take L.length (zgQ L)) ++ List.drop 0 (List.take 1 [[D.sc (.int .i64 p.1),D.sc (.int .i64 p.2)]]) = zgQ (L ++ [p]):=by
 rw [zav (by simp)]
 simp [zgQ,zfy]
theorem zn1 {P : Program} {k e : TypeId} {f0 f1 : Field} (hsz : 0 < P.types.size) (hk : P.keyType k = true) (hu : P.underlying k = some (.struct #[f0, f1])) (h0 : f0.type = e) (h1 : f1.type = e) (o0 : f0.offset = 0) (o1 : f1.offset = 1) (n0 : (f0.name != "_") = true) (n1 : (f1.name != "_") = true) (he : P.underlying e = some (.int .i64)) (hce : P.cellsOf e = 1) (hck : P.cellsOf k = 2) (a b : Int) (ha : (Lit.int .i64 a).wf = true) (hb : (Lit.int .i64 b).wf = true) :
  ∃ l,keyOf P k (.agg #[.int .i64 a,.int .i64 b]) = some l:=by
 obtain ⟨d,hd⟩ : ∃ d,P.types.size = d + 1:=⟨P.types.size - 1,by omega⟩
 unfold keyOf
 rw [hu]
 simp only [hk,Value.formed,hu,hck,Bool.true_and]
 rw [if_pos (by simp),hd]
 show ∃ l,(P.keyLits (d + 1 + 1) k [.int .i64 a,.int .i64 b]).map _ = some l
 rw [Program.keyLits.eq_def]
 simp only [hu]
 rw [if_pos ⟨by simp [hck],by simp [n0,n1]⟩]
 simp [List.mapM_cons,h0,h1,o0,o1,hce,Program.keyLits,he,ha,hb]
def keyP (p : Pr) : Value:=.agg #[.int .i64 p.1,.int .i64 p.2]
theorem zl5 {p q : Pr} (h : keyP p = keyP q) : p = q:=by
 unfold keyP at h
 have h:=(Value.agg.injEq _ _).mp h
 have h:=congrArg Array.toList h
 simp at h
 exact Prod.ext h.1 h.2
noncomputable def fPto (L : List Pr) : Nat→Value→Option Value
 | 0=>fun _=>none
 | k + 1=>putF (fPto L k) (keyP (L.getD k (0,0))) (.int .i64 k)
noncomputable def fP (L : List Pr) : Value→Option Value:=fPto L L.length
theorem zmH {L : List Pr} {m : Pr} : ∀ k,k≤L.length→fPto (L ++ [m]) k = fPto L k
 | 0,_=>rfl
 | k + 1,h=>by
  simp only [fPto]
  rw [zmH k (by omega),List.getD_eq_getElem?_getD,List.getElem?_append_left (by omega),← List.getD_eq_getElem?_getD]
theorem fP_put (L : List Pr) (m : Pr) : fP (L ++ [m]) = putF (fP L) (keyP m) (.int .i64 L.length):=by
 unfold fP
 rw [List.length_append,List.length_singleton]
 simp only [fPto]
 rw [zmH _ (Nat.le_refl _),List.getD_eq_getElem?_getD,List.getElem?_append_right (Nat.le_refl _),Nat.sub_self]
 rfl
theorem zgj {l : List Pr} {k : Nat} (h : k < l.length) : l.getD k (0,0)∈l:=by
 rw [List.getD_eq_getElem?_getD,List.getElem?_eq_getElem h]; simp
theorem zki {L : List Pr} {m : Pr} (hm : ¬ m∈L) : ∀ k,k≤L.length→fPto L k (keyP m) = none
 | 0,_=>rfl
 | k + 1,h=>by
  simp only [fPto,putF]
  rw [if_neg ?_,zki hm k (by omega)]
  intro e
  exact hm (zl5 e ▸ zgj (by omega))
theorem zkH {L : List Pr} {m : Pr} (hn : L.Nodup) {i : Nat} (hi : i < L.length) (hm : L.getD i (0,0) = m) : ∀ k,i < k→k≤L.length→fPto L k (keyP m) = some (.int .i64 i)
 | 0,h,_=>by omega
 | k + 1,h,hk=>by
  simp only [fPto,putF]
  by_cases e : i = k
  ·subst e
   rw [hm,if_pos rfl]
  ·rw [if_neg ?_,zkH hn hi hm k (by omega) (by omega)]
   intro q
   have:=zl5 q
   rw [← hm,List.getD_eq_getElem?_getD,List.getD_eq_getElem?_getD,List.getElem?_eq_getElem hi,List.getElem?_eq_getElem (by omega)] at this
   exact List.pairwise_iff_getElem.1 hn i k hi (by omega) (by omega) this
theorem zo8 {L : List Pr} {m : Pr} (h : m∈L) : idxP L m < L.length∧L.getD (idxP L m) (0,0) = m:=by
 have h1:=ziF h
 refine ⟨h1,?_⟩
 unfold idxP at h1 ⊢
 rw [List.getD_eq_getElem?_getD,List.getElem?_eq_getElem h1,List.getElem_idxOf h1]
 rfl
theorem zpk {L : List Pr} {m : Pr} (hn : L.Nodup) (h : m∈L) : fP L (keyP m) = some (.int .i64 (idxP L m)):=by
 obtain ⟨h1,h2⟩:=zo8 h
 exact zkH hn h1 h2 _ h1 (Nat.le_refl _)
theorem fP_none {L : List Pr} {m : Pr} (h : ¬ m∈L) : fP L (keyP m) = none:=zki h _ (Nat.le_refl _)
def WfP (p : Pr) : Prop:=(Lit.int .i64 p.1).wf = true∧(Lit.int .i64 p.2).wf = true
theorem wfP_of {p : Pr} (h : 0≤p.1∧p.1≤1000000000∧0≤p.2∧p.2≤1000000000) : WfP p:=by
 have h1 : IntKind.min .i64 = -9223372036854775808:=by decide
 have h2 : IntKind.max .i64 = 9223372036854775807:=by decide
 constructor
 ·simp only [Lit.wf,Bool.and_eq_true,decide_eq_true_eq]; omega
 ·simp only [Lit.wf,Bool.and_eq_true,decide_eq_true_eq]; omega
def nilV : D:=.sc (.slice none 0 0)
@[simp] theorem under_nilV {m : Nat} : zai m nilV↔True:=⟨fun _=>trivial,fun _=>trivial⟩
@[simp] theorem ren_nilV {ρ : Nat→Nat} : D.ren ρ nilV = nilV:=rfl
@[simp] theorem pure_nilV : Pure nilV:=trivial
end
section
open Go.RowKit
def allT : Nat→Bool:=fun _=>true
def noT : Nat→Bool:=fun _=>false
def dbls (n : Nat) (F : List (Nat→Bool)) : D:=.lst 1 (F.map fun S=>[dbl n S])
theorem zev (n : Nat) (F : List (Nat→Bool)) : Pure (dbls n F):=by simp only [dbls,Pure]; exact zas _ (fun S=>by simp [zao,zbM]) F
theorem zjh {n : Nat} {F : List (Nat→Bool)} {z k : Nat} (hz : z = k) (h : k < F.length) : (F.map fun S=>[dbl n S])[z]? = some [dbl n (F.getD k noT)]:=by
 subst hz
 rw [List.getElem?_map,List.getElem?_eq_getElem h,List.getD_eq_getElem?_getD,List.getElem?_eq_getElem h]; rfl
theorem fw_nil (g : List (List Int)) (v : Nat) : fwB g [] v = fwB g [allT] v:=by
 rw [Bool.eq_iff_iff,fwB_iff,fwB_iff]
 constructor
 ·rintro ⟨c,h1,h2,h3⟩
  exact ⟨c,h1,h2,fun S hS=>by rw [List.mem_singleton] at hS; subst hS; exact ⟨c,rfl,zbN g c,zbN g c⟩⟩
 ·rintro ⟨c,h1,h2,h3⟩
  exact ⟨c,h1,h2,fun S hS=>by cases hS⟩
theorem fw_lt {g : List (List Int)} {F : List (Nat→Bool)} {v : Nat} (h : Fw g F v) : v < g.length:=by
 obtain ⟨c,h1,⟨x,hx,_⟩,_⟩:=h
 have lt : ∀ {a : Nat} {y : Int},y∈g.getD a []→a < g.length:=fun {a y} hy=>by
  rcases Nat.lt_or_ge a g.length with q | q
  ·exact q
  ·rw [List.getD_eq_getElem?_getD,List.getElem?_eq_none q] at hy; simp at hy
 have key : ∀ {a b : Nat},To g a b→a = b∨a < g.length:=by
  intro a b q
  unfold To at q
  induction q with
  | base m=>simp only [List.mem_singleton] at m; subst m; left; simp
  | step q m ih =>
   rcases ih with e | e
   ·subst e; exact .inr (lt m)
   ·exact .inr e
 rcases key h1 with e | e
 ·subst e; exact lt hx
 ·exact e
def cz (z : Nat→Bool) (n : Nat) : Nat:=unseen (fun i=>!z i) n
theorem zjD {z z' : Nat→Bool} {n : Nat} (h : ∀ v,z' v = true→z v = true) : cz z' n≤cz z n:=zfN fun j _ q=>by
 cases e : z' j with
 | false=>rfl
 | true=>rw [h j e] at q; cases q
theorem cz_lt {z z' : Nat→Bool} {n i : Nat} (hi : i < n) (h : ∀ v,z' v = true→z v = true) (h1 : z i = true) (h2 : z' i = false) : cz z' n < cz z n:=by
 refine zeq hi (fun j _ q=>?_) (by simp [h1]) (by simp [h2])
 cases e : z' j with
 | false=>rfl
 | true=>simp [h j e] at q
structure HitI (g : List (List Int)) (z S hit : Nat→Bool) : Prop where
 sound : ∀ v,hit v = true→Hit g z S v
def HitC (g : List (List Int)) (z S hit : Nat→Bool) (i k : Nat) : Prop:=z i = true→∀ j,j < k→j < (g.getD i []).length→z ((g.getD i []).getD j 0).toNat = true→(S ((g.getD i []).getD j 0).toNat = true∨hit ((g.getD i []).getD j 0).toNat = true)→hit i = true
theorem zlY {g : List (List Int)} {z S hit : Nat→Bool} (h : HitI g z S hit) (hz : ∀ v,z v = true→v < g.length) (hc : ∀ i,i < g.length→HitC g z S hit i (g.getD i []).length) (v : Nat) : hit v = true↔Hit g z S v:=by
 refine ⟨h.sound v,fun q=>?_⟩
 induction q with
 | one h k hz' hs =>
  obtain ⟨j,hj,rfl⟩:=zd6 k
  exact hc _ (hz _ h) h j hj hj hz' (.inl hs)
 | more h k hz' _ ih =>
  obtain ⟨j,hj,rfl⟩:=zd6 k
  exact hc _ (hz _ h) h j hj hj hz' (.inr ih)
def c25_1 : PC:=.seq (.seq (.ops [qm 18 6,qm 19 5,q 20 (.len (.tmp 19)),q 21 (.bin .lss (.tmp 18) (.tmp 20))] false) (.cond (.tmp 21) (.skip) (.exit 0))) (.seq (.block 1 (.ops [qm 24 5,qm 25 6,q 26 (.iaddr 1 (.tmp 24) (.tmp 25)),qn (.store 1 (.tmp 26) (.const (.bool true)))] false)) (.ops [qm 22 6,q 23 (.bin .add (.tmp 22) (.const (.int .i64 1))),qm 6 23] false))
def c25_6 : PC:=.seq (.seq (.ops [qm 50 12,qm 51 0,qm 52 11,q 53 (.iaddr 1 (.tmp 51) (.tmp 52)),q 54 (.load1 (.tmp 53)),q 55 (.len (.tmp 54)),q 56 (.bin .lss (.tmp 50) (.tmp 55)),qm 57 56,⟨some 58,.move (.tmp 5),some (57,true),0⟩,⟨some 59,.move (.tmp 11),some (57,true),0⟩,⟨some 60,.iaddr 1 (.tmp 58) (.tmp 59),some (57,true),0⟩,⟨some 61,.load1 (.tmp 60),some (57,true),0⟩,q 62 (.pick (.tmp 57) (.tmp 61) (.const (.bool false))),qm 63 62,⟨some 64,.move (.tmp 9),some (63,true),0⟩,⟨some 65,.move (.tmp 11),some (63,true),0⟩,⟨some 66,.iaddr 1 (.tmp 64) (.tmp 65),some (63,true),0⟩,⟨some 67,.load1 (.tmp 66),some (63,true),0⟩,⟨some 68,.un .not (.tmp 67),some (63,true),0⟩,q 69 (.pick (.tmp 63) (.tmp 68) (.const (.bool false)))] false) (.cond (.tmp 69) (.skip) (.exit 10))) (.seq (.block 11 (.seq (.ops [qm 72 0,qm 73 11,q 74 (.iaddr 1 (.tmp 72) (.tmp 73)),q 75 (.load1 (.tmp 74)),qm 76 12,q 77 (.iaddr 1 (.tmp 75) (.tmp 76)),q 78 (.load1 (.tmp 77)),qm 13 78] false) (.seq (.ops [qm 79 5,qm 80 13,q 81 (.iaddr 1 (.tmp 79) (.tmp 80)),q 82 (.load1 (.tmp 81)),qm 83 82,⟨some 84,.move (.tmp 1),some (83,true),0⟩,⟨some 85,.move (.tmp 8),some (83,true),0⟩,⟨some 86,.iaddr 1 (.tmp 84) (.tmp 85),some (83,true),0⟩,⟨some 87,.load1 (.tmp 86),some (83,true),0⟩,⟨some 88,.move (.tmp 13),some (83,true),0⟩,⟨some 89,.iaddr 1 (.tmp 87) (.tmp 88),some (83,true),0⟩,⟨some 90,.load1 (.tmp 89),some (83,true),0⟩,⟨some 91,.move (.tmp 90),some (83,true),0⟩,⟨some 92,.move (.tmp 9),some (91,false),0⟩,⟨some 93,.move (.tmp 13),some (91,false),0⟩,⟨some 94,.iaddr 1 (.tmp 92) (.tmp 93),some (91,false),0⟩,⟨some 95,.load1 (.tmp 94),some (91,false),0⟩,⟨some 96,.pick (.tmp 91) (.const (.bool true)) (.tmp 95),some (83,true),0⟩,q 97 (.pick (.tmp 83) (.tmp 96) (.const (.bool false)))] false) (.cond (.tmp 97) (.seq (.ops [qm 98 9,qm 99 11,q 100 (.iaddr 1 (.tmp 98) (.tmp 99)),qn (.store 1 (.tmp 100) (.const (.bool true)))] false) (.ops [q 10 (.move (.const (.bool true)))] false)) (.skip))))) (.ops [qm 70 12,q 71 (.bin .add (.tmp 70) (.const (.int .i64 1))),qm 12 71] false))
def c25_5 : PC:=.seq (.seq (.ops [qm 44 11,qm 45 0,q 46 (.len (.tmp 45)),q 47 (.bin .lss (.tmp 44) (.tmp 46))] false) (.cond (.tmp 47) (.skip) (.exit 8))) (.seq (.block 9 (.seq (.ops [q 12 (.move (.const (.int .i64 0)))] false) (.block 10 (.loop c25_6)))) (.ops [qm 48 11,q 49 (.bin .add (.tmp 48) (.const (.int .i64 1))),qm 11 49] false))
def c25_4 : PC:=.seq (.seq (.ops [qm 43 10] false) (.cond (.tmp 43) (.skip) (.exit 6))) (.block 7 (.seq (.ops [q 10 (.move (.const (.bool false)))] false) (.seq (.ops [q 11 (.move (.const (.int .i64 0)))] false) (.block 8 (.loop c25_5)))))
def c25_7 : PC:=.seq (.seq (.ops [qm 101 14,qm 102 0,q 103 (.len (.tmp 102)),q 104 (.bin .lss (.tmp 101) (.tmp 103))] false) (.cond (.tmp 104) (.skip) (.exit 12))) (.seq (.block 13 (.seq (.ops [qm 107 7,qw 108 107 1,⟨some 109,.move (.tmp 5),some (108,false),3⟩,⟨some 110,.move (.tmp 14),some (108,false),3⟩,⟨some 111,.iaddr 1 (.tmp 109) (.tmp 110),some (108,false),15⟩,⟨some 112,.load1 (.tmp 111),some (108,false),31⟩,⟨some 113,.move (.tmp 5),some (108,false),3⟩,⟨some 114,.move (.tmp 14),some (108,false),3⟩,⟨some 115,.iaddr 1 (.tmp 113) (.tmp 114),some (108,false),195⟩,⟨some 116,.load1 (.tmp 115),some (108,false),451⟩,⟨some 117,.move (.tmp 116),some (108,false),963⟩,⟨some 118,.move (.tmp 9),some (117,true),1987⟩,⟨some 119,.move (.tmp 14),some (117,true),1987⟩,⟨some 120,.iaddr 1 (.tmp 118) (.tmp 119),some (117,true),8131⟩,⟨some 121,.load1 (.tmp 120),some (117,true),16323⟩,⟨some 122,.pick (.tmp 117) (.tmp 121) (.const (.bool false)),some (108,false),32707⟩,⟨some 123,.eqb true (.tmp 112) (.tmp 122),some (108,false),65535⟩,qd 124 (.pick (.tmp 108) (.const (.bool true)) (.tmp 123)) 131071,qw 7 124 262143] true) (.ops [qm 125 5,qm 126 14,qm 127 5,qm 128 14,q 129 (.iaddr 1 (.tmp 127) (.tmp 128)),q 130 (.load1 (.tmp 129)),qm 131 130,⟨some 132,.move (.tmp 9),some (131,true),0⟩,⟨some 133,.move (.tmp 14),some (131,true),0⟩,⟨some 134,.iaddr 1 (.tmp 132) (.tmp 133),some (131,true),0⟩,⟨some 135,.load1 (.tmp 134),some (131,true),0⟩,q 136 (.pick (.tmp 131) (.tmp 135) (.const (.bool false))),q 137 (.iaddr 1 (.tmp 125) (.tmp 126)),qn (.store 1 (.tmp 137) (.tmp 136))] false))) (.ops [qm 105 14,q 106 (.bin .add (.tmp 105) (.const (.int .i64 1))),qm 14 106] false))
def c25_3 : PC:=.seq (.seq (.ops [qm 34 8,qm 35 1,q 36 (.len (.tmp 35)),q 37 (.bin .lss (.tmp 34) (.tmp 36))] false) (.cond (.tmp 37) (.skip) (.exit 4))) (.seq (.block 5 (.seq (.ops [qm 40 0,q 41 (.len (.tmp 40)),q 42 (.mslice 1 1 [(.bool false)] (.tmp 41) (.tmp 41)),qm 9 42] false) (.seq (.seq (.ops [q 10 (.move (.const (.bool true)))] false) (.block 6 (.loop c25_4))) (.seq (.ops [q 14 (.move (.const (.int .i64 0)))] false) (.block 12 (.loop c25_7)))))) (.ops [qm 38 8,q 39 (.bin .add (.tmp 38) (.const (.int .i64 1))),qm 8 39] false))
def c25_2 : PC:=.seq (.seq (.ops [qm 33 7] false) (.cond (.tmp 33) (.skip) (.exit 2))) (.block 3 (.seq (.ops [q 7 (.move (.const (.bool false)))] false) (.seq (.ops [q 8 (.move (.const (.int .i64 0)))] false) (.block 4 (.loop c25_3)))))
def c25 : PC:=.seq (.ops [q 4 (.move (.const (.slice none 0 0)))] false) (.seq (.ops [qm 15 0,q 16 (.len (.tmp 15)),q 17 (.mslice 1 1 [(.bool false)] (.tmp 16) (.tmp 16)),qm 5 17] false) (.seq (.seq (.ops [q 6 (.move (.const (.int .i64 0)))] false) (.block 0 (.loop c25_1))) (.seq (.seq (.ops [qm 27 1,q 28 (.len (.tmp 27)),q 29 (.bin .eql (.tmp 28) (.const (.int .i64 0)))] false) (.cond (.tmp 29) (.ops [qm 30 5,q 31 (.append 1 1 (.const (.slice none 0 0)) (.tmp 30)),q 32 (.bslice 1 1 [(.tmp 31)]),qm 1 32] false) (.skip))) (.seq (.seq (.ops [q 7 (.move (.const (.bool true)))] false) (.block 2 (.loop c25_2))) (.seq (.ops [qm 138 5,qm 4 138] false) (.ret))))))
theorem c25_ok : FunOK Tryz.prog 25 139 [.tmp 4] c25:=⟨⟨Tryz.f25,Tryz.func25,rfl,by kernel_rfl,rfl,by kernel_rfl⟩⟩
theorem ref_Ways (g : List (List Int)) (hn : g.length≤1000000) (hin0 : ∀ l∈g,inB l g.length = true) (hF : FitsG g) (F : List (Nat→Bool)) (hFl : F.length≤1000000) (hne : F≠[]) : PCall Tryz.prog 25 [zbe g,dbls g.length F] (dbl g.length (fwB g F)):=by
 have hrow:=fun k=>zbL hin0 k
 have hin : ∀ v x,x∈g.getD v []→x.toNat < g.length:=fun v x hx=>by have:=zaN (hrow v) hx; omega
 refine zag c25_ok (by simp) (by simp [zao,zbm,zev]) ?_ (zbM _ _)
 unfold zbe dbls
 (apply zac; focus (repeat' constructor))
 ((conv=>whnf);repeat(refine⟨rfl,?_⟩;conv=>whnf))
 rw [List.length_map]
 refine ⟨by omega,by omega,by omega,?_⟩
 rw [Int.toNat_natCast,show List.map D.sc [Value.bool false] = [D.sc (.bool false)] from rfl,zdT]
 ((conv=>whnf);repeat(refine⟨rfl,?_⟩;conv=>whnf))
 refine zaT [0,1,5] (fun k : Nat=>[(6,.sc (.int .i64 k))]) (fun k=>[(0,.vec true 0 1 (rbl g.length fun i=>decide (i < k)))]) (fun k=>k≤g.length) (fun k=>g.length - k) 0 ?_
 ((conv=>whnf);repeat(refine⟨rfl,?_⟩;conv=>whnf))
 refine ⟨by omega,by (repeat' (first | exact trivial | refine And.intro rfl ?_)),by simp; rfl,?_⟩
 rintro k hk
 ((conv=>whnf);repeat(refine⟨rfl,?_⟩;conv=>whnf))
 (apply zac; focus (repeat' constructor))
 ((conv=>whnf);repeat(refine⟨rfl,?_⟩;conv=>whnf))
 (refine zab (fun q0=>?_) (fun q0=>?_) <;> (rw [q0]; ((conv=>whnf);repeat(refine⟨rfl,?_⟩;conv=>whnf))))
 ·have q0 : k < g.length:=by ((try simp only[oo,reduceCtorEq]at*)<;>omega)
  (refine ⟨by omega,(by first | omega | (simp; done) | (simp; omega) | (simp only [ll]; omega)),?_⟩; ((conv=>whnf);repeat(refine⟨rfl,?_⟩;conv=>whnf)))
  refine ⟨_,zay k (by omega) q0,?_⟩
  ((conv=>whnf);repeat(refine⟨rfl,?_⟩;conv=>whnf))
  (refine .inl ⟨by (unfold InR; rw [IntKind.wrap_i64]; omega),?_⟩; ((conv=>whnf);repeat(refine⟨rfl,?_⟩;conv=>whnf)))
  refine ⟨k + 1,by omega,by dsimp only; omega,zan (by (repeat' (first | exact trivial | refine And.intro rfl ?_))) ?_⟩
  rw [show 0 + ((k : Nat) : Int).toNat = k by omega,zcw,zbK (g':=fun i=>decide (i < k + 1)) fun i _=>by
   show (if i = k then true else decide (i < k)) = _
   by_cases e : i = k
   ·rw [if_pos e]; simp; omega
   ·rw [if_neg e,Bool.eq_iff_iff]; simp; omega]
  rfl
 have q0 : k = g.length:=by have : ¬ k < g.length:=by ((try simp only[oo,reduceCtorEq]at*)<;>omega)
                            omega
 subst q0
 rw [List.length_map]
 (refine zab (fun q1=>?_) (fun q1=>?_) <;> (rw [q1]; ((conv=>whnf);repeat(refine⟨rfl,?_⟩;conv=>whnf))))
 ·exact absurd (List.eq_nil_of_length_eq_zero (by ((try simp only[oo,reduceCtorEq]at*)<;>omega))) hne
 refine zaT [0,1,5] (fun ((m,z) : Bool × (Nat→Bool))=>[(7,.sc (.bool m))]) (fun (m,z)=>[(0,.vec true 0 1 (rbl g.length z))])
  (fun (m,z)=>(∀ v,Fw g F v→z v = true)∧(∀ v,z v = true→v < g.length)∧(m = false→∀ v,z v = true→∀ S,S∈F→Hit g z S v)) (fun (m,z)=>if m = true then 1 + cz z g.length else 0) (true,fun i=>decide (i < g.length)) ?_
 ((conv=>whnf);repeat(refine⟨rfl,?_⟩;conv=>whnf))
 refine ⟨⟨fun v hv=>by simpa using fw_lt hv,fun v hv=>by simpa using hv,fun q=>by cases q⟩,by (repeat' (first | exact trivial | refine And.intro rfl ?_)),rfl,?_⟩
 rintro ⟨m,z0⟩ ⟨hfw0,hzl0,hst0⟩
 ((conv=>whnf);repeat(refine⟨rfl,?_⟩;conv=>whnf))
 (apply zac; focus (repeat' constructor))
 ((conv=>whnf);repeat(refine⟨rfl,?_⟩;conv=>whnf))
 cases m
 ·((conv=>whnf);repeat(refine⟨rfl,?_⟩;conv=>whnf))
  rw [zbK (g':=fwB g F) fun i hi=>fwB_eq ⟨fun q=>zns hin hzl0 (hst0 rfl) hne q,hfw0 i⟩]
  exact zjV rfl
 ((conv=>whnf);repeat(refine⟨rfl,?_⟩;conv=>whnf))
 refine zaT [0,1,5] (fun ((m,k,z) : Bool × Nat × (Nat→Bool))=>[(7,.sc (.bool m)),(8,.sc (.int .i64 k))]) (fun (m,k,z)=>[(0,.vec true 0 1 (rbl g.length z))])
  (fun (m,k,z)=>k≤F.length∧(∀ v,Fw g F v→z v = true)∧(∀ v,z v = true→z0 v = true)∧(m = true→cz z g.length < cz z0 g.length)∧(m = false→(∀ v,z v = z0 v)∧∀ j,j < k→∀ v,z v = true→Hit g z (F.getD j noT) v)) (fun (m,k,z)=>F.length - k) (false,0,z0) ?_
 ((conv=>whnf);repeat(refine⟨rfl,?_⟩;conv=>whnf))
 refine ⟨⟨by omega,hfw0,fun v h=>h,fun q=>(by cases q),fun _=>⟨fun v=>rfl,fun j hj=>by omega⟩⟩,by (repeat' (first | exact trivial | refine And.intro rfl ?_)),rfl,?_⟩
 clear hst0
 rintro ⟨m,k,z⟩ ⟨hk,hfw,hzz,hmt,hmf⟩
 have hzl : ∀ v,z v = true→v < g.length:=fun v hv=>hzl0 v (hzz v hv)
 ((conv=>whnf);repeat(refine⟨rfl,?_⟩;conv=>whnf))
 (apply zac; focus (repeat' constructor))
 ((conv=>whnf);repeat(refine⟨rfl,?_⟩;conv=>whnf))
 rw [List.length_map]
 (refine zab (fun q0=>?_) (fun q0=>?_) <;> (rw [q0]; ((conv=>whnf);repeat(refine⟨rfl,?_⟩;conv=>whnf))))
 ·have q0 : k < F.length:=by ((try simp only[oo,reduceCtorEq]at*)<;>omega)
  have hS : F.getD k noT∈F:=by rw [List.getD_eq_getElem?_getD,List.getElem?_eq_getElem q0]; exact List.getElem_mem q0
  have hdb:=fun z (hz : z = k)=>zjh (n:=g.length) (F:=F) hz q0
  generalize hSe : F.getD k noT = S at *
  rw [List.length_map]
  refine ⟨by omega,by omega,by omega,?_⟩
  rw [Int.toNat_natCast,show List.map D.sc [Value.bool false] = [D.sc (.bool false)] from rfl,zdT]
  ((conv=>whnf);repeat(refine⟨rfl,?_⟩;conv=>whnf))
  refine zaT [0,1,5,7,8,9] (fun ((r,hit) : Bool × (Nat→Bool))=>[(10,.sc (.bool r))]) (fun (r,hit)=>[(1,.vec true 0 1 (rbl g.length hit))])
   (fun (r,hit)=>HitI g z S hit∧(r = false→∀ i,i < g.length→HitC g z S hit i (g.getD i []).length)) (fun (r,hit)=>if r = true then 1 + unseen hit g.length else 0) (true,noT) ?_
  ((conv=>whnf);repeat(refine⟨rfl,?_⟩;conv=>whnf))
  refine ⟨⟨⟨fun v hv=>by cases hv⟩,fun q=>by cases q⟩,by (repeat' (first | exact trivial | refine And.intro rfl ?_)),rfl,?_⟩
  rintro ⟨r,hit0⟩ ⟨hH0,hC0⟩
  ((conv=>whnf);repeat(refine⟨rfl,?_⟩;conv=>whnf))
  (apply zac; focus (repeat' constructor))
  ((conv=>whnf);repeat(refine⟨rfl,?_⟩;conv=>whnf))
  cases r
  ·have hdone:=zlY hH0 hzl (hC0 rfl)
   ((conv=>whnf);repeat(refine⟨rfl,?_⟩;conv=>whnf))
   refine zaT [0,1,5,8,9] (fun ((m,i) : Bool × Nat)=>[(7,.sc (.bool m)),(14,.sc (.int .i64 i))]) (fun (m,i)=>[(0,.vec true 0 1 (rbl g.length fun v=>if v < i then z v && hit0 v else z v))])
    (fun (m',i)=>i≤g.length∧(m' = true→m = true∨∃ v,v < i∧z v = true∧hit0 v = false)∧(m' = false→m = false∧∀ v,v < i→z v = true→hit0 v = true)) (fun (m,i)=>g.length - i) (m,0) ?_
   ((conv=>whnf);repeat(refine⟨rfl,?_⟩;conv=>whnf))
   refine ⟨⟨by omega,fun q=>.inl q,fun q=>⟨q,fun v hv=>by omega⟩⟩,by (repeat' (first | exact trivial | refine And.intro rfl ?_)),by simp; rfl,?_⟩
   rintro ⟨m',i⟩ ⟨hi,h1,h2⟩
   ((conv=>whnf);repeat(refine⟨rfl,?_⟩;conv=>whnf))
   (apply zac; focus (repeat' constructor))
   ((conv=>whnf);repeat(refine⟨rfl,?_⟩;conv=>whnf))
   rw [List.length_map]
   (refine zab (fun q1=>?_) (fun q1=>?_) <;> (rw [q1]; ((conv=>whnf);repeat(refine⟨rfl,?_⟩;conv=>whnf))))
   ·have q1 : i < g.length:=by ((try simp only[oo,reduceCtorEq]at*)<;>omega)
    have eat : (if i < i then z i && hit0 i else z i) = z i:=if_neg (by omega)
    have eset : rbl g.length (fun v=>if v = i then (z i && hit0 i) else (if v < i then z v && hit0 v else z v)) = rbl g.length (fun v=>if v < i + 1 then z v && hit0 v else z v):=zbK fun v _=>by
     by_cases e : v = i
     ·subst e; rw [if_pos rfl,if_pos (by omega)]
     ·rw [if_neg e]
      by_cases e2 : v < i
      ·rw [if_pos e2,if_pos (by omega)]
      ·rw [if_neg e2,if_neg (by omega)]
    cases zi : z i
    ·rw [zi,Bool.false_and] at eset
     have g1 : m' = true→m = true∨∃ v,v < i + 1∧z v = true∧hit0 v = false:=fun q=>by
      rcases h1 q with h | ⟨v,v1,v2,v3⟩
      ·exact .inl h
      ·exact .inr ⟨v,by omega,v2,v3⟩
     have g2 : m' = false→m = false∧∀ v,v < i + 1→z v = true→hit0 v = true:=fun q=>by
      refine ⟨(h2 q).1,fun v hv hzv=>?_⟩
      by_cases e : v = i
      ·subst e; rw [zi] at hzv; cases hzv
      ·exact (h2 q).2 v (by omega) hzv
     cases m'
     ·((conv=>whnf);repeat(refine⟨rfl,?_⟩;conv=>whnf))
      (refine ⟨by omega,(by first | omega | (simp; done) | (simp; omega) | (simp only [ll]; omega)),?_⟩; ((conv=>whnf);repeat(refine⟨rfl,?_⟩;conv=>whnf)))
      refine ⟨_,zay i (by omega) q1,?_⟩
      rw [eat,zi]
      ((conv=>whnf);repeat(refine⟨rfl,?_⟩;conv=>whnf))
      ((conv=>whnf);repeat(refine⟨rfl,?_⟩;conv=>whnf))
      (refine ⟨by omega,(by first | omega | (simp; done) | (simp; omega) | (simp only [ll]; omega)),?_⟩; ((conv=>whnf);repeat(refine⟨rfl,?_⟩;conv=>whnf)))
      refine ⟨_,zay i (by omega) q1,?_⟩
      rw [eat,zi]
      ((conv=>whnf);repeat(refine⟨rfl,?_⟩;conv=>whnf))
      ((conv=>whnf);repeat(refine⟨rfl,?_⟩;conv=>whnf))
      (refine ⟨by omega,(by first | omega | (simp; done) | (simp; omega) | (simp only [ll]; omega)),?_⟩; ((conv=>whnf);repeat(refine⟨rfl,?_⟩;conv=>whnf)))
      refine ⟨_,zay i (by omega) q1,?_⟩
      rw [eat,zi]
      ((conv=>whnf);repeat(refine⟨rfl,?_⟩;conv=>whnf))
      (refine ⟨by omega,(by first | omega | (simp; done) | (simp; omega) | (simp only [ll]; omega)),?_⟩; ((conv=>whnf);repeat(refine⟨rfl,?_⟩;conv=>whnf)))
      refine ⟨_,zay i (by omega) q1,?_⟩
      ((conv=>whnf);repeat(refine⟨rfl,?_⟩;conv=>whnf))
      (refine .inl ⟨by (unfold InR; rw [IntKind.wrap_i64]; omega),?_⟩; ((conv=>whnf);repeat(refine⟨rfl,?_⟩;conv=>whnf)))
      refine ⟨(false,i + 1),⟨by omega,g1,g2⟩,by dsimp only; omega,zan (by (repeat' (first | exact trivial | refine And.intro rfl ?_))) ?_⟩
      rw [show 0 + ((i : Nat) : Int).toNat = i by omega,zcw,eset]
      rfl
     ·((conv=>whnf);repeat(refine⟨rfl,?_⟩;conv=>whnf))
      ((conv=>whnf);repeat(refine⟨rfl,?_⟩;conv=>whnf))
      (refine ⟨by omega,(by first | omega | (simp; done) | (simp; omega) | (simp only [ll]; omega)),?_⟩; ((conv=>whnf);repeat(refine⟨rfl,?_⟩;conv=>whnf)))
      refine ⟨_,zay i (by omega) q1,?_⟩
      rw [eat,zi]
      ((conv=>whnf);repeat(refine⟨rfl,?_⟩;conv=>whnf))
      (refine ⟨by omega,(by first | omega | (simp; done) | (simp; omega) | (simp only [ll]; omega)),?_⟩; ((conv=>whnf);repeat(refine⟨rfl,?_⟩;conv=>whnf)))
      refine ⟨_,zay i (by omega) q1,?_⟩
      ((conv=>whnf);repeat(refine⟨rfl,?_⟩;conv=>whnf))
      (refine .inl ⟨by (unfold InR; rw [IntKind.wrap_i64]; omega),?_⟩; ((conv=>whnf);repeat(refine⟨rfl,?_⟩;conv=>whnf)))
      refine ⟨(true,i + 1),⟨by omega,g1,g2⟩,by dsimp only; omega,zan (by (repeat' (first | exact trivial | refine And.intro rfl ?_))) ?_⟩
      rw [show 0 + ((i : Nat) : Int).toNat = i by omega,zcw,eset]
      rfl
    ·cases hi' : hit0 i
     ·rw [zi,hi',Bool.true_and] at eset
      have g1 : true = true→m = true∨∃ v,v < i + 1∧z v = true∧hit0 v = false:=fun _=>.inr ⟨i,by omega,zi,hi'⟩
      cases m'
      ·((conv=>whnf);repeat(refine⟨rfl,?_⟩;conv=>whnf))
       (refine ⟨by omega,(by first | omega | (simp; done) | (simp; omega) | (simp only [ll]; omega)),?_⟩; ((conv=>whnf);repeat(refine⟨rfl,?_⟩;conv=>whnf)))
       refine ⟨_,zay i (by omega) q1,?_⟩
       rw [eat,zi]
       ((conv=>whnf);repeat(refine⟨rfl,?_⟩;conv=>whnf))
       ((conv=>whnf);repeat(refine⟨rfl,?_⟩;conv=>whnf))
       (refine ⟨by omega,(by first | omega | (simp; done) | (simp; omega) | (simp only [ll]; omega)),?_⟩; ((conv=>whnf);repeat(refine⟨rfl,?_⟩;conv=>whnf)))
       refine ⟨_,zay i (by omega) q1,?_⟩
       rw [eat,zi]
       ((conv=>whnf);repeat(refine⟨rfl,?_⟩;conv=>whnf))
       (refine ⟨by omega,(by first | omega | (simp; done) | (simp; omega) | (simp only [ll]; omega)),?_⟩; ((conv=>whnf);repeat(refine⟨rfl,?_⟩;conv=>whnf)))
       refine ⟨_,zay i (by omega) q1,?_⟩
       rw [hi']
       ((conv=>whnf);repeat(refine⟨rfl,?_⟩;conv=>whnf))
       ((conv=>whnf);repeat(refine⟨rfl,?_⟩;conv=>whnf))
       (refine ⟨by omega,(by first | omega | (simp; done) | (simp; omega) | (simp only [ll]; omega)),?_⟩; ((conv=>whnf);repeat(refine⟨rfl,?_⟩;conv=>whnf)))
       refine ⟨_,zay i (by omega) q1,?_⟩
       rw [eat,zi]
       ((conv=>whnf);repeat(refine⟨rfl,?_⟩;conv=>whnf))
       (refine ⟨by omega,(by first | omega | (simp; done) | (simp; omega) | (simp only [ll]; omega)),?_⟩; ((conv=>whnf);repeat(refine⟨rfl,?_⟩;conv=>whnf)))
       refine ⟨_,zay i (by omega) q1,?_⟩
       rw [hi']
       ((conv=>whnf);repeat(refine⟨rfl,?_⟩;conv=>whnf))
       (refine ⟨by omega,(by first | omega | (simp; done) | (simp; omega) | (simp only [ll]; omega)),?_⟩; ((conv=>whnf);repeat(refine⟨rfl,?_⟩;conv=>whnf)))
       refine ⟨_,zay i (by omega) q1,?_⟩
       ((conv=>whnf);repeat(refine⟨rfl,?_⟩;conv=>whnf))
       (refine .inl ⟨by (unfold InR; rw [IntKind.wrap_i64]; omega),?_⟩; ((conv=>whnf);repeat(refine⟨rfl,?_⟩;conv=>whnf)))
       refine ⟨(true,i + 1),⟨by omega,g1,fun q=>by cases q⟩,by dsimp only; omega,zan (by (repeat' (first | exact trivial | refine And.intro rfl ?_))) ?_⟩
       rw [show 0 + ((i : Nat) : Int).toNat = i by omega,zcw,eset]
       rfl
      ·((conv=>whnf);repeat(refine⟨rfl,?_⟩;conv=>whnf))
       ((conv=>whnf);repeat(refine⟨rfl,?_⟩;conv=>whnf))
       (refine ⟨by omega,(by first | omega | (simp; done) | (simp; omega) | (simp only [ll]; omega)),?_⟩; ((conv=>whnf);repeat(refine⟨rfl,?_⟩;conv=>whnf)))
       refine ⟨_,zay i (by omega) q1,?_⟩
       rw [eat,zi]
       ((conv=>whnf);repeat(refine⟨rfl,?_⟩;conv=>whnf))
       (refine ⟨by omega,(by first | omega | (simp; done) | (simp; omega) | (simp only [ll]; omega)),?_⟩; ((conv=>whnf);repeat(refine⟨rfl,?_⟩;conv=>whnf)))
       refine ⟨_,zay i (by omega) q1,?_⟩
       rw [hi']
       ((conv=>whnf);repeat(refine⟨rfl,?_⟩;conv=>whnf))
       (refine ⟨by omega,(by first | omega | (simp; done) | (simp; omega) | (simp only [ll]; omega)),?_⟩; ((conv=>whnf);repeat(refine⟨rfl,?_⟩;conv=>whnf)))
       refine ⟨_,zay i (by omega) q1,?_⟩
       ((conv=>whnf);repeat(refine⟨rfl,?_⟩;conv=>whnf))
       (refine .inl ⟨by (unfold InR; rw [IntKind.wrap_i64]; omega),?_⟩; ((conv=>whnf);repeat(refine⟨rfl,?_⟩;conv=>whnf)))
       refine ⟨(true,i + 1),⟨by omega,g1,fun q=>by cases q⟩,by dsimp only; omega,zan (by (repeat' (first | exact trivial | refine And.intro rfl ?_))) ?_⟩
       rw [show 0 + ((i : Nat) : Int).toNat = i by omega,zcw,eset]
       rfl
     ·rw [zi,hi',Bool.true_and] at eset
      have g1 : m' = true→m = true∨∃ v,v < i + 1∧z v = true∧hit0 v = false:=fun q=>by
       rcases h1 q with h | ⟨v,v1,v2,v3⟩
       ·exact .inl h
       ·exact .inr ⟨v,by omega,v2,v3⟩
      have g2 : m' = false→m = false∧∀ v,v < i + 1→z v = true→hit0 v = true:=fun q=>by
       refine ⟨(h2 q).1,fun v hv hzv=>?_⟩
       by_cases e : v = i
       ·subst e; exact hi'
       ·exact (h2 q).2 v (by omega) hzv
      cases m'
      ·((conv=>whnf);repeat(refine⟨rfl,?_⟩;conv=>whnf))
       (refine ⟨by omega,(by first | omega | (simp; done) | (simp; omega) | (simp only [ll]; omega)),?_⟩; ((conv=>whnf);repeat(refine⟨rfl,?_⟩;conv=>whnf)))
       refine ⟨_,zay i (by omega) q1,?_⟩
       rw [eat,zi]
       ((conv=>whnf);repeat(refine⟨rfl,?_⟩;conv=>whnf))
       ((conv=>whnf);repeat(refine⟨rfl,?_⟩;conv=>whnf))
       (refine ⟨by omega,(by first | omega | (simp; done) | (simp; omega) | (simp only [ll]; omega)),?_⟩; ((conv=>whnf);repeat(refine⟨rfl,?_⟩;conv=>whnf)))
       refine ⟨_,zay i (by omega) q1,?_⟩
       rw [eat,zi]
       ((conv=>whnf);repeat(refine⟨rfl,?_⟩;conv=>whnf))
       (refine ⟨by omega,(by first | omega | (simp; done) | (simp; omega) | (simp only [ll]; omega)),?_⟩; ((conv=>whnf);repeat(refine⟨rfl,?_⟩;conv=>whnf)))
       refine ⟨_,zay i (by omega) q1,?_⟩
       rw [hi']
       ((conv=>whnf);repeat(refine⟨rfl,?_⟩;conv=>whnf))
       ((conv=>whnf);repeat(refine⟨rfl,?_⟩;conv=>whnf))
       (refine ⟨by omega,(by first | omega | (simp; done) | (simp; omega) | (simp only [ll]; omega)),?_⟩; ((conv=>whnf);repeat(refine⟨rfl,?_⟩;conv=>whnf)))
       refine ⟨_,zay i (by omega) q1,?_⟩
       rw [eat,zi]
       ((conv=>whnf);repeat(refine⟨rfl,?_⟩;conv=>whnf))
       (refine ⟨by omega,(by first | omega | (simp; done) | (simp; omega) | (simp only [ll]; omega)),?_⟩; ((conv=>whnf);repeat(refine⟨rfl,?_⟩;conv=>whnf)))
       refine ⟨_,zay i (by omega) q1,?_⟩
       rw [hi']
       ((conv=>whnf);repeat(refine⟨rfl,?_⟩;conv=>whnf))
       (refine ⟨by omega,(by first | omega | (simp; done) | (simp; omega) | (simp only [ll]; omega)),?_⟩; ((conv=>whnf);repeat(refine⟨rfl,?_⟩;conv=>whnf)))
       refine ⟨_,zay i (by omega) q1,?_⟩
       ((conv=>whnf);repeat(refine⟨rfl,?_⟩;conv=>whnf))
       (refine .inl ⟨by (unfold InR; rw [IntKind.wrap_i64]; omega),?_⟩; ((conv=>whnf);repeat(refine⟨rfl,?_⟩;conv=>whnf)))
       refine ⟨(false,i + 1),⟨by omega,g1,g2⟩,by dsimp only; omega,zan (by (repeat' (first | exact trivial | refine And.intro rfl ?_))) ?_⟩
       rw [show 0 + ((i : Nat) : Int).toNat = i by omega,zcw,eset]
       rfl
      ·((conv=>whnf);repeat(refine⟨rfl,?_⟩;conv=>whnf))
       ((conv=>whnf);repeat(refine⟨rfl,?_⟩;conv=>whnf))
       (refine ⟨by omega,(by first | omega | (simp; done) | (simp; omega) | (simp only [ll]; omega)),?_⟩; ((conv=>whnf);repeat(refine⟨rfl,?_⟩;conv=>whnf)))
       refine ⟨_,zay i (by omega) q1,?_⟩
       rw [eat,zi]
       ((conv=>whnf);repeat(refine⟨rfl,?_⟩;conv=>whnf))
       (refine ⟨by omega,(by first | omega | (simp; done) | (simp; omega) | (simp only [ll]; omega)),?_⟩; ((conv=>whnf);repeat(refine⟨rfl,?_⟩;conv=>whnf)))
       refine ⟨_,zay i (by omega) q1,?_⟩
       rw [hi']
       ((conv=>whnf);repeat(refine⟨rfl,?_⟩;conv=>whnf))
       (refine ⟨by omega,(by first | omega | (simp; done) | (simp; omega) | (simp only [ll]; omega)),?_⟩; ((conv=>whnf);repeat(refine⟨rfl,?_⟩;conv=>whnf)))
       refine ⟨_,zay i (by omega) q1,?_⟩
       ((conv=>whnf);repeat(refine⟨rfl,?_⟩;conv=>whnf))
       (refine .inl ⟨by (unfold InR; rw [IntKind.wrap_i64]; omega),?_⟩; ((conv=>whnf);repeat(refine⟨rfl,?_⟩;conv=>whnf)))
       refine ⟨(true,i + 1),⟨by omega,g1,g2⟩,by dsimp only; omega,zan (by (repeat' (first | exact trivial | refine And.intro rfl ?_))) ?_⟩
       rw [show 0 + ((i : Nat) : Int).toNat = i by omega,zcw,eset]
       rfl
   ·have q1 : i = g.length:=by have : ¬ i < g.length:=by ((try simp only[oo,reduceCtorEq]at*)<;>omega)
                               omega
    subst q1
    have hz1 : ∀ v,(z v && hit0 v) = true→z v = true:=fun v hv=>by rw [Bool.and_eq_true] at hv; exact hv.1
    rw [zbK (g':=fun v=>z v && hit0 v) fun v hv=>if_pos hv]
    (refine .inl ⟨by (unfold InR; rw [IntKind.wrap_i64]; omega),?_⟩; ((conv=>whnf);repeat(refine⟨rfl,?_⟩;conv=>whnf)))
    refine ⟨(m',k + 1,fun v=>z v && hit0 v),⟨by omega,fun v hv=>?_,fun v hv=>hzz v (hz1 v hv),fun q=>?_,fun q=>?_⟩,by dsimp only; omega,?_⟩
    ·show (z v && hit0 v) = true
     rw [hfw v hv,(hdone v).2 (znr hfw hS hv)]; rfl
    ·rcases h1 q with h | ⟨v,v1,v2,v3⟩
     ·exact Nat.lt_of_le_of_lt (zjD hz1) (hmt h)
     ·exact Nat.lt_of_lt_of_le (cz_lt v1 hz1 v2 (by show (z v && hit0 v) = false; rw [v3,Bool.and_false])) (zjD hzz)
    ·obtain ⟨a1,a2⟩:=h2 q
     obtain ⟨b1,b2⟩:=hmf a1
     have ez : (fun v=>z v && hit0 v) = z:=by
      funext v
      cases hv : z v with
      | false=>rfl
      | true=>show hit0 v = true; exact a2 v (hzl v hv) hv
     rw [ez]
     refine ⟨b1,fun j hj v hv=>?_⟩
     by_cases e : j = k
     ·subst e; rw [hSe]; exact (hdone v).1 (a2 v (hzl v hv) hv)
     ·exact b2 j (by omega) v hv
    ·(refine zal 1 (by simp) rfl ?_ ?_ <;> (repeat' (first | exact trivial | exact rfl | exact DeepM.refl _ | exact DeepML.refl _ | exact DeepMLL.refl _ | refine And.intro ?_ ?_ | (simp [zai,zae,zak,-List.map_take,-List.map_drop]; done))))
  ·((conv=>whnf);repeat(refine⟨rfl,?_⟩;conv=>whnf))
   refine zaT [0,1,5,7,8,9] (fun ((r,i,hit) : Bool × Nat × (Nat→Bool))=>[(10,.sc (.bool r)),(11,.sc (.int .i64 i))]) (fun (r,i,hit)=>[(1,.vec true 0 1 (rbl g.length hit))])
    (fun (r,i,hit)=>i≤g.length∧HitI g z S hit∧(∀ v,hit0 v = true→hit v = true)∧(r = true→unseen hit g.length < unseen hit0 g.length)∧(r = false→∀ b,b < i→HitC g z S hit b (g.getD b []).length)) (fun (r,i,hit)=>g.length - i) (false,0,hit0) ?_
   ((conv=>whnf);repeat(refine⟨rfl,?_⟩;conv=>whnf))
   refine ⟨⟨by omega,hH0,fun v h=>h,fun q=>(by cases q),fun _ b hb=>by omega⟩,by (repeat' (first | exact trivial | refine And.intro rfl ?_)),rfl,?_⟩
   rintro ⟨r,i,hit⟩ ⟨hi,hH,hmo,hrt,hrf⟩
   ((conv=>whnf);repeat(refine⟨rfl,?_⟩;conv=>whnf))
   (apply zac; focus (repeat' constructor))
   ((conv=>whnf);repeat(refine⟨rfl,?_⟩;conv=>whnf))
   rw [List.length_map]
   (refine zab (fun q1=>?_) (fun q1=>?_) <;> (rw [q1]; ((conv=>whnf);repeat(refine⟨rfl,?_⟩;conv=>whnf))))
   ·have q1 : i < g.length:=by ((try simp only[oo,reduceCtorEq]at*)<;>omega)
    have hgF:=hF.at i
    refine zaT [0,1,5,7,8,9,11] (fun ((r,j,hit) : Bool × Nat × (Nat→Bool))=>[(10,.sc (.bool r)),(12,.sc (.int .i64 j))]) (fun (r,j,hit)=>[(1,.vec true 0 1 (rbl g.length hit))])
     (fun (r,j,hit)=>j≤(g.getD i []).length∧HitI g z S hit∧(∀ v,hit0 v = true→hit v = true)∧(r = true→unseen hit g.length < unseen hit0 g.length)∧(r = false→(∀ b,b < i→HitC g z S hit b (g.getD b []).length)∧HitC g z S hit i j)) (fun (r,j,hit)=>(g.getD i []).length - j) (r,0,hit) ?_
    ((conv=>whnf);repeat(refine⟨rfl,?_⟩;conv=>whnf))
    refine ⟨⟨by omega,hH,hmo,hrt,fun q=>⟨hrf q,fun _ j hj=>by omega⟩⟩,by (repeat' (first | exact trivial | refine And.intro rfl ?_)),rfl,?_⟩
    clear hH hmo hrt hrf hH0 hC0 hmt hmf hfw hfw0
    rintro ⟨r,j,hit⟩ ⟨hj,hH,hmo,hrt,hrf⟩
    have out : (j = (g.getD i []).length∨z i = false∨hit i = true)→r = false→∀ b,b < i + 1→HitC g z S hit b (g.getD b []).length:=fun h q b hb=>by
     obtain ⟨c1,c2⟩:=hrf q
     by_cases e : b = i
     ·subst e
      rcases h with h | h | h
      ·rw [← h]; exact c2
      ·intro hz'; rw [h] at hz'; cases hz'
      ·exact fun _ _ _ _ _ _=>h
     ·exact c1 b (by omega)
    ((conv=>whnf);repeat(refine⟨rfl,?_⟩;conv=>whnf))
    (apply zac; focus (repeat' constructor))
    ((conv=>whnf);repeat(refine⟨rfl,?_⟩;conv=>whnf))
    refine ⟨by omega,_,zbx (k:=i) (by omega) q1,?_⟩
    ((conv=>whnf);repeat(refine⟨rfl,?_⟩;conv=>whnf))
    rw [List.length_map]
    (refine zab (fun q2=>?_) (fun q2=>?_) <;> (rw [q2]; ((conv=>whnf);repeat(refine⟨rfl,?_⟩;conv=>whnf))))
    ·have q2 : j < (g.getD i []).length:=by ((try simp only[oo,reduceCtorEq]at*)<;>omega)
     (refine ⟨by omega,(by first | omega | (simp; done) | (simp; omega) | (simp only [ll]; omega)),?_⟩; ((conv=>whnf);repeat(refine⟨rfl,?_⟩;conv=>whnf)))
     refine ⟨_,zay i (by omega) q1,?_⟩
     cases zi : z i
     ·((conv=>whnf);repeat(refine⟨rfl,?_⟩;conv=>whnf))
      have w6h : j = (g.getD i []).length∨z i = false∨hit i = true:=.inr (.inl zi)
      (refine .inl ⟨by (unfold InR; rw [IntKind.wrap_i64]; omega),?_⟩; ((conv=>whnf);repeat(refine⟨rfl,?_⟩;conv=>whnf)))
      exact ⟨(r,i + 1,hit),⟨by omega,hH,hmo,hrt,out w6h⟩,by dsimp only; omega,zan (by (repeat' (first | exact trivial | refine And.intro rfl ?_))) rfl⟩
     ·((conv=>whnf);repeat(refine⟨rfl,?_⟩;conv=>whnf))
      (refine ⟨by omega,(by first | omega | (simp; done) | (simp; omega) | (simp only [ll]; omega)),?_⟩; ((conv=>whnf);repeat(refine⟨rfl,?_⟩;conv=>whnf)))
      refine ⟨_,zay i (by omega) q1,?_⟩
      cases hi' : hit i
      ·((conv=>whnf);repeat(refine⟨rfl,?_⟩;conv=>whnf))
       have hx:=zaN (hrow i) (zaM q2)
       have hxm:=zaM q2
       refine ⟨by omega,_,zbx (k:=i) (by omega) q1,?_⟩
       ((conv=>whnf);repeat(refine⟨rfl,?_⟩;conv=>whnf))
       refine ⟨by omega,_,zaW (l:=g.getD i []) (k:=j) (by omega) q2,?_⟩
       ((conv=>whnf);repeat(refine⟨rfl,?_⟩;conv=>whnf))
       have skip : (z ((g.getD i []).getD j 0).toNat = true→S ((g.getD i []).getD j 0).toNat = false∧hit ((g.getD i []).getD j 0).toNat = false)→r = false→(∀ b,b < i→HitC g z S hit b (g.getD b []).length)∧HitC g z S hit i (j + 1):=fun h q=>by
        obtain ⟨c1,c2⟩:=hrf q
        refine ⟨c1,fun hz' j' hj' hjl hzt hor=>?_⟩
        by_cases e : j' = j
        ·subst e
         obtain ⟨d1,d2⟩:=h hzt
         rw [d1,d2] at hor
         simp at hor
        ·exact c2 hz' j' (by omega) hjl hzt hor
       have hone:=fun (h : z ((g.getD i []).getD j 0).toNat = true) (hs : S ((g.getD i []).getD j 0).toNat = true)=>Hit.one (g:=g) (S:=S) zi hxm h hs
       have hmore:=fun (h : z ((g.getD i []).getD j 0).toNat = true) (hs : hit ((g.getD i []).getD j 0).toNat = true)=>Hit.more (g:=g) (S:=S) zi hxm h (hH.sound _ hs)
       generalize (g.getD i []).getD j 0 = x at *
       obtain ⟨to,rfl⟩ : ∃ to : Nat,x = to:=⟨x.toNat,by omega⟩
       rw [Int.toNat_natCast] at skip hone hmore
       have hto : to < g.length:=by omega
       have hlt:=zeq (s:=hit) (s':=mark hit i) q1 (fun v _ hv=>zfc hv) hi' (zeY _ _)
       have hle:=zfN (n:=g.length) (fun v _ hv=>hmo v hv)
       (refine ⟨by omega,(by first | omega | (simp; done) | (simp; omega) | (simp only [ll]; omega)),?_⟩; ((conv=>whnf);repeat(refine⟨rfl,?_⟩;conv=>whnf)))
       refine ⟨_,zay to (by omega) hto,?_⟩
       cases zt : z to
       ·((conv=>whnf);repeat(refine⟨rfl,?_⟩;conv=>whnf))
        (refine .inl ⟨by (unfold InR; rw [IntKind.wrap_i64]; omega),?_⟩; ((conv=>whnf);repeat(refine⟨rfl,?_⟩;conv=>whnf)))
        exact ⟨(r,j + 1,hit),⟨by omega,hH,hmo,hrt,skip fun q=>by rw [zt] at q; cases q⟩,by dsimp only; omega,zan (by (repeat' (first | exact trivial | refine And.intro rfl ?_))) rfl⟩
       ·((conv=>whnf);repeat(refine⟨rfl,?_⟩;conv=>whnf))
        refine ⟨by omega,_,hdb _ (by omega),?_⟩
        ((conv=>whnf);repeat(refine⟨rfl,?_⟩;conv=>whnf))
        refine ⟨by omega,_,zay to (by omega) hto,?_⟩
        cases st : S to
        ·((conv=>whnf);repeat(refine⟨rfl,?_⟩;conv=>whnf))
         (refine ⟨by omega,(by first | omega | (simp; done) | (simp; omega) | (simp only [ll]; omega)),?_⟩; ((conv=>whnf);repeat(refine⟨rfl,?_⟩;conv=>whnf)))
         refine ⟨_,zay to (by omega) hto,?_⟩
         cases ht : hit to
         ·((conv=>whnf);repeat(refine⟨rfl,?_⟩;conv=>whnf))
          (refine .inl ⟨by (unfold InR; rw [IntKind.wrap_i64]; omega),?_⟩; ((conv=>whnf);repeat(refine⟨rfl,?_⟩;conv=>whnf)))
          exact ⟨(r,j + 1,hit),⟨by omega,hH,hmo,hrt,skip fun _=>⟨st,ht⟩⟩,by dsimp only; omega,zan (by (repeat' (first | exact trivial | refine And.intro rfl ?_))) rfl⟩
         ·have hH' : HitI g z S (mark hit i):=⟨fun v hv=>by
           rcases mark_iff.1 hv with rfl | hv
           ·exact hmore zt ht
           ·exact hH.sound v hv⟩
          ((conv=>whnf);repeat(refine⟨rfl,?_⟩;conv=>whnf))
          (refine ⟨by omega,(by first | omega | (simp; done) | (simp; omega) | (simp only [ll]; omega)),?_⟩; ((conv=>whnf);repeat(refine⟨rfl,?_⟩;conv=>whnf)))
          refine ⟨_,zay i (by omega) q1,?_⟩
          ((conv=>whnf);repeat(refine⟨rfl,?_⟩;conv=>whnf))
          (refine .inl ⟨by (unfold InR; rw [IntKind.wrap_i64]; omega),?_⟩; ((conv=>whnf);repeat(refine⟨rfl,?_⟩;conv=>whnf)))
          refine ⟨(true,j + 1,mark hit i),⟨by omega,hH',fun v hv=>zfc (hmo v hv),fun _=>by omega,fun q=>by cases q⟩,by dsimp only; omega,zan (by (repeat' (first | exact trivial | refine And.intro rfl ?_))) ?_⟩
          rw [zgr (v:=i) (by omega)]
          rfl
        ·have hH' : HitI g z S (mark hit i):=⟨fun v hv=>by
          rcases mark_iff.1 hv with rfl | hv
          ·exact hone zt st
          ·exact hH.sound v hv⟩
         ((conv=>whnf);repeat(refine⟨rfl,?_⟩;conv=>whnf))
         (refine ⟨by omega,(by first | omega | (simp; done) | (simp; omega) | (simp only [ll]; omega)),?_⟩; ((conv=>whnf);repeat(refine⟨rfl,?_⟩;conv=>whnf)))
         refine ⟨_,zay i (by omega) q1,?_⟩
         ((conv=>whnf);repeat(refine⟨rfl,?_⟩;conv=>whnf))
         (refine .inl ⟨by (unfold InR; rw [IntKind.wrap_i64]; omega),?_⟩; ((conv=>whnf);repeat(refine⟨rfl,?_⟩;conv=>whnf)))
         refine ⟨(true,j + 1,mark hit i),⟨by omega,hH',fun v hv=>zfc (hmo v hv),fun _=>by omega,fun q=>by cases q⟩,by dsimp only; omega,zan (by (repeat' (first | exact trivial | refine And.intro rfl ?_))) ?_⟩
         rw [zgr (v:=i) (by omega)]
         rfl
      ·((conv=>whnf);repeat(refine⟨rfl,?_⟩;conv=>whnf))
       have w6h : j = (g.getD i []).length∨z i = false∨hit i = true:=.inr (.inr hi')
       (refine .inl ⟨by (unfold InR; rw [IntKind.wrap_i64]; omega),?_⟩; ((conv=>whnf);repeat(refine⟨rfl,?_⟩;conv=>whnf)))
       exact ⟨(r,i + 1,hit),⟨by omega,hH,hmo,hrt,out w6h⟩,by dsimp only; omega,zan (by (repeat' (first | exact trivial | refine And.intro rfl ?_))) rfl⟩
    ·have q2 : j = (g.getD i []).length:=by have : ¬ j < (g.getD i []).length:=by ((try simp only[oo,reduceCtorEq]at*)<;>omega)
                                            omega
     have w6h : j = (g.getD i []).length∨z i = false∨hit i = true:=.inl q2
     ((conv=>whnf);repeat(refine⟨rfl,?_⟩;conv=>whnf))
     (refine .inl ⟨by (unfold InR; rw [IntKind.wrap_i64]; omega),?_⟩; ((conv=>whnf);repeat(refine⟨rfl,?_⟩;conv=>whnf)))
     exact ⟨(r,i + 1,hit),⟨by omega,hH,hmo,hrt,out w6h⟩,by dsimp only; omega,zan (by (repeat' (first | exact trivial | refine And.intro rfl ?_))) rfl⟩
   ·have q1 : i = g.length:=by have : ¬ i < g.length:=by ((try simp only[oo,reduceCtorEq]at*)<;>omega)
                               omega
    subst q1
    refine ⟨(r,hit),⟨hH,hrf⟩,?_,zan (by (repeat' (first | exact trivial | refine And.intro rfl ?_))) rfl⟩
    dsimp only
    cases r
    ·simp; omega
    ·have:=hrt rfl
     simp; omega
 ·have q0 : k = F.length:=by have : ¬ k < F.length:=by ((try simp only[oo,reduceCtorEq]at*)<;>omega)
                             omega
  subst q0
  refine ⟨(m,z),⟨hfw,hzl,fun q v hv S hS=>?_⟩,?_,zan (by (repeat' (first | exact trivial | refine And.intro rfl ?_))) rfl⟩
  ·obtain ⟨j,hj,rfl⟩:=List.mem_iff_getElem.1 hS
   have:=(hmf q).2 j hj v hv
   rw [List.getD_eq_getElem?_getD,List.getElem?_eq_getElem hj] at this
   exact this
  ·dsimp only
   cases m
   ·simp; omega
   ·have:=hmt rfl
    simp; omega
def c25z_1 : PC:=.seq (.seq (.ops [qm 18 6,qm 19 5,q 20 (.len (.tmp 19)),q 21 (.bin .lss (.tmp 18) (.tmp 20))] false) (.cond (.tmp 21) (.skip) (.exit 0))) (.seq (.block 1 (.ops [qm 24 5,qm 25 6,q 26 (.iaddr 1 (.tmp 24) (.tmp 25)),qn (.store 1 (.tmp 26) (.const (.bool true)))] false)) (.ops [qm 22 6,q 23 (.bin .add (.tmp 22) (.const (.int .i64 1))),qm 6 23] false))
def c25z_6 : PC:=.seq (.seq (.ops [qm 50 12,qm 51 0,qm 52 11,q 53 (.iaddr 1 (.tmp 51) (.tmp 52)),q 54 (.load1 (.tmp 53)),q 55 (.len (.tmp 54)),q 56 (.bin .lss (.tmp 50) (.tmp 55)),qm 57 56,⟨some 58,.move (.tmp 5),some (57,true),0⟩,⟨some 59,.move (.tmp 11),some (57,true),0⟩,⟨some 60,.iaddr 1 (.tmp 58) (.tmp 59),some (57,true),0⟩,⟨some 61,.load1 (.tmp 60),some (57,true),0⟩,q 62 (.pick (.tmp 57) (.tmp 61) (.const (.bool false))),qm 63 62,⟨some 64,.move (.tmp 9),some (63,true),0⟩,⟨some 65,.move (.tmp 11),some (63,true),0⟩,⟨some 66,.iaddr 1 (.tmp 64) (.tmp 65),some (63,true),0⟩,⟨some 67,.load1 (.tmp 66),some (63,true),0⟩,⟨some 68,.un .not (.tmp 67),some (63,true),0⟩,q 69 (.pick (.tmp 63) (.tmp 68) (.const (.bool false)))] false) (.cond (.tmp 69) (.skip) (.exit 10))) (.seq (.block 11 (.seq (.ops [qm 72 0,qm 73 11,q 74 (.iaddr 1 (.tmp 72) (.tmp 73)),q 75 (.load1 (.tmp 74)),qm 76 12,q 77 (.iaddr 1 (.tmp 75) (.tmp 76)),q 78 (.load1 (.tmp 77)),qm 13 78] false) (.seq (.ops [qm 79 5,qm 80 13,q 81 (.iaddr 1 (.tmp 79) (.tmp 80)),q 82 (.load1 (.tmp 81)),qm 83 82,⟨some 84,.move (.tmp 1),some (83,true),0⟩,⟨some 85,.move (.tmp 8),some (83,true),0⟩,⟨some 86,.iaddr 1 (.tmp 84) (.tmp 85),some (83,true),0⟩,⟨some 87,.load1 (.tmp 86),some (83,true),0⟩,⟨some 88,.move (.tmp 13),some (83,true),0⟩,⟨some 89,.iaddr 1 (.tmp 87) (.tmp 88),some (83,true),0⟩,⟨some 90,.load1 (.tmp 89),some (83,true),0⟩,⟨some 91,.move (.tmp 90),some (83,true),0⟩,⟨some 92,.move (.tmp 9),some (91,false),0⟩,⟨some 93,.move (.tmp 13),some (91,false),0⟩,⟨some 94,.iaddr 1 (.tmp 92) (.tmp 93),some (91,false),0⟩,⟨some 95,.load1 (.tmp 94),some (91,false),0⟩,⟨some 96,.pick (.tmp 91) (.const (.bool true)) (.tmp 95),some (83,true),0⟩,q 97 (.pick (.tmp 83) (.tmp 96) (.const (.bool false)))] false) (.cond (.tmp 97) (.seq (.ops [qm 98 9,qm 99 11,q 100 (.iaddr 1 (.tmp 98) (.tmp 99)),qn (.store 1 (.tmp 100) (.const (.bool true)))] false) (.ops [q 10 (.move (.const (.bool true)))] false)) (.skip))))) (.ops [qm 70 12,q 71 (.bin .add (.tmp 70) (.const (.int .i64 1))),qm 12 71] false))
def c25z_5 : PC:=.seq (.seq (.ops [qm 44 11,qm 45 0,q 46 (.len (.tmp 45)),q 47 (.bin .lss (.tmp 44) (.tmp 46))] false) (.cond (.tmp 47) (.skip) (.exit 8))) (.seq (.block 9 (.seq (.ops [q 12 (.move (.const (.int .i64 0)))] false) (.block 10 (.loop c25z_6)))) (.ops [qm 48 11,q 49 (.bin .add (.tmp 48) (.const (.int .i64 1))),qm 11 49] false))
def c25z_4 : PC:=.seq (.seq (.ops [qm 43 10] false) (.cond (.tmp 43) (.skip) (.exit 6))) (.block 7 (.seq (.ops [q 10 (.move (.const (.bool false)))] false) (.seq (.ops [q 11 (.move (.const (.int .i64 0)))] false) (.block 8 (.loop c25z_5)))))
def c25z_7 : PC:=.seq (.seq (.ops [qm 101 14,qm 102 0,q 103 (.len (.tmp 102)),q 104 (.bin .lss (.tmp 101) (.tmp 103))] false) (.cond (.tmp 104) (.skip) (.exit 12))) (.seq (.block 13 (.seq (.ops [qm 107 7,qw 108 107 1,⟨some 109,.move (.tmp 5),some (108,false),3⟩,⟨some 110,.move (.tmp 14),some (108,false),3⟩,⟨some 111,.iaddr 1 (.tmp 109) (.tmp 110),some (108,false),15⟩,⟨some 112,.load1 (.tmp 111),some (108,false),31⟩,⟨some 113,.move (.tmp 5),some (108,false),3⟩,⟨some 114,.move (.tmp 14),some (108,false),3⟩,⟨some 115,.iaddr 1 (.tmp 113) (.tmp 114),some (108,false),195⟩,⟨some 116,.load1 (.tmp 115),some (108,false),451⟩,⟨some 117,.move (.tmp 116),some (108,false),963⟩,⟨some 118,.move (.tmp 9),some (117,true),1987⟩,⟨some 119,.move (.tmp 14),some (117,true),1987⟩,⟨some 120,.iaddr 1 (.tmp 118) (.tmp 119),some (117,true),8131⟩,⟨some 121,.load1 (.tmp 120),some (117,true),16323⟩,⟨some 122,.pick (.tmp 117) (.tmp 121) (.const (.bool false)),some (108,false),32707⟩,⟨some 123,.eqb true (.tmp 112) (.tmp 122),some (108,false),65535⟩,qd 124 (.pick (.tmp 108) (.const (.bool true)) (.tmp 123)) 131071,qw 7 124 262143] true) (.ops [qm 125 5,qm 126 14,qm 127 5,qm 128 14,q 129 (.iaddr 1 (.tmp 127) (.tmp 128)),q 130 (.load1 (.tmp 129)),qm 131 130,⟨some 132,.move (.tmp 9),some (131,true),0⟩,⟨some 133,.move (.tmp 14),some (131,true),0⟩,⟨some 134,.iaddr 1 (.tmp 132) (.tmp 133),some (131,true),0⟩,⟨some 135,.load1 (.tmp 134),some (131,true),0⟩,q 136 (.pick (.tmp 131) (.tmp 135) (.const (.bool false))),q 137 (.iaddr 1 (.tmp 125) (.tmp 126)),qn (.store 1 (.tmp 137) (.tmp 136))] false))) (.ops [qm 105 14,q 106 (.bin .add (.tmp 105) (.const (.int .i64 1))),qm 14 106] false))
def c25z_3 : PC:=.seq (.seq (.ops [qm 34 8,qm 35 1,q 36 (.len (.tmp 35)),q 37 (.bin .lss (.tmp 34) (.tmp 36))] false) (.cond (.tmp 37) (.skip) (.exit 4))) (.seq (.block 5 (.seq (.ops [qm 40 0,q 41 (.len (.tmp 40)),q 42 (.mslice 1 1 [(.bool false)] (.tmp 41) (.tmp 41)),qm 9 42] false) (.seq (.seq (.ops [q 10 (.move (.const (.bool true)))] false) (.block 6 (.loop c25z_4))) (.seq (.ops [q 14 (.move (.const (.int .i64 0)))] false) (.block 12 (.loop c25z_7)))))) (.ops [qm 38 8,q 39 (.bin .add (.tmp 38) (.const (.int .i64 1))),qm 8 39] false))
def c25z_2 : PC:=.seq (.seq (.ops [qm 33 7] false) (.cond (.tmp 33) (.skip) (.exit 2))) (.block 3 (.seq (.ops [q 7 (.move (.const (.bool false)))] false) (.seq (.ops [q 8 (.move (.const (.int .i64 0)))] false) (.block 4 (.loop c25z_3)))))
def c25z : PC:=.seq (.ops [q 4 (.move (.const (.slice none 0 0)))] false) (.seq (.ops [qm 15 0,q 16 (.len (.tmp 15)),q 17 (.mslice 1 1 [(.bool false)] (.tmp 16) (.tmp 16)),qm 5 17] false) (.seq (.seq (.ops [q 6 (.move (.const (.int .i64 0)))] false) (.block 0 (.loop c25z_1))) (.seq (.seq (.ops [qm 27 1,q 28 (.len (.tmp 27)),q 29 (.bin .eql (.tmp 28) (.const (.int .i64 0)))] false) (.cond (.tmp 29) (.stop (.ops [qm 30 5,q 31 (.append 1 1 (.const (.slice none 0 0)) (.tmp 30)),q 32 (.bslice 1 1 [(.tmp 31)]),qm 1 32] false)) (.skip))) (.seq (.seq (.ops [q 7 (.move (.const (.bool true)))] false) (.block 2 (.loop c25z_2))) (.seq (.ops [qm 138 5,qm 4 138] false) (.ret))))))
theorem c25z_ok : FunOK Tryz.prog 25 139 [.tmp 4] c25z:=⟨⟨Tryz.f25,Tryz.func25,rfl,by kernel_rfl,rfl,by kernel_rfl⟩⟩
theorem zof (g : List (List Int)) (hn : g.length≤1000000) (hin0 : ∀ l∈g,inB l g.length = true) (hF : FitsG g)  : PCall Tryz.prog 25 [zbe g,dbls g.length []] (dbl g.length (fwB g [])):=by
 have hrow:=fun k=>zbL hin0 k
 have hin : ∀ v x,x∈g.getD v []→x.toNat < g.length:=fun v x hx=>by have:=zaN (hrow v) hx; omega
 refine zag c25z_ok (by simp) (by simp [zao,zbm,zev]) ?_ (zbM _ _)
 unfold zbe dbls
 (apply zac; focus (repeat' constructor))
 ((conv=>whnf);repeat(refine⟨rfl,?_⟩;conv=>whnf))
 rw [List.length_map]
 refine ⟨by omega,by omega,by omega,?_⟩
 rw [Int.toNat_natCast,show List.map D.sc [Value.bool false] = [D.sc (.bool false)] from rfl,zdT]
 ((conv=>whnf);repeat(refine⟨rfl,?_⟩;conv=>whnf))
 refine zaT [0,1,5] (fun k : Nat=>[(6,.sc (.int .i64 k))]) (fun k=>[(0,.vec true 0 1 (rbl g.length fun i=>decide (i < k)))]) (fun k=>k≤g.length) (fun k=>g.length - k) 0 ?_
 ((conv=>whnf);repeat(refine⟨rfl,?_⟩;conv=>whnf))
 refine ⟨by omega,by (repeat' (first | exact trivial | refine And.intro rfl ?_)),by simp; rfl,?_⟩
 rintro k hk
 ((conv=>whnf);repeat(refine⟨rfl,?_⟩;conv=>whnf))
 (apply zac; focus (repeat' constructor))
 ((conv=>whnf);repeat(refine⟨rfl,?_⟩;conv=>whnf))
 (refine zab (fun q0=>?_) (fun q0=>?_) <;> (rw [q0]; ((conv=>whnf);repeat(refine⟨rfl,?_⟩;conv=>whnf))))
 ·have q0 : k < g.length:=by ((try simp only[oo,reduceCtorEq]at*)<;>omega)
  (refine ⟨by omega,(by first | omega | (simp; done) | (simp; omega) | (simp only [ll]; omega)),?_⟩; ((conv=>whnf);repeat(refine⟨rfl,?_⟩;conv=>whnf)))
  refine ⟨_,zay k (by omega) q0,?_⟩
  ((conv=>whnf);repeat(refine⟨rfl,?_⟩;conv=>whnf))
  (refine .inl ⟨by (unfold InR; rw [IntKind.wrap_i64]; omega),?_⟩; ((conv=>whnf);repeat(refine⟨rfl,?_⟩;conv=>whnf)))
  refine ⟨k + 1,by omega,by dsimp only; omega,zan (by (repeat' (first | exact trivial | refine And.intro rfl ?_))) ?_⟩
  rw [show 0 + ((k : Nat) : Int).toNat = k by omega,zcw,zbK (g':=fun i=>decide (i < k + 1)) fun i _=>by
   show (if i = k then true else decide (i < k)) = _
   by_cases e : i = k
   ·rw [if_pos e]; simp; omega
   ·rw [if_neg e,Bool.eq_iff_iff]; simp; omega]
  rfl
 have q0 : k = g.length:=by have : ¬ k < g.length:=by ((try simp only[oo,reduceCtorEq]at*)<;>omega)
                            omega
 subst q0
 obtain ⟨F,hFe⟩ : ∃ F : List (Nat→Bool),F = [allT]:=⟨_,rfl⟩
 have hne : F≠[]:=by rw [hFe]; simp
 have hFl : F.length≤1000000:=by rw [hFe]; simp
 rw [show dbl g.length (fwB g []) = dbl g.length (fwB g F) from zol fun i _=>by rw [hFe]; exact fw_nil g i]
 ((conv=>whnf);repeat(refine⟨rfl,?_⟩;conv=>whnf))
 refine zfU (fun _ : Unit=>[(0,.lst 1 (g.map fun l=>[zaD l])),(1,.lst 1 (F.map fun S=>[dbl g.length S])),(5,.own 0 0 0 g.length)]) (fun _=>[.vec true 0 1 (rbl g.length fun i=>decide (i < g.length))]) (fun _=>True) ?_ ?_
 ·(apply zac; focus (repeat' constructor))
  ((conv=>whnf);repeat(refine⟨rfl,?_⟩;conv=>whnf))
  refine ⟨by unfold zaj; simp; omega,?_⟩
  ((conv=>whnf);repeat(refine⟨rfl,?_⟩;conv=>whnf))
  refine ⟨(),trivial,?_⟩
  refine zal 1 (by simp) rfl ?_ ?_
  ·refine ⟨.refl _,zaf _ (zbm g),?_,zaf _ (zev _ _),.refl _,Nat.zero_lt_one,trivial⟩
   rw [hFe]
   refine .own _ _ _ _ _ _ _ _ rfl rfl (.cons _ _ _ _ (.cons _ _ _ _ (.own _ _ _ _ _ _ _ _ rfl rfl (zah ?_)) (.refl _)) (.refl _))
   rw [zle,List.drop_zero,List.take_of_length_le (Nat.le_refl _)]
   exact zbK fun i hi=>by simp [hi,allT]
  ·((conv=>whnf);repeat(refine⟨rfl,?_⟩;conv=>whnf))
   (repeat' (first | exact trivial | exact rfl | exact DeepM.refl _ | exact DeepML.refl _ | exact DeepMLL.refl _ | refine And.intro ?_ ?_ | (simp [zai,zae,zak,-List.map_take,-List.map_drop]; done)))
 intro _ _
 (apply zac; focus (repeat' constructor))
 ((conv=>whnf);repeat(refine⟨rfl,?_⟩;conv=>whnf))
 clear hFe
 refine zaT [0,1,5] (fun ((m,z) : Bool × (Nat→Bool))=>[(7,.sc (.bool m))]) (fun (m,z)=>[(0,.vec true 0 1 (rbl g.length z))])
  (fun (m,z)=>(∀ v,Fw g F v→z v = true)∧(∀ v,z v = true→v < g.length)∧(m = false→∀ v,z v = true→∀ S,S∈F→Hit g z S v)) (fun (m,z)=>if m = true then 1 + cz z g.length else 0) (true,fun i=>decide (i < g.length)) ?_
 ((conv=>whnf);repeat(refine⟨rfl,?_⟩;conv=>whnf))
 refine ⟨⟨fun v hv=>by simpa using fw_lt hv,fun v hv=>by simpa using hv,fun q=>by cases q⟩,by (repeat' (first | exact trivial | refine And.intro rfl ?_)),rfl,?_⟩
 rintro ⟨m,z0⟩ ⟨hfw0,hzl0,hst0⟩
 ((conv=>whnf);repeat(refine⟨rfl,?_⟩;conv=>whnf))
 (apply zac; focus (repeat' constructor))
 ((conv=>whnf);repeat(refine⟨rfl,?_⟩;conv=>whnf))
 cases m
 ·((conv=>whnf);repeat(refine⟨rfl,?_⟩;conv=>whnf))
  rw [zbK (g':=fwB g F) fun i hi=>fwB_eq ⟨fun q=>zns hin hzl0 (hst0 rfl) hne q,hfw0 i⟩]
  exact zjV rfl
 ((conv=>whnf);repeat(refine⟨rfl,?_⟩;conv=>whnf))
 refine zaT [0,1,5] (fun ((m,k,z) : Bool × Nat × (Nat→Bool))=>[(7,.sc (.bool m)),(8,.sc (.int .i64 k))]) (fun (m,k,z)=>[(0,.vec true 0 1 (rbl g.length z))])
  (fun (m,k,z)=>k≤F.length∧(∀ v,Fw g F v→z v = true)∧(∀ v,z v = true→z0 v = true)∧(m = true→cz z g.length < cz z0 g.length)∧(m = false→(∀ v,z v = z0 v)∧∀ j,j < k→∀ v,z v = true→Hit g z (F.getD j noT) v)) (fun (m,k,z)=>F.length - k) (false,0,z0) ?_
 ((conv=>whnf);repeat(refine⟨rfl,?_⟩;conv=>whnf))
 refine ⟨⟨by omega,hfw0,fun v h=>h,fun q=>(by cases q),fun _=>⟨fun v=>rfl,fun j hj=>by omega⟩⟩,by (repeat' (first | exact trivial | refine And.intro rfl ?_)),rfl,?_⟩
 clear hst0
 rintro ⟨m,k,z⟩ ⟨hk,hfw,hzz,hmt,hmf⟩
 have hzl : ∀ v,z v = true→v < g.length:=fun v hv=>hzl0 v (hzz v hv)
 ((conv=>whnf);repeat(refine⟨rfl,?_⟩;conv=>whnf))
 (apply zac; focus (repeat' constructor))
 ((conv=>whnf);repeat(refine⟨rfl,?_⟩;conv=>whnf))
 rw [List.length_map]
 (refine zab (fun q0=>?_) (fun q0=>?_) <;> (rw [q0]; ((conv=>whnf);repeat(refine⟨rfl,?_⟩;conv=>whnf))))
 ·have q0 : k < F.length:=by ((try simp only[oo,reduceCtorEq]at*)<;>omega)
  have hS : F.getD k noT∈F:=by rw [List.getD_eq_getElem?_getD,List.getElem?_eq_getElem q0]; exact List.getElem_mem q0
  have hdb:=fun z (hz : z = k)=>zjh (n:=g.length) (F:=F) hz q0
  generalize hSe : F.getD k noT = S at *
  rw [List.length_map]
  refine ⟨by omega,by omega,by omega,?_⟩
  rw [Int.toNat_natCast,show List.map D.sc [Value.bool false] = [D.sc (.bool false)] from rfl,zdT]
  ((conv=>whnf);repeat(refine⟨rfl,?_⟩;conv=>whnf))
  refine zaT [0,1,5,7,8,9] (fun ((r,hit) : Bool × (Nat→Bool))=>[(10,.sc (.bool r))]) (fun (r,hit)=>[(1,.vec true 0 1 (rbl g.length hit))])
   (fun (r,hit)=>HitI g z S hit∧(r = false→∀ i,i < g.length→HitC g z S hit i (g.getD i []).length)) (fun (r,hit)=>if r = true then 1 + unseen hit g.length else 0) (true,noT) ?_
  ((conv=>whnf);repeat(refine⟨rfl,?_⟩;conv=>whnf))
  refine ⟨⟨⟨fun v hv=>by cases hv⟩,fun q=>by cases q⟩,by (repeat' (first | exact trivial | refine And.intro rfl ?_)),rfl,?_⟩
  rintro ⟨r,hit0⟩ ⟨hH0,hC0⟩
  ((conv=>whnf);repeat(refine⟨rfl,?_⟩;conv=>whnf))
  (apply zac; focus (repeat' constructor))
  ((conv=>whnf);repeat(refine⟨rfl,?_⟩;conv=>whnf))
  cases r
  ·have hdone:=zlY hH0 hzl (hC0 rfl)
   ((conv=>whnf);repeat(refine⟨rfl,?_⟩;conv=>whnf))
   refine zaT [0,1,5,8,9] (fun ((m,i) : Bool × Nat)=>[(7,.sc (.bool m)),(14,.sc (.int .i64 i))]) (fun (m,i)=>[(0,.vec true 0 1 (rbl g.length fun v=>if v < i then z v && hit0 v else z v))])
    (fun (m',i)=>i≤g.length∧(m' = true→m = true∨∃ v,v < i∧z v = true∧hit0 v = false)∧(m' = false→m = false∧∀ v,v < i→z v = true→hit0 v = true)) (fun (m,i)=>g.length - i) (m,0) ?_
   ((conv=>whnf);repeat(refine⟨rfl,?_⟩;conv=>whnf))
   refine ⟨⟨by omega,fun q=>.inl q,fun q=>⟨q,fun v hv=>by omega⟩⟩,by (repeat' (first | exact trivial | refine And.intro rfl ?_)),by simp; rfl,?_⟩
   rintro ⟨m',i⟩ ⟨hi,h1,h2⟩
   ((conv=>whnf);repeat(refine⟨rfl,?_⟩;conv=>whnf))
   (apply zac; focus (repeat' constructor))
   ((conv=>whnf);repeat(refine⟨rfl,?_⟩;conv=>whnf))
   rw [List.length_map]
   (refine zab (fun q1=>?_) (fun q1=>?_) <;> (rw [q1]; ((conv=>whnf);repeat(refine⟨rfl,?_⟩;conv=>whnf))))
   ·have q1 : i < g.length:=by ((try simp only[oo,reduceCtorEq]at*)<;>omega)
    have eat : (if i < i then z i && hit0 i else z i) = z i:=if_neg (by omega)
    have eset : rbl g.length (fun v=>if v = i then (z i && hit0 i) else (if v < i then z v && hit0 v else z v)) = rbl g.length (fun v=>if v < i + 1 then z v && hit0 v else z v):=zbK fun v _=>by
     by_cases e : v = i
     ·subst e; rw [if_pos rfl,if_pos (by omega)]
     ·rw [if_neg e]
      by_cases e2 : v < i
      ·rw [if_pos e2,if_pos (by omega)]
      ·rw [if_neg e2,if_neg (by omega)]
    cases zi : z i
    ·rw [zi,Bool.false_and] at eset
     have g1 : m' = true→m = true∨∃ v,v < i + 1∧z v = true∧hit0 v = false:=fun q=>by
      rcases h1 q with h | ⟨v,v1,v2,v3⟩
      ·exact .inl h
      ·exact .inr ⟨v,by omega,v2,v3⟩
     have g2 : m' = false→m = false∧∀ v,v < i + 1→z v = true→hit0 v = true:=fun q=>by
      refine ⟨(h2 q).1,fun v hv hzv=>?_⟩
      by_cases e : v = i
      ·subst e; rw [zi] at hzv; cases hzv
      ·exact (h2 q).2 v (by omega) hzv
     cases m'
     ·((conv=>whnf);repeat(refine⟨rfl,?_⟩;conv=>whnf))
      (refine ⟨by omega,(by first | omega | (simp; done) | (simp; omega) | (simp only [ll]; omega)),?_⟩; ((conv=>whnf);repeat(refine⟨rfl,?_⟩;conv=>whnf)))
      refine ⟨_,zay i (by omega) q1,?_⟩
      rw [eat,zi]
      ((conv=>whnf);repeat(refine⟨rfl,?_⟩;conv=>whnf))
      ((conv=>whnf);repeat(refine⟨rfl,?_⟩;conv=>whnf))
      (refine ⟨by omega,(by first | omega | (simp; done) | (simp; omega) | (simp only [ll]; omega)),?_⟩; ((conv=>whnf);repeat(refine⟨rfl,?_⟩;conv=>whnf)))
      refine ⟨_,zay i (by omega) q1,?_⟩
      rw [eat,zi]
      ((conv=>whnf);repeat(refine⟨rfl,?_⟩;conv=>whnf))
      ((conv=>whnf);repeat(refine⟨rfl,?_⟩;conv=>whnf))
      (refine ⟨by omega,(by first | omega | (simp; done) | (simp; omega) | (simp only [ll]; omega)),?_⟩; ((conv=>whnf);repeat(refine⟨rfl,?_⟩;conv=>whnf)))
      refine ⟨_,zay i (by omega) q1,?_⟩
      rw [eat,zi]
      ((conv=>whnf);repeat(refine⟨rfl,?_⟩;conv=>whnf))
      (refine ⟨by omega,(by first | omega | (simp; done) | (simp; omega) | (simp only [ll]; omega)),?_⟩; ((conv=>whnf);repeat(refine⟨rfl,?_⟩;conv=>whnf)))
      refine ⟨_,zay i (by omega) q1,?_⟩
      ((conv=>whnf);repeat(refine⟨rfl,?_⟩;conv=>whnf))
      (refine .inl ⟨by (unfold InR; rw [IntKind.wrap_i64]; omega),?_⟩; ((conv=>whnf);repeat(refine⟨rfl,?_⟩;conv=>whnf)))
      refine ⟨(false,i + 1),⟨by omega,g1,g2⟩,by dsimp only; omega,zan (by (repeat' (first | exact trivial | refine And.intro rfl ?_))) ?_⟩
      rw [show 0 + ((i : Nat) : Int).toNat = i by omega,zcw,eset]
      rfl
     ·((conv=>whnf);repeat(refine⟨rfl,?_⟩;conv=>whnf))
      ((conv=>whnf);repeat(refine⟨rfl,?_⟩;conv=>whnf))
      (refine ⟨by omega,(by first | omega | (simp; done) | (simp; omega) | (simp only [ll]; omega)),?_⟩; ((conv=>whnf);repeat(refine⟨rfl,?_⟩;conv=>whnf)))
      refine ⟨_,zay i (by omega) q1,?_⟩
      rw [eat,zi]
      ((conv=>whnf);repeat(refine⟨rfl,?_⟩;conv=>whnf))
      (refine ⟨by omega,(by first | omega | (simp; done) | (simp; omega) | (simp only [ll]; omega)),?_⟩; ((conv=>whnf);repeat(refine⟨rfl,?_⟩;conv=>whnf)))
      refine ⟨_,zay i (by omega) q1,?_⟩
      ((conv=>whnf);repeat(refine⟨rfl,?_⟩;conv=>whnf))
      (refine .inl ⟨by (unfold InR; rw [IntKind.wrap_i64]; omega),?_⟩; ((conv=>whnf);repeat(refine⟨rfl,?_⟩;conv=>whnf)))
      refine ⟨(true,i + 1),⟨by omega,g1,g2⟩,by dsimp only; omega,zan (by (repeat' (first | exact trivial | refine And.intro rfl ?_))) ?_⟩
      rw [show 0 + ((i : Nat) : Int).toNat = i by omega,zcw,eset]
      rfl
    ·cases hi' : hit0 i
     ·rw [zi,hi',Bool.true_and] at eset
      have g1 : true = true→m = true∨∃ v,v < i + 1∧z v = true∧hit0 v = false:=fun _=>.inr ⟨i,by omega,zi,hi'⟩
      cases m'
      ·((conv=>whnf);repeat(refine⟨rfl,?_⟩;conv=>whnf))
       (refine ⟨by omega,(by first | omega | (simp; done) | (simp; omega) | (simp only [ll]; omega)),?_⟩; ((conv=>whnf);repeat(refine⟨rfl,?_⟩;conv=>whnf)))
       refine ⟨_,zay i (by omega) q1,?_⟩
       rw [eat,zi]
       ((conv=>whnf);repeat(refine⟨rfl,?_⟩;conv=>whnf))
       ((conv=>whnf);repeat(refine⟨rfl,?_⟩;conv=>whnf))
       (refine ⟨by omega,(by first | omega | (simp; done) | (simp; omega) | (simp only [ll]; omega)),?_⟩; ((conv=>whnf);repeat(refine⟨rfl,?_⟩;conv=>whnf)))
       refine ⟨_,zay i (by omega) q1,?_⟩
       rw [eat,zi]
       ((conv=>whnf);repeat(refine⟨rfl,?_⟩;conv=>whnf))
       (refine ⟨by omega,(by first | omega | (simp; done) | (simp; omega) | (simp only [ll]; omega)),?_⟩; ((conv=>whnf);repeat(refine⟨rfl,?_⟩;conv=>whnf)))
       refine ⟨_,zay i (by omega) q1,?_⟩
       rw [hi']
       ((conv=>whnf);repeat(refine⟨rfl,?_⟩;conv=>whnf))
       ((conv=>whnf);repeat(refine⟨rfl,?_⟩;conv=>whnf))
       (refine ⟨by omega,(by first | omega | (simp; done) | (simp; omega) | (simp only [ll]; omega)),?_⟩; ((conv=>whnf);repeat(refine⟨rfl,?_⟩;conv=>whnf)))
       refine ⟨_,zay i (by omega) q1,?_⟩
       rw [eat,zi]
       ((conv=>whnf);repeat(refine⟨rfl,?_⟩;conv=>whnf))
       (refine ⟨by omega,(by first | omega | (simp; done) | (simp; omega) | (simp only [ll]; omega)),?_⟩; ((conv=>whnf);repeat(refine⟨rfl,?_⟩;conv=>whnf)))
       refine ⟨_,zay i (by omega) q1,?_⟩
       rw [hi']
       ((conv=>whnf);repeat(refine⟨rfl,?_⟩;conv=>whnf))
       (refine ⟨by omega,(by first | omega | (simp; done) | (simp; omega) | (simp only [ll]; omega)),?_⟩; ((conv=>whnf);repeat(refine⟨rfl,?_⟩;conv=>whnf)))
       refine ⟨_,zay i (by omega) q1,?_⟩
       ((conv=>whnf);repeat(refine⟨rfl,?_⟩;conv=>whnf))
       (refine .inl ⟨by (unfold InR; rw [IntKind.wrap_i64]; omega),?_⟩; ((conv=>whnf);repeat(refine⟨rfl,?_⟩;conv=>whnf)))
       refine ⟨(true,i + 1),⟨by omega,g1,fun q=>by cases q⟩,by dsimp only; omega,zan (by (repeat' (first | exact trivial | refine And.intro rfl ?_))) ?_⟩
       rw [show 0 + ((i : Nat) : Int).toNat = i by omega,zcw,eset]
       rfl
      ·((conv=>whnf);repeat(refine⟨rfl,?_⟩;conv=>whnf))
       ((conv=>whnf);repeat(refine⟨rfl,?_⟩;conv=>whnf))
       (refine ⟨by omega,(by first | omega | (simp; done) | (simp; omega) | (simp only [ll]; omega)),?_⟩; ((conv=>whnf);repeat(refine⟨rfl,?_⟩;conv=>whnf)))
       refine ⟨_,zay i (by omega) q1,?_⟩
       rw [eat,zi]
       ((conv=>whnf);repeat(refine⟨rfl,?_⟩;conv=>whnf))
       (refine ⟨by omega,(by first | omega | (simp; done) | (simp; omega) | (simp only [ll]; omega)),?_⟩; ((conv=>whnf);repeat(refine⟨rfl,?_⟩;conv=>whnf)))
       refine ⟨_,zay i (by omega) q1,?_⟩
       rw [hi']
       ((conv=>whnf);repeat(refine⟨rfl,?_⟩;conv=>whnf))
       (refine ⟨by omega,(by first | omega | (simp; done) | (simp; omega) | (simp only [ll]; omega)),?_⟩; ((conv=>whnf);repeat(refine⟨rfl,?_⟩;conv=>whnf)))
       refine ⟨_,zay i (by omega) q1,?_⟩
       ((conv=>whnf);repeat(refine⟨rfl,?_⟩;conv=>whnf))
       (refine .inl ⟨by (unfold InR; rw [IntKind.wrap_i64]; omega),?_⟩; ((conv=>whnf);repeat(refine⟨rfl,?_⟩;conv=>whnf)))
       refine ⟨(true,i + 1),⟨by omega,g1,fun q=>by cases q⟩,by dsimp only; omega,zan (by (repeat' (first | exact trivial | refine And.intro rfl ?_))) ?_⟩
       rw [show 0 + ((i : Nat) : Int).toNat = i by omega,zcw,eset]
       rfl
     ·rw [zi,hi',Bool.true_and] at eset
      have g1 : m' = true→m = true∨∃ v,v < i + 1∧z v = true∧hit0 v = false:=fun q=>by
       rcases h1 q with h | ⟨v,v1,v2,v3⟩
       ·exact .inl h
       ·exact .inr ⟨v,by omega,v2,v3⟩
      have g2 : m' = false→m = false∧∀ v,v < i + 1→z v = true→hit0 v = true:=fun q=>by
       refine ⟨(h2 q).1,fun v hv hzv=>?_⟩
       by_cases e : v = i
       ·subst e; exact hi'
       ·exact (h2 q).2 v (by omega) hzv
      cases m'
      ·((conv=>whnf);repeat(refine⟨rfl,?_⟩;conv=>whnf))
       (refine ⟨by omega,(by first | omega | (simp; done) | (simp; omega) | (simp only [ll]; omega)),?_⟩; ((conv=>whnf);repeat(refine⟨rfl,?_⟩;conv=>whnf)))
       refine ⟨_,zay i (by omega) q1,?_⟩
       rw [eat,zi]
       ((conv=>whnf);repeat(refine⟨rfl,?_⟩;conv=>whnf))
       ((conv=>whnf);repeat(refine⟨rfl,?_⟩;conv=>whnf))
       (refine ⟨by omega,(by first | omega | (simp; done) | (simp; omega) | (simp only [ll]; omega)),?_⟩; ((conv=>whnf);repeat(refine⟨rfl,?_⟩;conv=>whnf)))
       refine ⟨_,zay i (by omega) q1,?_⟩
       rw [eat,zi]
       ((conv=>whnf);repeat(refine⟨rfl,?_⟩;conv=>whnf))
       (refine ⟨by omega,(by first | omega | (simp; done) | (simp; omega) | (simp only [ll]; omega)),?_⟩; ((conv=>whnf);repeat(refine⟨rfl,?_⟩;conv=>whnf)))
       refine ⟨_,zay i (by omega) q1,?_⟩
       rw [hi']
       ((conv=>whnf);repeat(refine⟨rfl,?_⟩;conv=>whnf))
       ((conv=>whnf);repeat(refine⟨rfl,?_⟩;conv=>whnf))
       (refine ⟨by omega,(by first | omega | (simp; done) | (simp; omega) | (simp only [ll]; omega)),?_⟩; ((conv=>whnf);repeat(refine⟨rfl,?_⟩;conv=>whnf)))
       refine ⟨_,zay i (by omega) q1,?_⟩
       rw [eat,zi]
       ((conv=>whnf);repeat(refine⟨rfl,?_⟩;conv=>whnf))
       (refine ⟨by omega,(by first | omega | (simp; done) | (simp; omega) | (simp only [ll]; omega)),?_⟩; ((conv=>whnf);repeat(refine⟨rfl,?_⟩;conv=>whnf)))
       refine ⟨_,zay i (by omega) q1,?_⟩
       rw [hi']
       ((conv=>whnf);repeat(refine⟨rfl,?_⟩;conv=>whnf))
       (refine ⟨by omega,(by first | omega | (simp; done) | (simp; omega) | (simp only [ll]; omega)),?_⟩; ((conv=>whnf);repeat(refine⟨rfl,?_⟩;conv=>whnf)))
       refine ⟨_,zay i (by omega) q1,?_⟩
       ((conv=>whnf);repeat(refine⟨rfl,?_⟩;conv=>whnf))
       (refine .inl ⟨by (unfold InR; rw [IntKind.wrap_i64]; omega),?_⟩; ((conv=>whnf);repeat(refine⟨rfl,?_⟩;conv=>whnf)))
       refine ⟨(false,i + 1),⟨by omega,g1,g2⟩,by dsimp only; omega,zan (by (repeat' (first | exact trivial | refine And.intro rfl ?_))) ?_⟩
       rw [show 0 + ((i : Nat) : Int).toNat = i by omega,zcw,eset]
       rfl
      ·((conv=>whnf);repeat(refine⟨rfl,?_⟩;conv=>whnf))
       ((conv=>whnf);repeat(refine⟨rfl,?_⟩;conv=>whnf))
       (refine ⟨by omega,(by first | omega | (simp; done) | (simp; omega) | (simp only [ll]; omega)),?_⟩; ((conv=>whnf);repeat(refine⟨rfl,?_⟩;conv=>whnf)))
       refine ⟨_,zay i (by omega) q1,?_⟩
       rw [eat,zi]
       ((conv=>whnf);repeat(refine⟨rfl,?_⟩;conv=>whnf))
       (refine ⟨by omega,(by first | omega | (simp; done) | (simp; omega) | (simp only [ll]; omega)),?_⟩; ((conv=>whnf);repeat(refine⟨rfl,?_⟩;conv=>whnf)))
       refine ⟨_,zay i (by omega) q1,?_⟩
       rw [hi']
       ((conv=>whnf);repeat(refine⟨rfl,?_⟩;conv=>whnf))
       (refine ⟨by omega,(by first | omega | (simp; done) | (simp; omega) | (simp only [ll]; omega)),?_⟩; ((conv=>whnf);repeat(refine⟨rfl,?_⟩;conv=>whnf)))
       refine ⟨_,zay i (by omega) q1,?_⟩
       ((conv=>whnf);repeat(refine⟨rfl,?_⟩;conv=>whnf))
       (refine .inl ⟨by (unfold InR; rw [IntKind.wrap_i64]; omega),?_⟩; ((conv=>whnf);repeat(refine⟨rfl,?_⟩;conv=>whnf)))
       refine ⟨(true,i + 1),⟨by omega,g1,g2⟩,by dsimp only; omega,zan (by (repeat' (first | exact trivial | refine And.intro rfl ?_))) ?_⟩
       rw [show 0 + ((i : Nat) : Int).toNat = i by omega,zcw,eset]
       rfl
   ·have q1 : i = g.length:=by have : ¬ i < g.length:=by ((try simp only[oo,reduceCtorEq]at*)<;>omega)
                               omega
    subst q1
    have hz1 : ∀ v,(z v && hit0 v) = true→z v = true:=fun v hv=>by rw [Bool.and_eq_true] at hv; exact hv.1
    rw [zbK (g':=fun v=>z v && hit0 v) fun v hv=>if_pos hv]
    (refine .inl ⟨by (unfold InR; rw [IntKind.wrap_i64]; omega),?_⟩; ((conv=>whnf);repeat(refine⟨rfl,?_⟩;conv=>whnf)))
    refine ⟨(m',k + 1,fun v=>z v && hit0 v),⟨by omega,fun v hv=>?_,fun v hv=>hzz v (hz1 v hv),fun q=>?_,fun q=>?_⟩,by dsimp only; omega,?_⟩
    ·show (z v && hit0 v) = true
     rw [hfw v hv,(hdone v).2 (znr hfw hS hv)]; rfl
    ·rcases h1 q with h | ⟨v,v1,v2,v3⟩
     ·exact Nat.lt_of_le_of_lt (zjD hz1) (hmt h)
     ·exact Nat.lt_of_lt_of_le (cz_lt v1 hz1 v2 (by show (z v && hit0 v) = false; rw [v3,Bool.and_false])) (zjD hzz)
    ·obtain ⟨a1,a2⟩:=h2 q
     obtain ⟨b1,b2⟩:=hmf a1
     have ez : (fun v=>z v && hit0 v) = z:=by
      funext v
      cases hv : z v with
      | false=>rfl
      | true=>show hit0 v = true; exact a2 v (hzl v hv) hv
     rw [ez]
     refine ⟨b1,fun j hj v hv=>?_⟩
     by_cases e : j = k
     ·subst e; rw [hSe]; exact (hdone v).1 (a2 v (hzl v hv) hv)
     ·exact b2 j (by omega) v hv
    ·(refine zal 1 (by simp) rfl ?_ ?_ <;> (repeat' (first | exact trivial | exact rfl | exact DeepM.refl _ | exact DeepML.refl _ | exact DeepMLL.refl _ | refine And.intro ?_ ?_ | (simp [zai,zae,zak,-List.map_take,-List.map_drop]; done))))
  ·((conv=>whnf);repeat(refine⟨rfl,?_⟩;conv=>whnf))
   refine zaT [0,1,5,7,8,9] (fun ((r,i,hit) : Bool × Nat × (Nat→Bool))=>[(10,.sc (.bool r)),(11,.sc (.int .i64 i))]) (fun (r,i,hit)=>[(1,.vec true 0 1 (rbl g.length hit))])
    (fun (r,i,hit)=>i≤g.length∧HitI g z S hit∧(∀ v,hit0 v = true→hit v = true)∧(r = true→unseen hit g.length < unseen hit0 g.length)∧(r = false→∀ b,b < i→HitC g z S hit b (g.getD b []).length)) (fun (r,i,hit)=>g.length - i) (false,0,hit0) ?_
   ((conv=>whnf);repeat(refine⟨rfl,?_⟩;conv=>whnf))
   refine ⟨⟨by omega,hH0,fun v h=>h,fun q=>(by cases q),fun _ b hb=>by omega⟩,by (repeat' (first | exact trivial | refine And.intro rfl ?_)),rfl,?_⟩
   rintro ⟨r,i,hit⟩ ⟨hi,hH,hmo,hrt,hrf⟩
   ((conv=>whnf);repeat(refine⟨rfl,?_⟩;conv=>whnf))
   (apply zac; focus (repeat' constructor))
   ((conv=>whnf);repeat(refine⟨rfl,?_⟩;conv=>whnf))
   rw [List.length_map]
   (refine zab (fun q1=>?_) (fun q1=>?_) <;> (rw [q1]; ((conv=>whnf);repeat(refine⟨rfl,?_⟩;conv=>whnf))))
   ·have q1 : i < g.length:=by ((try simp only[oo,reduceCtorEq]at*)<;>omega)
    have hgF:=hF.at i
    refine zaT [0,1,5,7,8,9,11] (fun ((r,j,hit) : Bool × Nat × (Nat→Bool))=>[(10,.sc (.bool r)),(12,.sc (.int .i64 j))]) (fun (r,j,hit)=>[(1,.vec true 0 1 (rbl g.length hit))])
     (fun (r,j,hit)=>j≤(g.getD i []).length∧HitI g z S hit∧(∀ v,hit0 v = true→hit v = true)∧(r = true→unseen hit g.length < unseen hit0 g.length)∧(r = false→(∀ b,b < i→HitC g z S hit b (g.getD b []).length)∧HitC g z S hit i j)) (fun (r,j,hit)=>(g.getD i []).length - j) (r,0,hit) ?_
    ((conv=>whnf);repeat(refine⟨rfl,?_⟩;conv=>whnf))
    refine ⟨⟨by omega,hH,hmo,hrt,fun q=>⟨hrf q,fun _ j hj=>by omega⟩⟩,by (repeat' (first | exact trivial | refine And.intro rfl ?_)),rfl,?_⟩
    clear hH hmo hrt hrf hH0 hC0 hmt hmf hfw hfw0
    rintro ⟨r,j,hit⟩ ⟨hj,hH,hmo,hrt,hrf⟩
    have out : (j = (g.getD i []).length∨z i = false∨hit i = true)→r = false→∀ b,b < i + 1→HitC g z S hit b (g.getD b []).length:=fun h q b hb=>by
     obtain ⟨c1,c2⟩:=hrf q
     by_cases e : b = i
     ·subst e
      rcases h with h | h | h
      ·rw [← h]; exact c2
      ·intro hz'; rw [h] at hz'; cases hz'
      ·exact fun _ _ _ _ _ _=>h
     ·exact c1 b (by omega)
    ((conv=>whnf);repeat(refine⟨rfl,?_⟩;conv=>whnf))
    (apply zac; focus (repeat' constructor))
    ((conv=>whnf);repeat(refine⟨rfl,?_⟩;conv=>whnf))
    refine ⟨by omega,_,zbx (k:=i) (by omega) q1,?_⟩
    ((conv=>whnf);repeat(refine⟨rfl,?_⟩;conv=>whnf))
    rw [List.length_map]
    (refine zab (fun q2=>?_) (fun q2=>?_) <;> (rw [q2]; ((conv=>whnf);repeat(refine⟨rfl,?_⟩;conv=>whnf))))
    ·have q2 : j < (g.getD i []).length:=by ((try simp only[oo,reduceCtorEq]at*)<;>omega)
     (refine ⟨by omega,(by first | omega | (simp; done) | (simp; omega) | (simp only [ll]; omega)),?_⟩; ((conv=>whnf);repeat(refine⟨rfl,?_⟩;conv=>whnf)))
     refine ⟨_,zay i (by omega) q1,?_⟩
     cases zi : z i
     ·((conv=>whnf);repeat(refine⟨rfl,?_⟩;conv=>whnf))
      have w6h : j = (g.getD i []).length∨z i = false∨hit i = true:=.inr (.inl zi)
      (refine .inl ⟨by (unfold InR; rw [IntKind.wrap_i64]; omega),?_⟩; ((conv=>whnf);repeat(refine⟨rfl,?_⟩;conv=>whnf)))
      exact ⟨(r,i + 1,hit),⟨by omega,hH,hmo,hrt,out w6h⟩,by dsimp only; omega,zan (by (repeat' (first | exact trivial | refine And.intro rfl ?_))) rfl⟩
     ·((conv=>whnf);repeat(refine⟨rfl,?_⟩;conv=>whnf))
      (refine ⟨by omega,(by first | omega | (simp; done) | (simp; omega) | (simp only [ll]; omega)),?_⟩; ((conv=>whnf);repeat(refine⟨rfl,?_⟩;conv=>whnf)))
      refine ⟨_,zay i (by omega) q1,?_⟩
      cases hi' : hit i
      ·((conv=>whnf);repeat(refine⟨rfl,?_⟩;conv=>whnf))
       have hx:=zaN (hrow i) (zaM q2)
       have hxm:=zaM q2
       refine ⟨by omega,_,zbx (k:=i) (by omega) q1,?_⟩
       ((conv=>whnf);repeat(refine⟨rfl,?_⟩;conv=>whnf))
       refine ⟨by omega,_,zaW (l:=g.getD i []) (k:=j) (by omega) q2,?_⟩
       ((conv=>whnf);repeat(refine⟨rfl,?_⟩;conv=>whnf))
       have skip : (z ((g.getD i []).getD j 0).toNat = true→S ((g.getD i []).getD j 0).toNat = false∧hit ((g.getD i []).getD j 0).toNat = false)→r = false→(∀ b,b < i→HitC g z S hit b (g.getD b []).length)∧HitC g z S hit i (j + 1):=fun h q=>by
        obtain ⟨c1,c2⟩:=hrf q
        refine ⟨c1,fun hz' j' hj' hjl hzt hor=>?_⟩
        by_cases e : j' = j
        ·subst e
         obtain ⟨d1,d2⟩:=h hzt
         rw [d1,d2] at hor
         simp at hor
        ·exact c2 hz' j' (by omega) hjl hzt hor
       have hone:=fun (h : z ((g.getD i []).getD j 0).toNat = true) (hs : S ((g.getD i []).getD j 0).toNat = true)=>Hit.one (g:=g) (S:=S) zi hxm h hs
       have hmore:=fun (h : z ((g.getD i []).getD j 0).toNat = true) (hs : hit ((g.getD i []).getD j 0).toNat = true)=>Hit.more (g:=g) (S:=S) zi hxm h (hH.sound _ hs)
       generalize (g.getD i []).getD j 0 = x at *
       obtain ⟨to,rfl⟩ : ∃ to : Nat,x = to:=⟨x.toNat,by omega⟩
       rw [Int.toNat_natCast] at skip hone hmore
       have hto : to < g.length:=by omega
       have hlt:=zeq (s:=hit) (s':=mark hit i) q1 (fun v _ hv=>zfc hv) hi' (zeY _ _)
       have hle:=zfN (n:=g.length) (fun v _ hv=>hmo v hv)
       (refine ⟨by omega,(by first | omega | (simp; done) | (simp; omega) | (simp only [ll]; omega)),?_⟩; ((conv=>whnf);repeat(refine⟨rfl,?_⟩;conv=>whnf)))
       refine ⟨_,zay to (by omega) hto,?_⟩
       cases zt : z to
       ·((conv=>whnf);repeat(refine⟨rfl,?_⟩;conv=>whnf))
        (refine .inl ⟨by (unfold InR; rw [IntKind.wrap_i64]; omega),?_⟩; ((conv=>whnf);repeat(refine⟨rfl,?_⟩;conv=>whnf)))
        exact ⟨(r,j + 1,hit),⟨by omega,hH,hmo,hrt,skip fun q=>by rw [zt] at q; cases q⟩,by dsimp only; omega,zan (by (repeat' (first | exact trivial | refine And.intro rfl ?_))) rfl⟩
       ·((conv=>whnf);repeat(refine⟨rfl,?_⟩;conv=>whnf))
        refine ⟨by omega,_,hdb _ (by omega),?_⟩
        ((conv=>whnf);repeat(refine⟨rfl,?_⟩;conv=>whnf))
        refine ⟨by omega,_,zay to (by omega) hto,?_⟩
        cases st : S to
        ·((conv=>whnf);repeat(refine⟨rfl,?_⟩;conv=>whnf))
         (refine ⟨by omega,(by first | omega | (simp; done) | (simp; omega) | (simp only [ll]; omega)),?_⟩; ((conv=>whnf);repeat(refine⟨rfl,?_⟩;conv=>whnf)))
         refine ⟨_,zay to (by omega) hto,?_⟩
         cases ht : hit to
         ·((conv=>whnf);repeat(refine⟨rfl,?_⟩;conv=>whnf))
          (refine .inl ⟨by (unfold InR; rw [IntKind.wrap_i64]; omega),?_⟩; ((conv=>whnf);repeat(refine⟨rfl,?_⟩;conv=>whnf)))
          exact ⟨(r,j + 1,hit),⟨by omega,hH,hmo,hrt,skip fun _=>⟨st,ht⟩⟩,by dsimp only; omega,zan (by (repeat' (first | exact trivial | refine And.intro rfl ?_))) rfl⟩
         ·have hH' : HitI g z S (mark hit i):=⟨fun v hv=>by
           rcases mark_iff.1 hv with rfl | hv
           ·exact hmore zt ht
           ·exact hH.sound v hv⟩
          ((conv=>whnf);repeat(refine⟨rfl,?_⟩;conv=>whnf))
          (refine ⟨by omega,(by first | omega | (simp; done) | (simp; omega) | (simp only [ll]; omega)),?_⟩; ((conv=>whnf);repeat(refine⟨rfl,?_⟩;conv=>whnf)))
          refine ⟨_,zay i (by omega) q1,?_⟩
          ((conv=>whnf);repeat(refine⟨rfl,?_⟩;conv=>whnf))
          (refine .inl ⟨by (unfold InR; rw [IntKind.wrap_i64]; omega),?_⟩; ((conv=>whnf);repeat(refine⟨rfl,?_⟩;conv=>whnf)))
          refine ⟨(true,j + 1,mark hit i),⟨by omega,hH',fun v hv=>zfc (hmo v hv),fun _=>by omega,fun q=>by cases q⟩,by dsimp only; omega,zan (by (repeat' (first | exact trivial | refine And.intro rfl ?_))) ?_⟩
          rw [zgr (v:=i) (by omega)]
          rfl
        ·have hH' : HitI g z S (mark hit i):=⟨fun v hv=>by
          rcases mark_iff.1 hv with rfl | hv
          ·exact hone zt st
          ·exact hH.sound v hv⟩
         ((conv=>whnf);repeat(refine⟨rfl,?_⟩;conv=>whnf))
         (refine ⟨by omega,(by first | omega | (simp; done) | (simp; omega) | (simp only [ll]; omega)),?_⟩; ((conv=>whnf);repeat(refine⟨rfl,?_⟩;conv=>whnf)))
         refine ⟨_,zay i (by omega) q1,?_⟩
         ((conv=>whnf);repeat(refine⟨rfl,?_⟩;conv=>whnf))
         (refine .inl ⟨by (unfold InR; rw [IntKind.wrap_i64]; omega),?_⟩; ((conv=>whnf);repeat(refine⟨rfl,?_⟩;conv=>whnf)))
         refine ⟨(true,j + 1,mark hit i),⟨by omega,hH',fun v hv=>zfc (hmo v hv),fun _=>by omega,fun q=>by cases q⟩,by dsimp only; omega,zan (by (repeat' (first | exact trivial | refine And.intro rfl ?_))) ?_⟩
         rw [zgr (v:=i) (by omega)]
         rfl
      ·((conv=>whnf);repeat(refine⟨rfl,?_⟩;conv=>whnf))
       have w6h : j = (g.getD i []).length∨z i = false∨hit i = true:=.inr (.inr hi')
       (refine .inl ⟨by (unfold InR; rw [IntKind.wrap_i64]; omega),?_⟩; ((conv=>whnf);repeat(refine⟨rfl,?_⟩;conv=>whnf)))
       exact ⟨(r,i + 1,hit),⟨by omega,hH,hmo,hrt,out w6h⟩,by dsimp only; omega,zan (by (repeat' (first | exact trivial | refine And.intro rfl ?_))) rfl⟩
    ·have q2 : j = (g.getD i []).length:=by have : ¬ j < (g.getD i []).length:=by ((try simp only[oo,reduceCtorEq]at*)<;>omega)
                                            omega
     have w6h : j = (g.getD i []).length∨z i = false∨hit i = true:=.inl q2
     ((conv=>whnf);repeat(refine⟨rfl,?_⟩;conv=>whnf))
     (refine .inl ⟨by (unfold InR; rw [IntKind.wrap_i64]; omega),?_⟩; ((conv=>whnf);repeat(refine⟨rfl,?_⟩;conv=>whnf)))
     exact ⟨(r,i + 1,hit),⟨by omega,hH,hmo,hrt,out w6h⟩,by dsimp only; omega,zan (by (repeat' (first | exact trivial | refine And.intro rfl ?_))) rfl⟩
   ·have q1 : i = g.length:=by have : ¬ i < g.length:=by ((try simp only[oo,reduceCtorEq]at*)<;>omega)
                               omega
    subst q1
    refine ⟨(r,hit),⟨hH,hrf⟩,?_,zan (by (repeat' (first | exact trivial | refine And.intro rfl ?_))) rfl⟩
    dsimp only
    cases r
    ·simp; omega
    ·have:=hrt rfl
     simp; omega
 ·have q0 : k = F.length:=by have : ¬ k < F.length:=by ((try simp only[oo,reduceCtorEq]at*)<;>omega)
                             omega
  subst q0
  refine ⟨(m,z),⟨hfw,hzl,fun q v hv S hS=>?_⟩,?_,zan (by (repeat' (first | exact trivial | refine And.intro rfl ?_))) rfl⟩
  ·obtain ⟨j,hj,rfl⟩:=List.mem_iff_getElem.1 hS
   have:=(hmf q).2 j hj v hv
   rw [List.getD_eq_getElem?_getD,List.getElem?_eq_getElem hj] at this
   exact this
  ·dsimp only
   cases m
   ·simp; omega
   ·have:=hmt rfl
    simp; omega
end
end Go.Proofs.YtojegakfidinaaaGreat
