/-
  Parts of a proof, joined. No statement is proved here.
-/
import Derived.Test.YtojegakfidinaaaGreatZ1
import Derived.Test.YtojegakfidinaaaGreatProg
import Derived.Test.YtojegakfidinaaaGreatZ3
import Derived.Test.YtojegakfidinaaaGreatZ2
import Derived.Shelf.Sort.Plain
namespace Go.Proofs.YtojegakfidinaaaGreat
set_option linter.unusedSimpArgs false
set_option linter.unusedVariables false
set_option maxRecDepth 100000
section
open Go.RowKit
def c60 : PC:=.seq (.ops [q 2 (.move (.const (.int .i64 0)))] false) (.seq (.seq (.ops [qm 3 0] false) (.block 0 (.seq (.seq (.ops [q 5 (.bin .eql (.tmp 3) (.const (.int .i64 1))),qm 4 5] false) (.cond (.tmp 4) (.skip) (.seq (.ops [q 6 (.bin .eql (.tmp 3) (.const (.int .i64 2))),qm 4 6] false) (.cond (.tmp 4) (.skip) (.ops [q 7 (.bin .eql (.tmp 3) (.const (.int .i64 3))),qm 4 7] false))))) (.cond (.tmp 4) (.seq (.ops [q 2 (.move (.const (.int .i64 0)))] false) (.ret)) (.seq (.seq (.ops [q 9 (.bin .eql (.tmp 3) (.const (.int .i64 4))),qm 8 9] false) (.cond (.tmp 8) (.skip) (.seq (.ops [q 10 (.bin .eql (.tmp 3) (.const (.int .i64 7))),qm 8 10] false) (.cond (.tmp 8) (.skip) (.seq (.ops [q 11 (.bin .eql (.tmp 3) (.const (.int .i64 10))),qm 8 11] false) (.cond (.tmp 8) (.skip) (.ops [q 12 (.bin .eql (.tmp 3) (.const (.int .i64 11))),qm 8 12] false))))))) (.cond (.tmp 8) (.seq (.ops [q 2 (.move (.const (.int .i64 1)))] false) (.ret)) (.seq (.seq (.ops [q 14 (.bin .eql (.tmp 3) (.const (.int .i64 5))),qm 13 14] false) (.cond (.tmp 13) (.skip) (.seq (.ops [q 15 (.bin .eql (.tmp 3) (.const (.int .i64 6))),qm 13 15] false) (.cond (.tmp 13) (.skip) (.seq (.ops [q 16 (.bin .eql (.tmp 3) (.const (.int .i64 8))),qm 13 16] false) (.cond (.tmp 13) (.skip) (.ops [q 17 (.bin .eql (.tmp 3) (.const (.int .i64 9))),qm 13 17] false))))))) (.cond (.tmp 13) (.seq (.ops [q 2 (.move (.const (.int .i64 2)))] false) (.ret)) (.skip))))))))) (.seq (.ops [q 2 (.move (.const (.int .i64 (-1))))] false) (.ret)))
theorem c60_ok : FunOK Tryz.prog 60 18 [.tmp 2] c60:=⟨⟨Tryz.f60,Tryz.func60,rfl,by kernel_rfl,rfl,by kernel_rfl⟩⟩
def c29_1 : PC:=.seq (.ops [q 51 (.bin .lss (.tmp 50) (.tmp 49))] false) (.seq (.cond (.tmp 51) (.skip) (.exit 1)) (.seq (.block 2 (.seq (.ops [q 52 (.iaddr 3 (.tmp 48) (.tmp 50)),q 53 (.loadA 3 (.tmp 52)),q 8 (.alloc [(.int .i64 0),(.int .i64 0),(.slice none 0 0)]),qn (.store 3 (.tmp 8) (.tmp 53))] false) (.seq (.ops [q 54 (.loadA 3 (.tmp 8)),qm 55 1,q 56 (.bin .add (.tmp 55) (.const (.int .i64 1))),qm 57 2,q 58 (.call 29 [(.tmp 54),(.tmp 56),(.tmp 57)]),qm 9 58] false) (.seq (.ops [qm 59 9,q 60 (.bin .neq (.tmp 59) (.const (.int .i64 0)))] false) (.cond (.tmp 60) (.seq (.ops [qm 61 9,qm 6 61] false) (.ret)) (.skip)))))) (.ops [q 62 (.bin .add (.tmp 50) (.const (.int .i64 1))),qm 50 62] false)))
def c29 : PC:=.seq (.ops [q 3 (.box (.tmp 0)),q 6 (.move (.const (.int .i64 0)))] false) (.seq (.ops [qm 10 2,q 11 (.nilchk (.tmp 10)),q 12 (.load1 (.tmp 11)),q 13 (.bin .add (.tmp 12) (.const (.int .i64 1))),q 14 (.nilchk (.tmp 10)),qn (.store 1 (.tmp 14) (.tmp 13))] false) (.seq (.block 0 (.seq (.ops [qm 16 2,q 17 (.nilchk (.tmp 16)),q 18 (.load1 (.tmp 17)),q 19 (.bin .gtr (.tmp 18) (.const (.int .i64 60))),qm 15 19] false) (.cond (.tmp 15) (.seq (.ops [q 6 (.move (.const (.int .i64 2)))] false) (.ret)) (.seq (.ops [qm 21 1,q 22 (.bin .gtr (.tmp 21) (.const (.int .i64 20))),qm 20 22] false) (.cond (.tmp 20) (.seq (.ops [q 6 (.move (.const (.int .i64 5)))] false) (.ret)) (.seq (.seq (.ops [q 24 (.faddr 0 (.tmp 3)),qd 25 (.load1 (.tmp 24)) 1,qd 26 (.call 60 [(.tmp 25)]) 3,q 27 (.faddr 2 (.tmp 3)),qd 28 (.load1 (.tmp 27)) 8,qd 29 (.len (.tmp 28)) 24,qd 30 (.bin .neq (.tmp 26) (.tmp 29)) 63,qw 23 30 127] true) (.cond (.tmp 23) (.skip) (.seq (.ops [q 31 (.faddr 1 (.tmp 3)),q 32 (.load1 (.tmp 31)),q 33 (.bin .lss (.tmp 32) (.const (.int .i64 0))),qm 34 33,⟨some 35,.faddr 1 (.tmp 3),some (34,false),0⟩,⟨some 36,.load1 (.tmp 35),some (34,false),0⟩,⟨some 37,.bin .gtr (.tmp 36) (.const (.int .i64 63)),some (34,false),0⟩,q 38 (.pick (.tmp 34) (.const (.bool true)) (.tmp 37)),qm 23 38] false) (.cond (.tmp 23) (.skip) (.ops [q 39 (.faddr 0 (.tmp 3)),q 40 (.load1 (.tmp 39)),q 41 (.bin .neq (.tmp 40) (.const (.int .i64 3))),qm 42 41,⟨some 43,.faddr 1 (.tmp 3),some (42,true),0⟩,⟨some 44,.load1 (.tmp 43),some (42,true),0⟩,⟨some 45,.bin .neq (.tmp 44) (.const (.int .i64 0)),some (42,true),0⟩,q 46 (.pick (.tmp 42) (.tmp 45) (.const (.bool false))),qm 23 46] false))))) (.cond (.tmp 23) (.seq (.ops [q 6 (.move (.const (.int .i64 1)))] false) (.ret)) (.skip)))))))) (.seq (.seq (.ops [q 47 (.faddr 2 (.tmp 3)),q 48 (.load1 (.tmp 47)),q 49 (.len (.tmp 48)),q 50 (.move (.const (.int .i64 0)))] false) (.block 1 (.loop c29_1))) (.seq (.ops [q 6 (.move (.const (.int .i64 0)))] false) (.ret)))))
theorem c29_ok : FunOK Tryz.prog 29 63 [.tmp 6] c29:=⟨⟨Tryz.f29,Tryz.func29,rfl,by kernel_rfl,rfl,by kernel_rfl⟩⟩
def c10 : PC:=.seq (.ops [q 1 (.box (.tmp 0)),q 2 (.move (.const (.int .i64 0)))] false) (.seq (.ops [q 3 (.alloc [(.int .i64 0)]),qn (.store 1 (.tmp 3) (.const (.int .i64 0)))] false) (.seq (.ops [q 4 (.loadA 3 (.tmp 1)),q 5 (.call 29 [(.tmp 4),(.const (.int .i64 1)),(.tmp 3)]),qm 2 5] false) (.ret)))
theorem c10_ok : FunOK Tryz.prog 10 6 [.tmp 2] c10:=⟨⟨Tryz.f10,Tryz.func10,rfl,by kernel_rfl,rfl,by kernel_rfl⟩⟩
theorem ltl_kids (k : Int) : PCall Tryz.prog 60 [.sc (.int .i64 k)] (.sc (.int .i64 (zaE k))):=by
 refine zag c60_ok (by simp) (by simp [zao,Pure]) ?_ (by simp [Pure])
 (apply zac; focus (repeat' constructor))
 ((conv=>whnf);repeat(refine⟨rfl,?_⟩;conv=>whnf))
 repeat' (first | (refine zab (fun h=>?_) (fun h=>?_) <;> (rw [h]; ((conv=>whnf);repeat(refine⟨rfl,?_⟩;conv=>whnf)))) | exact zbW (by simp_all [zaE]))
theorem zpo : ∀ (t : Tree) (d n : Int),Small t→0≤d→d≤21→0≤n→n≤60→ACall Tryz.prog 29 ([za7 t,.sc (.int .i64 d)] ++ .loc 0 0 :: []) [.row true [.sc (.int .i64 n)]] (.sc (.int .i64 (chkT zaE t d n).1)) [.row true [.sc (.int .i64 (chkT zaE t d n).2)]]:=by
 intro t
 induction t using Tree.ind with
 | h t ih =>
  intro d n hs hd hd' hn hn'
  have hsz:=hs.width
  refine zb4 c29_ok (by simp) (by simp) ?_ (by simp [zai]) (by simp [AObj.under,zae,zai])
  (apply zac; focus (repeat' constructor))
  ((conv=>whnf);repeat(refine⟨rfl,?_⟩;conv=>whnf))
  refine .inl ⟨by unfold InR; rw [IntKind.wrap_i64]; omega,?_⟩
  ((conv=>whnf);repeat(refine⟨rfl,?_⟩;conv=>whnf))
  have e:=zot zaE t d n
  (refine zab (fun h1=>?_) (fun h1=>?_) <;> (rw [h1]; ((conv=>whnf);repeat(refine⟨rfl,?_⟩;conv=>whnf))))
  ·simp at h1
   rw [e,if_pos h1]
   exact ⟨rfl,rfl,by simp⟩
  rw [if_neg (by simpa using h1)] at e
  (refine zab (fun h2=>?_) (fun h2=>?_) <;> (rw [h2]; ((conv=>whnf);repeat(refine⟨rfl,?_⟩;conv=>whnf))))
  ·simp at h2
   rw [e,if_pos h2]
   exact ⟨rfl,rfl,by simp⟩
  rw [if_neg (by simpa using h2)] at e
  (refine .inl ⟨_,(ltl_kids t.kind),?_⟩; ((conv=>whnf);repeat(refine⟨rfl,?_⟩;conv=>whnf)))
  have odd : zbb zaE t→chkT zaE t d n = (1,n + 1):=fun h=>by rw [e,if_pos h]
  have bad : zbb zaE t→(D.sc (Value.int IntKind.i64 1) = .sc (.int .i64 (chkT zaE t d n).1)∧List.take [AObj.row true [D.sc (Value.int IntKind.i64 (chkT zaE t d n).2)]].length [AObj.row true [D.sc (Value.int IntKind.i64 (n + 1))],AObj.row true (drow t)] = [AObj.row true [D.sc (Value.int IntKind.i64 (chkT zaE t d n).2)]]∧[AObj.row true [D.sc (Value.int IntKind.i64 (chkT zaE t d n).2)]].length≤2):=fun h=>by
   rw [odd h]; exact ⟨rfl,rfl,by simp⟩
  repeat' (first
   | (refine zab (fun h=>?_) (fun h=>?_) <;> (rw [h]; ((conv=>whnf);repeat(refine⟨rfl,?_⟩;conv=>whnf))))
   | exact bad (by unfold zbb Tree.width; simp_all; try omega))
  all_goals
   have hno : ¬ zbb zaE t:=by unfold zbb Tree.width; simp_all; try omega
   rw [if_neg hno] at e
   have hn1 : n + 1≤60:=by simp at h1; omega
   have hd1 : d≤20:=by simp at h2; omega
   refine zeo (fun x : Nat × Int=>[(1,.sc (.int .i64 d)),(2,.loc 0 0),(48,.lst 3 (t.kids.map zbo)),(49,.sc (.int .i64 (t.kids.map zbo).length)),(50,.sc (.int .i64 x.1))])
    (fun x=>[.row true [.sc (.int .i64 x.2)],.row true (drow t)]) (fun x=>x.1≤t.width∧0≤x.2∧x.2≤60∧chkF zaE t.kids (d + 1) (n + 1) = chkF zaE (t.kids.drop x.1) (d + 1) x.2) (fun x=>t.width - x.1) (0,n + 1)
    ⟨by simp,by simp; omega,hn1,rfl⟩ (zf0 ⟨rfl,rfl,rfl,rfl,rfl,trivial⟩) ?_
   clear h1 h2
   rintro ⟨k,m⟩ ⟨hk,hm0,hm1,hF⟩
   (apply zac; focus (repeat' constructor))
   ((conv=>whnf);repeat(refine⟨rfl,?_⟩;conv=>whnf))
   (refine zab (fun h4=>?_) (fun h4=>?_) <;> (rw [h4]; ((conv=>whnf);repeat(refine⟨rfl,?_⟩;conv=>whnf))))
   ·have hk' : k < t.width:=by simpa [Tree.width] using h4
    rw [zj2 _ hk'] at hF
    refine ⟨by omega,_,zaZ hk',?_⟩
    ((conv=>whnf);repeat(refine⟨rfl,?_⟩;conv=>whnf))
    refine .inl ⟨by unfold InR; rw [IntKind.wrap_i64]; omega,?_⟩
    ((conv=>whnf);repeat(refine⟨rfl,?_⟩;conv=>whnf))
    (refine .inr (.inr (.inl ⟨rfl,_,_,(zka (ih k hk' (d + 1) m (hs.kid hk') (by omega) (by omega) hm0 hm1) (by simp [zao,zap,Pure]) (by simp [zao]) (by simp [zao,Pure]) (by simp [zao,Pure]) (by simp [Pure]) (id:=0) rfl),?_⟩)); ((conv=>whnf);repeat(refine⟨rfl,?_⟩;conv=>whnf)))
    (refine zab (fun h5=>?_) (fun h5=>?_) <;> (rw [h5]; ((conv=>whnf);repeat(refine⟨rfl,?_⟩;conv=>whnf))))
    ·rw [e,hF,if_neg (by simpa using h5)]
     exact ⟨rfl,rfl,by simp⟩
    ·have h5' : (chkT zaE (t.kid k) (d + 1) m).1 = 0:=by simpa using h5
     rw [if_pos h5'] at hF
     have b1:=(zhN zaE (t.kid k) (d + 1) m).1
     have b2:=zjF zaE (t.kid k) (d + 1) m h5'
     refine .inl ⟨by unfold InR; rw [IntKind.wrap_i64]; unfold Tree.width at *; omega,?_⟩
     ((conv=>whnf);repeat(refine⟨rfl,?_⟩;conv=>whnf))
     refine ⟨(k + 1,(chkT zaE (t.kid k) (d + 1) m).2),⟨by dsimp only at *; omega,by dsimp only at *; omega,b2,hF⟩,by dsimp only at *; omega,zal 2 (by simp) rfl ⟨.refl _,by simp [zai],.refl _,by simp [zai],.refl _,by simp only [zai]; exact zaa _ (za3 t),.refl _,by simp [zai],.refl _,by simp [zai],trivial⟩
      ⟨⟨rfl,.refl _,by simp [zae,zai]⟩,⟨rfl,.refl _,zad _ (zar t)⟩,trivial⟩⟩
   ·have hk' : k = t.width:=by have : ¬ k < t.width:=by simpa [Tree.width] using h4
                               dsimp only at hk; omega
    rw [e,hF,hk',zk4]
    exact ⟨rfl,rfl,by simp⟩
theorem zhK (t : Tree) (hs : Small t) : PCall Tryz.prog 10 [za7 t] (.sc (.int .i64 (chk zaE t))):=by
 refine zag c10_ok (by simp) (by simp [zao,zap]) ?_ (by simp [Pure])
 (apply zac; focus (repeat' constructor))
 ((conv=>whnf);repeat(refine⟨rfl,?_⟩;conv=>whnf))
 (refine .inr (.inr (.inl ⟨rfl,_,_,(zka (zpo t 1 0 hs (by omega) (by omega) (by omega) (by omega)) (by simp [zao,zap,Pure]) (by simp [zao]) (by simp [zao,Pure]) (by simp [zao,Pure]) (by simp [Pure]) (H:=[.row true (drow t),.row true [.sc (.int .i64 0)]]) (id:=1) rfl),?_⟩)); ((conv=>whnf);repeat(refine⟨rfl,?_⟩;conv=>whnf)))
 exact .refl _
end
section
open Go.RowKit
def c62_1 : PC:=.seq (.ops [q 15 (.bin .lss (.tmp 14) (.tmp 13))] false) (.seq (.cond (.tmp 15) (.skip) (.exit 0)) (.seq (.block 1 (.seq (.ops [q 16 (.iaddr 3 (.tmp 12) (.tmp 14)),q 17 (.loadA 3 (.tmp 16)),q 5 (.alloc [(.int .i64 0),(.int .i64 0),(.slice none 0 0)]),qn (.store 3 (.tmp 5) (.tmp 17))] false) (.ops [q 18 (.faddr 2 (.tmp 3)),qd 19 (.load1 (.tmp 18)) 1,q 20 (.loadA 3 (.tmp 5)),qd 21 (.call 62 [(.tmp 20)]) 4,qd 22 (.bslice 3 1 [(.tmp 21)]) 12,qd 23 (.append 3 40 (.tmp 19) (.tmp 22)) 31,qd 24 (.faddr 2 (.tmp 3)) 63,qk (.store 1 (.tmp 24) (.tmp 23)) 127] true))) (.ops [q 25 (.bin .add (.tmp 14) (.const (.int .i64 1))),qm 14 25] false)))
def c62 : PC:=.seq (.ops [q 1 (.box (.tmp 0)),q 2 (.alloc [(.int .i64 0),(.int .i64 0),(.slice none 0 0)])] false) (.seq (.ops [q 6 (.faddr 0 (.tmp 1)),q 7 (.load1 (.tmp 6)),q 8 (.faddr 1 (.tmp 1)),q 9 (.load1 (.tmp 8)),q 10 (.build [(.int .i64 0),(.int .i64 0),(.slice none 0 0)] [(0,1,(.tmp 7)),(1,1,(.tmp 9))]),q 3 (.alloc [(.int .i64 0),(.int .i64 0),(.slice none 0 0)]),qn (.store 3 (.tmp 3) (.tmp 10))] false) (.seq (.seq (.ops [q 11 (.faddr 2 (.tmp 1)),q 12 (.load1 (.tmp 11)),q 13 (.len (.tmp 12)),q 14 (.move (.const (.int .i64 0)))] false) (.block 0 (.loop c62_1))) (.seq (.seq (.stop (.ops [q 26 (.faddr 0 (.tmp 1)),q 27 (.load1 (.tmp 26))] false)) (.block 2 (.seq (.ops [q 29 (.bin .eql (.tmp 27) (.const (.int .i64 10))),qm 28 29] false) (.cond (.tmp 28) (.seq (.ops [q 30 (.call 88 [(.const (.int .i64 1))]),q 31 (.faddr 2 (.tmp 3)),qd 32 (.load1 (.tmp 31)) 2,qd 33 (.iaddr 3 (.tmp 32) (.const (.int .i64 0))) 6,qd 34 (.loadA 3 (.tmp 33)) 14,qd 35 (.call 87 [(.const (.int .i64 8)),(.tmp 30),(.tmp 34)]) 31,qk (.store 3 (.tmp 2) (.tmp 35)) 63] true) (.ret)) (.seq (.ops [q 37 (.bin .eql (.tmp 27) (.const (.int .i64 11))),qm 36 37] false) (.cond (.tmp 36) (.seq (.ops [q 38 (.call 88 [(.const (.int .i64 2))]),q 39 (.faddr 2 (.tmp 3)),qd 40 (.load1 (.tmp 39)) 2,qd 41 (.iaddr 3 (.tmp 40) (.const (.int .i64 0))) 6,qd 42 (.loadA 3 (.tmp 41)) 14,qd 43 (.call 87 [(.const (.int .i64 9)),(.tmp 38),(.tmp 42)]) 31,qk (.store 3 (.tmp 2) (.tmp 43)) 63] true) (.ret)) (.skip))))))) (.seq (.ops [q 44 (.loadA 3 (.tmp 3)),qn (.store 3 (.tmp 2) (.tmp 44))] false) (.ret)))))
theorem c62_ok : FunOK Tryz.prog 62 45 [.agg 2 3] c62:=⟨⟨Tryz.f62,Tryz.func62,rfl,by kernel_rfl,rfl,by kernel_rfl⟩⟩
def c61 : PC:=.seq (.ops [q 1 (.box (.tmp 0)),q 2 (.alloc [(.int .i64 0),(.int .i64 0),(.slice none 0 0)]),q 3 (.move (.const (.int .i64 0)))] false) (.seq (.seq (.ops [q 5 (.loadA 3 (.tmp 1)),q 6 (.call 10 [(.tmp 5)]),qm 4 6] false) (.seq (.ops [qm 7 4,q 8 (.bin .neq (.tmp 7) (.const (.int .i64 0)))] false) (.cond (.tmp 8) (.seq (.ops [q 9 (.build [(.int .i64 0),(.int .i64 0),(.slice none 0 0)] []),qm 10 4,qn (.store 3 (.tmp 2) (.tmp 9)),qm 3 10] false) (.ret)) (.skip)))) (.seq (.ops [q 11 (.loadA 3 (.tmp 1)),qn (.store 3 (.tmp 2) (.tmp 11)),q 3 (.move (.const (.int .i64 0)))] false) (.ret)))
theorem c61_ok : FunOK Tryz.prog 61 12 [.agg 2 3,.tmp 3] c61:=⟨⟨Tryz.f61,Tryz.func61,rfl,by kernel_rfl,rfl,by kernel_rfl⟩⟩
def c30 : PC:=.seq (.ops [q 1 (.box (.tmp 0)),q 2 (.alloc [(.int .i64 0),(.int .i64 0),(.slice none 0 0)]),q 3 (.move (.const (.int .i64 0)))] false) (.seq (.seq (.ops [q 5 (.loadA 3 (.tmp 1)),q 6 (.call 10 [(.tmp 5)]),qm 4 6] false) (.seq (.ops [qm 7 4,q 8 (.bin .neq (.tmp 7) (.const (.int .i64 0)))] false) (.cond (.tmp 8) (.seq (.ops [q 9 (.build [(.int .i64 0),(.int .i64 0),(.slice none 0 0)] []),qm 10 4,qn (.store 3 (.tmp 2) (.tmp 9)),qm 3 10] false) (.ret)) (.skip)))) (.seq (.ops [q 11 (.loadA 3 (.tmp 1)),q 12 (.call 62 [(.tmp 11)]),q 13 (.call 61 [(.tmp 12)]),q 14 (.ext 0 (.tmp 13)),q 15 (.ext 1 (.tmp 13)),qn (.store 3 (.tmp 2) (.tmp 14)),qm 3 15] false) (.ret)))
theorem c30_ok : FunOK Tryz.prog 30 16 [.agg 2 3,.tmp 3] c30:=⟨⟨Tryz.f30,Tryz.func30,rfl,by kernel_rfl,rfl,by kernel_rfl⟩⟩
mutual
def zaH : Tree→Tree
 | .node k n ks=>if k = 10 then mk2 8 (mk0 1 0) (plainH ks) else if k = 11 then mk2 9 (mk0 2 0) (plainH ks) else .node k n (zkn ks)
def plainH : List Tree→Tree
 | []=>default
 | t :: _=>zaH t
def zkn : List Tree→List Tree
 | []=>[]
 | t :: r=>zaH t :: zkn r
end
theorem ziV : ∀ l,zkn l = l.map zaH
 | []=>by simp only [zkn,List.map_nil]
 | t :: r=>by simp only [zkn,List.map_cons,ziV r]
theorem zgt (t : Tree) (hw : t.kind = 10∨t.kind = 11→0 < t.width) : zaH t = if t.kind = 10 then mk2 8 (mk0 1 0) (zaH (t.kid 0)) else if t.kind = 11 then mk2 9 (mk0 2 0) (zaH (t.kid 0)) else .node t.kind t.num (t.kids.map zaH):=by
 cases t with
 | node k n ks =>
  rw [zaH,ziV]
  rw [show (Tree.node k n ks).kind = k from rfl] at hw ⊢
  by_cases h : k = 10
  ·rw [if_pos h,if_pos h]
   cases ks with
   | nil=>exact absurd (hw (.inl h)) (by simp [Tree.width,Tree.kids])
   | cons a r=>rfl
  ·rw [if_neg h,if_neg h]
   by_cases h' : k = 11
   ·rw [if_pos h',if_pos h']
    cases ks with
    | nil=>exact absurd (hw (.inr h')) (by simp [Tree.width,Tree.kids])
    | cons a r=>rfl
   ·rw [if_neg h',if_neg h']; rfl
theorem zlJ {k n : Int} {ks : List Tree} (h : ¬ zbb zaE (.node k n ks)) (hk : ∀ u∈ks,u.wf zaE) : (Tree.node k n ks).wf zaE:=(zcO _ _).2 ⟨h,hk⟩
theorem wf_map {t : Tree} {k n : Int} {f : Tree→Tree} (hw : t.wf zaE) (hk : zaE k = zaE t.kind) (h3 : k≠3→n = 0) (hn : 0≤n∧n≤63) (hf : ∀ j,j < t.width→(f (t.kid j)).wf zaE) : (Tree.node k n (t.kids.map f)).wf zaE:=by
 have h0:=((zcO _ _).1 hw).1
 refine zlJ ?_ fun u hu=>?_
 ·unfold zbb at *
  have e1 : (Tree.node k n (t.kids.map f)).kind = k:=rfl
  have e2 : (Tree.node k n (t.kids.map f)).num = n:=rfl
  have e3 : (Tree.node k n (t.kids.map f)).width = t.width:=by simp [Tree.width,Tree.kids]
  rw [e1,e2,e3,hk]
  omega
 ·obtain ⟨v,hv,rfl⟩:=List.mem_map.1 hu
  obtain ⟨i,hi,rfl⟩:=List.mem_iff_getElem.1 hv
  have:=hf i hi
  rwa [Tree.kid_get hi] at this
theorem znn {t : Tree} (hw : t.wf zaE) : 0≤t.num∧t.num≤63∧(t.kind≠3→t.num = 0):=by
 have h0:=((zcO _ _).1 hw).1
 unfold zbb at h0
 omega
theorem wf_mk0 {k n : Int} (h : k = 1∨k = 2∨k = 3) (hn : 0≤n∧n≤63) (h3 : k≠3→n = 0) : (mk0 k n).wf zaE:=zlJ (by
 unfold zbb
 have e1 : (Tree.node k n []).kind = k:=rfl
 have e2 : (Tree.node k n []).num = n:=rfl
 have e3 : (Tree.node k n []).width = 0:=rfl
 rw [e1,e2,e3]
 rcases h with rfl | rfl | rfl <;> simp [zaE] <;> omega) (by simp)
theorem wf_mk2 {k : Int} {a b : Tree} (h : k = 5∨k = 6∨k = 8∨k = 9) (ha : a.wf zaE) (hb : b.wf zaE) : (mk2 k a b).wf zaE:=zlJ (by
 unfold zbb
 have e1 : (Tree.node k 0 [a,b]).kind = k:=rfl
 have e2 : (Tree.node k 0 [a,b]).num = 0:=rfl
 have e3 : (Tree.node k 0 [a,b]).width = 2:=rfl
 rw [e1,e2,e3]
 rcases h with rfl | rfl | rfl | rfl <;> simp [zaE]) (by simpa using ⟨ha,hb⟩)
theorem zcD {t : Tree} (hw : t.wf zaE) (h : t.kind = 4∨t.kind = 7∨t.kind = 10∨t.kind = 11) : 0 < t.width:=by
 have:=zcp ((zcO _ _).1 hw).1
 omega
theorem zlX : ∀ (t : Tree),t.wf zaE→(zaH t).wf zaE:=by
 intro t
 induction t using Tree.ind with
 | h t ih =>
  intro hw
  have hn:=znn hw
  rw [zgt t fun h=>zcD hw (by omega)]
  by_cases h10 : t.kind = 10
  ·rw [if_pos h10]
   have h0:=zcD hw (by omega)
   exact wf_mk2 (by omega) (wf_mk0 (by omega) (by omega) (by omega)) (ih 0 h0 (zbB hw h0))
  ·rw [if_neg h10]
   by_cases h11 : t.kind = 11
   ·rw [if_pos h11]
    have h0:=zcD hw (by omega)
    exact wf_mk2 (by omega) (wf_mk0 (by omega) (by omega) (by omega)) (ih 0 h0 (zbB hw h0))
   ·rw [if_neg h11]
    exact wf_map hw rfl (by omega) (by omega) fun j hj=>ih j hj (zbB hw hj)
theorem zne : ∀ t : Tree,t.wf zaE→PCall Tryz.prog 62 [za7 t] (za7 (zaH t)):=by
 intro t
 induction t using Tree.ind with
 | h t ih =>
  intro hwf
  have hs:=zd9 t hwf
  have hsz:=hs.width
  have har:=zcp ((zcO _ _).1 hwf).1
  refine zag c62_ok (by simp) (by simp [zao,zap]) ?_ (zap _)
  have hE:=zgt t fun h=>zcD hwf (by omega)
  (apply zac; focus (repeat' constructor))
  ((conv=>whnf);repeat(refine⟨rfl,?_⟩;conv=>whnf))
  refine zeo (fun k : Nat=>[(1,.loc 0 0),(2,.loc 1 0),(3,.loc 2 0),(12,.lst 3 (t.kids.map zbo)),(13,.sc (.int .i64 (t.kids.map zbo).length)),(14,.sc (.int .i64 k))])
   (fun k=>[.row true (drow t),.row true [.sc (.int .i64 0),.sc (.int .i64 0),.sc (.slice none 0 0)],.row true [.sc (.int .i64 t.kind),.sc (.int .i64 t.num),.own 3 k 0 k],.vec true k 3 ((t.kids.take k).map fun u=>drow (zaH u))])
   (fun k=>k≤t.width) (fun k=>t.width - k) 0 (by omega) (zb1 (zbp 2 2 3 (by simp) rfl rfl) (zf0 ⟨rfl,rfl,rfl,rfl,rfl,rfl,trivial⟩)) ?_
  rintro k hk
  (apply zac; focus (repeat' constructor))
  ((conv=>whnf);repeat(refine⟨rfl,?_⟩;conv=>whnf))
  (refine zab (fun h1=>?_) (fun h1=>?_) <;> (rw [h1]; ((conv=>whnf);repeat(refine⟨rfl,?_⟩;conv=>whnf))))
  ·have hk' : k < t.width:=by simpa [Tree.width] using h1
   refine ⟨by omega,_,zaZ hk',?_⟩
   ((conv=>whnf);repeat(refine⟨rfl,?_⟩;conv=>whnf))
   (refine .inl ⟨_,(ih k hk' (zbB hwf hk')),?_⟩; ((conv=>whnf);repeat(refine⟨rfl,?_⟩;conv=>whnf)))
   refine ⟨by unfold zaj; simp only [List.drop_zero,List.take_succ_cons,List.take_zero,List.length_cons,List.length_nil]; omega,?_⟩
   ((conv=>whnf);repeat(refine⟨rfl,?_⟩;conv=>whnf))
   refine .inl ⟨by unfold InR; rw [IntKind.wrap_i64]; unfold Tree.width at *; omega,?_⟩
   ((conv=>whnf);repeat(refine⟨rfl,?_⟩;conv=>whnf))
   refine ⟨k + 1,by omega,by dsimp only; omega,zal 4 (by simp) rfl ⟨.refl _,by simp [zai],.refl _,by simp [zai],.refl _,by simp [zai],.refl _,by simp only [zai]; exact zaa _ (za3 t),.refl _,by simp [zai],.refl _,by simp [zai],trivial⟩
    ⟨⟨rfl,.refl _,zad _ (zar t)⟩,⟨rfl,.refl _,by simp [zae,zai]⟩,⟨rfl,.refl _,by simp [zae,zai]⟩,⟨rfl,rfl,rfl,zah (zkJ _ (kid_get? hk')),zaa _ (zas _ (fun u=>zar _) _)⟩,trivial⟩⟩
  ·have hk' : k = t.width:=by have : ¬ k < t.width:=by simpa [Tree.width] using h1
                              omega
   subst hk'
   refine zaA (zej (zfH 3) (env':=[(1,.loc 0 0),(2,.loc 1 0),(3,.loc 2 0)]) (H':=[.row true (drow t),.row true [.sc (.int .i64 0),.sc (.int .i64 0),.sc (.slice none 0 0)],.row true [.sc (.int .i64 t.kind),.sc (.int .i64 t.num),.lst 3 ((t.kids.map zaH).map zbo)],.vec false t.width 3 ((t.kids.take t.width).map fun u=>drow (zaH u))])
    ⟨.refl _,.refl _,.refl _,trivial⟩ ⟨⟨.inl rfl,(fun h=>by cases h),.refl _⟩,⟨.inl rfl,(fun h=>by cases h),.refl _⟩,⟨.inl rfl,(fun h=>by cases h),.cons _ _ _ _ (.refl _) (.cons _ _ _ _ (.refl _) (.cons _ _ _ _ (.own 3 _ _ _ _ _ _ _ rfl rfl (zah (by rw [List.drop_zero,List.take_of_length_le (by simp [Tree.width]),Tree.width,List.take_length,List.map_map]; exact List.map_congr_left fun u _=>(zcV _).symm))) (.refl _)))⟩,⟨.inr ⟨rfl,rfl⟩,fun _=>rfl,rfl,rfl,.refl _⟩,trivial⟩) ?_
   have k0 : 0 < t.width→((t.kids.map zaH).map zbo)[0]? = some (drow (zaH (t.kid 0))):=fun h=>by
    rw [List.getElem?_map,List.getElem?_map,kid_get? h]; simp [zcV]
   (apply zac; focus (repeat' constructor))
   ((conv=>whnf);repeat(refine⟨rfl,?_⟩;conv=>whnf))
   (refine zab (fun h10=>?_) (fun h10=>?_) <;> (rw [h10]; ((conv=>whnf);repeat(refine⟨rfl,?_⟩;conv=>whnf))))
   ·have h10 : t.kind = 10:=by simpa using h10
    rw [if_pos h10] at hE
    (refine .inl ⟨_,(zkt 1),?_⟩; ((conv=>whnf);repeat(refine⟨rfl,?_⟩;conv=>whnf)))
    refine ⟨by omega,_,k0 (zcD hwf (by omega)),?_⟩
    ((conv=>whnf);repeat(refine⟨rfl,?_⟩;conv=>whnf))
    (refine .inl ⟨_,(zlS 8 (mk0 1 0) (zaH (t.kid 0))),?_⟩; ((conv=>whnf);repeat(refine⟨rfl,?_⟩;conv=>whnf)))
    exact zhV hE (.refl _)
   have h10 : ¬ t.kind = 10:=by simpa using h10
   rw [if_neg h10] at hE
   (refine zab (fun h11=>?_) (fun h11=>?_) <;> (rw [h11]; ((conv=>whnf);repeat(refine⟨rfl,?_⟩;conv=>whnf))))
   ·have h11 : t.kind = 11:=by simpa using h11
    rw [if_pos h11] at hE
    (refine .inl ⟨_,(zkt 2),?_⟩; ((conv=>whnf);repeat(refine⟨rfl,?_⟩;conv=>whnf)))
    refine ⟨by omega,_,k0 (zcD hwf (by omega)),?_⟩
    ((conv=>whnf);repeat(refine⟨rfl,?_⟩;conv=>whnf))
    (refine .inl ⟨_,(zlS 9 (mk0 2 0) (zaH (t.kid 0))),?_⟩; ((conv=>whnf);repeat(refine⟨rfl,?_⟩;conv=>whnf)))
    exact zhV hE (.refl _)
   have h11 : ¬ t.kind = 11:=by simpa using h11
   rw [if_neg h11] at hE
   exact zhV hE (.refl _)
theorem znt (t : Tree) (hs : Small t) : PCall Tryz.prog 61 [za7 t] (if chk zaE t = 0 then .tup [za7 t,.sc (.int .i64 0)] else .tup [za7 (mk0 0 0),.sc (.int .i64 (chk zaE t))]):=by
 refine zag c61_ok (by simp) (by simp [zao,zap]) ?_ (by split <;> simp [Pure,zao,zap])
 (apply zac; focus (repeat' constructor))
 ((conv=>whnf);repeat(refine⟨rfl,?_⟩;conv=>whnf))
 (refine .inl ⟨_,(zhK t hs),?_⟩; ((conv=>whnf);repeat(refine⟨rfl,?_⟩;conv=>whnf)))
 (refine zab (fun h=>?_) (fun h=>?_) <;> (rw [h]; ((conv=>whnf);repeat(refine⟨rfl,?_⟩;conv=>whnf))))
 ·have h' : chk zaE t≠0:=by simpa using h
  rw [if_neg h']
  (repeat' (first | exact Deep.refl _ | exact Deep.none _ | exact zaF _ | exact DeepL.nil | exact DeepLL.nil | refine Deep.agg _ _ ?_ | refine Deep.tup _ _ ?_ | refine Deep.own _ _ _ _ _ _ _ _ rfl ?_ | refine Deep.loc _ _ _ _ _ rfl ?_ | refine Deep.ifc _ _ _ ?_ | refine Deep.fn _ _ _ _ _ ?_ ?_ | refine DeepL.cons _ _ _ _ ?_ ?_ | refine DeepLL.cons _ _ _ _ ?_ ?_ | exact zaq _))
 ·have h' : chk zaE t = 0:=by simpa using h
  rw [if_pos h']
  (repeat' (first | exact Deep.refl _ | exact Deep.none _ | exact zaF _ | exact DeepL.nil | exact DeepLL.nil | refine Deep.agg _ _ ?_ | refine Deep.tup _ _ ?_ | refine Deep.own _ _ _ _ _ _ _ _ rfl ?_ | refine Deep.loc _ _ _ _ _ rfl ?_ | refine Deep.ifc _ _ _ ?_ | refine Deep.fn _ _ _ _ _ ?_ ?_ | refine DeepL.cons _ _ _ _ ?_ ?_ | refine DeepLL.cons _ _ _ _ ?_ ?_ | exact zaq _))
noncomputable def zeF (t u : Tree) : Tree × Int:=if chk zaE t = 0 then if chk zaE u = 0 then (u,0) else (mk0 0 0,chk zaE u) else (mk0 0 0,chk zaE t)
theorem zmP (t : Tree) (hs : Small t) : PCall Tryz.prog 30 [za7 t] (.tup [za7 (zeF t (zaH t)).1,.sc (.int .i64 (zeF t (zaH t)).2)]):=by
 refine zag c30_ok (by simp) (by simp [zao,zap]) ?_ (by simp [Pure,zao,zap])
 (apply zac; focus (repeat' constructor))
 ((conv=>whnf);repeat(refine⟨rfl,?_⟩;conv=>whnf))
 (refine .inl ⟨_,(zhK t hs),?_⟩; ((conv=>whnf);repeat(refine⟨rfl,?_⟩;conv=>whnf)))
 (refine zab (fun h=>?_) (fun h=>?_) <;> (rw [h]; ((conv=>whnf);repeat(refine⟨rfl,?_⟩;conv=>whnf))))
 ·have h' : chk zaE t≠0:=by simpa using h
  rw [show zeF t (zaH t) = (mk0 0 0,chk zaE t) by rw [zeF,if_neg h']]
  (repeat' (first | exact Deep.refl _ | exact Deep.none _ | exact zaF _ | exact DeepL.nil | exact DeepLL.nil | refine Deep.agg _ _ ?_ | refine Deep.tup _ _ ?_ | refine Deep.own _ _ _ _ _ _ _ _ rfl ?_ | refine Deep.loc _ _ _ _ _ rfl ?_ | refine Deep.ifc _ _ _ ?_ | refine Deep.fn _ _ _ _ _ ?_ ?_ | refine DeepL.cons _ _ _ _ ?_ ?_ | refine DeepLL.cons _ _ _ _ ?_ ?_ | exact zaq _))
 ·have h' : chk zaE t = 0:=by simpa using h
  have hwf:=((zey _ _).1 h').2.2
  (refine .inl ⟨_,(zne t hwf),?_⟩; ((conv=>whnf);repeat(refine⟨rfl,?_⟩;conv=>whnf)))
  have hT:=znt (zaH t) (zd9 _ (zlX t hwf))
  by_cases h2 : chk zaE (zaH t) = 0
  ·rw [if_pos h2] at hT
   rw [show zeF t (zaH t) = (zaH t,0) by rw [zeF,if_pos h',if_pos h2]]
   (refine .inl ⟨_,hT,?_⟩; ((conv=>whnf);repeat(refine⟨rfl,?_⟩;conv=>whnf)))
   (repeat' (first | exact Deep.refl _ | exact Deep.none _ | exact zaF _ | exact DeepL.nil | exact DeepLL.nil | refine Deep.agg _ _ ?_ | refine Deep.tup _ _ ?_ | refine Deep.own _ _ _ _ _ _ _ _ rfl ?_ | refine Deep.loc _ _ _ _ _ rfl ?_ | refine Deep.ifc _ _ _ ?_ | refine Deep.fn _ _ _ _ _ ?_ ?_ | refine DeepL.cons _ _ _ _ ?_ ?_ | refine DeepLL.cons _ _ _ _ ?_ ?_ | exact zaq _))
  ·rw [if_neg h2] at hT
   rw [show zeF t (zaH t) = (mk0 0 0,chk zaE (zaH t)) by rw [zeF,if_pos h',if_neg h2]]
   (refine .inl ⟨_,hT,?_⟩; ((conv=>whnf);repeat(refine⟨rfl,?_⟩;conv=>whnf)))
   (repeat' (first | exact Deep.refl _ | exact Deep.none _ | exact zaF _ | exact DeepL.nil | exact DeepLL.nil | refine Deep.agg _ _ ?_ | refine Deep.tup _ _ ?_ | refine Deep.own _ _ _ _ _ _ _ _ rfl ?_ | refine Deep.loc _ _ _ _ _ rfl ?_ | refine Deep.ifc _ _ _ ?_ | refine Deep.fn _ _ _ _ _ ?_ ?_ | refine DeepL.cons _ _ _ _ ?_ ?_ | refine DeepLL.cons _ _ _ _ ?_ ?_ | exact zaq _))
end
section
open Go.RowKit
mutual
def zaB : Tree→List Int
 | .node k n ks=>(if k = 3 then [n] else []) ++ zax ks
def zax : List Tree→List Int
 | []=>[]
 | t :: r=>zaB t ++ zax r
end
mutual
def zaC : Tree→List Tree
 | .node k n ks=>(if k = 7∨k = 8∨k = 9 then [.node k n ks] else []) ++ zau ks
def zau : List Tree→List Tree
 | []=>[]
 | t :: r=>zaC t ++ zau r
end
theorem zfo (t : Tree) : zaB t = (if t.kind = 3 then [t.num] else []) ++ zax t.kids:=by cases t; rw [zaB]; rfl
theorem zfr (t : Tree) : zaC t = (if t.kind = 7∨t.kind = 8∨t.kind = 9 then [t] else []) ++ zau t.kids:=by cases t; rw [zaC]; rfl
theorem zc1 : ∀ l,zax l = l.flatMap zaB
 | []=>rfl
 | t :: r=>by rw [zax,zc1 r,List.flatMap_cons]
theorem zc8 : ∀ l,zau l = l.flatMap zaC
 | []=>rfl
 | t :: r=>by rw [zau,zc8 r,List.flatMap_cons]
theorem zlP {t : Tree} {k : Nat} (h : k < t.width) : t.kids.take (k + 1) = t.kids.take k ++ [t.kid k]:=by
 rw [List.take_add_one,kid_get? h]
 rfl
theorem zaX {t : Tree} {k : Nat} (h : k < t.width) : zax (t.kids.take (k + 1)) = zax (t.kids.take k) ++ zaB (t.kid k):=by
 rw [zlP h,zc1,zc1,List.flatMap_append]
 simp
theorem zaY {t : Tree} {k : Nat} (h : k < t.width) : zau (t.kids.take (k + 1)) = zau (t.kids.take k) ++ zaC (t.kid k):=by
 rw [zlP h,zc8,zc8,List.flatMap_append]
 simp
def addI (A : List Int) (xs : List Int) : List Int:=xs.foldl (fun A x=>if A.contains x = true then A else A ++ [x]) A
noncomputable def addT (P : List Tree) (xs : List Tree) : List Tree:=xs.foldl (fun P f=>if P.any (eqT f) = true then P else P ++ [f]) P
theorem zcg (A x y : List Int) : addI A (x ++ y) = addI (addI A x) y:=List.foldl_append
theorem zaV (P x y : List Tree) : addT P (x ++ y) = addT (addT P x) y:=List.foldl_append
theorem zf9 (A : List Int) (x : Int) : addI A [x] = if A.contains x = true then A else A ++ [x]:=rfl
theorem zcf (P : List Tree) (x : Tree) : addT P [x] = if P.any (eqT x) = true then P else P ++ [x]:=rfl
theorem zcI (xs : List Int) : ∀ A,(addI A xs).length≤A.length + xs.length:=by
 induction xs with
 | nil=>intro A; simp [addI]
 | cons x r ih =>
  intro A
  rw [show x :: r = [x] ++ r from rfl,zcg,zf9]
  split
  ·have:=ih A; simp only [List.length_append,List.length_singleton]; omega
  ·have:=ih (A ++ [x]); simp only [List.length_append,List.length_singleton] at *; omega
theorem zbv (xs : List Tree) : ∀ A,(addT A xs).length≤A.length + xs.length:=by
 induction xs with
 | nil=>intro A; simp [addT]
 | cons x r ih =>
  intro A
  rw [show x :: r = [x] ++ r from rfl,zaV,zcf]
  split
  ·have:=ih A; simp only [List.length_append,List.length_singleton]; omega
  ·have:=ih (A ++ [x]); simp only [List.length_append,List.length_singleton] at *; omega
theorem any_eqT {P : List Tree} {x : Tree} : P.any (eqT x) = true↔x∈P:=by
 rw [List.any_eq_true]
 constructor
 ·rintro ⟨y,hy,h⟩; rw [eqT_iff] at h; exact h ▸ hy
 ·exact fun h=>⟨x,h,eqT_iff.2 rfl⟩
theorem mem_addI {x : Int} (xs : List Int) : ∀ A,x∈addI A xs↔x∈A∨x∈xs:=by
 induction xs with
 | nil=>intro A; simp [addI]
 | cons y r ih =>
  intro A
  rw [show y :: r = [y] ++ r from rfl,zcg,zf9,ih]
  split
  ·rename_i h
   rw [List.contains_iff_mem] at h
   simp only [List.mem_append,List.mem_singleton]
   constructor
   ·rintro (a | a) <;> simp [a]
   ·rintro (a | rfl | a)
    ·exact .inl a
    ·exact .inl h
    ·exact .inr a
  ·simp only [List.mem_append,List.mem_singleton]
   constructor
   ·rintro ((a | a) | a) <;> simp [a]
   ·rintro (a | a | a) <;> simp [a]
theorem zjK {x : Tree} (xs : List Tree) : ∀ A,x∈addT A xs↔x∈A∨x∈xs:=by
 induction xs with
 | nil=>intro A; simp [addT]
 | cons y r ih =>
  intro A
  rw [show y :: r = [y] ++ r from rfl,zaV,zcf,ih]
  split
  ·rename_i h
   rw [any_eqT] at h
   simp only [List.mem_append,List.mem_singleton]
   constructor
   ·rintro (a | a) <;> simp [a]
   ·rintro (a | rfl | a)
    ·exact .inl a
    ·exact .inl h
    ·exact .inr a
  ·simp only [List.mem_append,List.mem_singleton]
   constructor
   ·rintro ((a | a) | a) <;> simp [a]
   ·rintro (a | a | a) <;> simp [a]
theorem znf (xs : List Int) : ∀ A,A.Nodup→(addI A xs).Nodup:=by
 induction xs with
 | nil=>intro A h; exact h
 | cons y r ih =>
  intro A h
  rw [show y :: r = [y] ++ r from rfl,zcg,zf9]
  split
  ·exact ih A h
  ·rename_i q
   rw [List.contains_iff_mem] at q
   refine ih _ (List.nodup_append.2 ⟨h,by simp,fun a ha b hb=>?_⟩)
   rw [List.mem_singleton] at hb
   subst hb
   exact fun e=>q (e ▸ ha)
mutual
theorem zjw : ∀ t : Tree,(zaB t).length≤t.size
 | .node k n ks=>by
  rw [zaB,Tree.size,List.length_append]
  have:=zkg ks
  split <;> simp <;> omega
theorem zkg : ∀ l : List Tree,(zax l).length≤Tree.sizes l
 | []=>by simp [zax]
 | t :: r=>by
  rw [zax,Tree.sizes,List.length_append]
  have:=zjw t
  have:=zkg r
  omega
end
mutual
theorem zho : ∀ t : Tree,(zaC t).length≤t.size
 | .node k n ks=>by
  rw [zaC,Tree.size,List.length_append]
  have:=zkW ks
  split <;> simp <;> omega
theorem zkW : ∀ l : List Tree,(zau l).length≤Tree.sizes l
 | []=>by simp [zau]
 | t :: r=>by
  rw [zau,Tree.sizes,List.length_append]
  have:=zho t
  have:=zkW r
  omega
end
def pKids (k : Int) : Int:=if k = 10∨k = 11 then -1 else zaE k
theorem wf_p {t : Tree} : t.wf pKids→t.wf zaE:=by
 induction t using Tree.ind with
 | h t ih =>
  intro h
  rw [zcO] at h ⊢
  refine ⟨?_,fun u hu=>?_⟩
  ·have h1:=h.1
   unfold zbb pKids at h1
   unfold zbb
   by_cases q : t.kind = 10∨t.kind = 11
   ·rw [if_pos q] at h1; omega
   ·rw [if_neg q] at h1; exact h1
  ·obtain ⟨j,hj,rfl⟩:=List.mem_iff_getElem.1 hu
   rw [← Tree.kid_get hj] at *
   exact ih j hj (h.2 _ (by rw [Tree.kid_get hj]; exact List.getElem_mem hj))
theorem zks {t : Tree} (h : t.wf pKids) : (t.kind = 1∨t.kind = 2∨t.kind = 3)∧t.width = 0∨(t.kind = 4∨t.kind = 7)∧t.width = 1∨(t.kind = 5∨t.kind = 6∨t.kind = 8∨t.kind = 9)∧t.width = 2:=by
 have h1:=((zcO _ _).1 h).1
 have h2:=zcp ((zcO _ _).1 (wf_p h)).1
 have h3 : ¬ (t.kind = 10∨t.kind = 11):=fun q=>by
  unfold zbb pKids at h1
  rw [if_pos q] at h1
  omega
 omega
theorem zhn {k n : Int} {ks : List Tree} (h : ¬ zbb pKids (.node k n ks)) (hk : ∀ u∈ks,u.wf pKids) : (Tree.node k n ks).wf pKids:=(zcO _ _).2 ⟨h,hk⟩
theorem zoh : ∀ (t : Tree),t.wf zaE→(zaH t).wf pKids:=by
 intro t
 induction t using Tree.ind with
 | h t ih =>
  intro hw
  have hn:=znn hw
  have har:=zcp ((zcO _ _).1 hw).1
  have m2 : ∀ {k c : Int} {b : Tree},k = 8∨k = 9→c = 1∨c = 2→b.wf pKids→(mk2 k (mk0 c 0) b).wf pKids:=fun {k c b} hk hc hb=>zhn (by
   unfold zbb
   have e1 : (Tree.node k 0 [mk0 c 0,b]).kind = k:=rfl
   have e2 : (Tree.node k 0 [mk0 c 0,b]).num = 0:=rfl
   have e3 : (Tree.node k 0 [mk0 c 0,b]).width = 2:=rfl
   rw [e1,e2,e3]
   rcases hk with rfl | rfl <;> simp [pKids,zaE]) (by
   intro u hu
   rw [List.mem_cons,List.mem_singleton] at hu
   rcases hu with rfl | rfl
   ·refine zhn ?_ (by simp)
    unfold zbb
    have e1 : (Tree.node c 0 []).kind = c:=rfl
    have e2 : (Tree.node c 0 []).num = 0:=rfl
    have e3 : (Tree.node c 0 []).width = 0:=rfl
    rw [e1,e2,e3]
    rcases hc with rfl | rfl <;> simp [pKids,zaE]
   ·exact hb)
  rw [zgt t fun h=>zcD hw (by omega)]
  by_cases h10 : t.kind = 10
  ·rw [if_pos h10]
   have h0:=zcD hw (by omega)
   exact m2 (by omega) (by omega) (ih 0 h0 (zbB hw h0))
  ·rw [if_neg h10]
   by_cases h11 : t.kind = 11
   ·rw [if_pos h11]
    have h0:=zcD hw (by omega)
    exact m2 (by omega) (by omega) (ih 0 h0 (zbB hw h0))
   ·rw [if_neg h11]
    refine zhn ?_ fun u hu=>?_
    ·unfold zbb pKids
     have e1 : (Tree.node t.kind t.num (t.kids.map zaH)).kind = t.kind:=rfl
     have e2 : (Tree.node t.kind t.num (t.kids.map zaH)).num = t.num:=rfl
     have e3 : (Tree.node t.kind t.num (t.kids.map zaH)).width = t.width:=List.length_map ..
     rw [e1,e2,e3,if_neg (by omega)]
     exact ((zcO _ _).1 hw).1
    ·obtain ⟨v,hv,rfl⟩:=List.mem_map.1 hu
     obtain ⟨j,hj,rfl⟩:=List.mem_iff_getElem.1 hv
     rw [← Tree.kid_get hj]
     exact ih j hj (zbB hw hj)
def zeN (k : Int) (c : Bool) (h : List Bool) : Bool :=
 if k = 1 then true else if k = 2 then false else if k = 4 then !(h.getD 0 false) else if k = 5 then h.getD 0 false && h.getD 1 false else if k = 6 then h.getD 0 false || h.getD 1 false
 else if k = 8 then h.getD 1 false || (h.getD 0 false && c) else if k = 9 then h.getD 1 false && (h.getD 0 false || c) else c
mutual
def zaS (c : Tree→Bool) : Tree→Bool
 | .node k n ks=>zeN k (c (.node k n ks)) (zme c ks)
def zme (c : Tree→Bool) : List Tree→List Bool
 | []=>[]
 | t :: r=>zaS c t :: zme c r
end
theorem ziA (c : Tree→Bool) : ∀ l,zme c l = l.map (zaS c)
 | []=>rfl
 | t :: r=>by rw [zme,ziA c r,List.map_cons]
theorem zkL (c : Tree→Bool) (t : Tree) : zaS c t = zeN t.kind (c t) (t.kids.map (zaS c)):=by cases t; rw [zaS,ziA]; rfl
theorem zkU (c : Tree→Bool) {t : Tree} {j : Nat} (h : j < t.width) : (t.kids.map (zaS c)).getD j false = zaS c (t.kid j):=by
 rw [List.getD_eq_getElem?_getD,List.getElem?_map,kid_get? h]
 rfl
noncomputable def posE (A : List Int) (P : List Tree) (g : Tree) : Nat:=if g.kind = 3 then (idxF (fun a=>g.num == a) A).toNat else A.length + (idxF (eqT g) P).toNat
noncomputable def chE (A : List Int) (P : List Tree) (s : Nat) (g : Tree) : Bool:=s.testBit (posE A P g)
def Told (A : List Int) (P : List Tree) (t : Tree) : Prop:=(∀ x∈zaB t,x∈A)∧∀ f∈zaC t,f∈P
theorem zm3 {l : List Tree} {t : Tree} {x : Int} (h : t∈l) (hx : x∈zaB t) : x∈zax l:=by
 rw [zc1]; exact List.mem_flatMap.2 ⟨t,h,hx⟩
theorem zm5 {l : List Tree} {t x : Tree} (h : t∈l) (hx : x∈zaC t) : x∈zau l:=by
 rw [zc8]; exact List.mem_flatMap.2 ⟨t,h,hx⟩
theorem znX {t : Tree} {j : Nat} (h : j < t.width) : t.kid j∈t.kids:=by rw [Tree.kid_get h]; exact List.getElem_mem h
theorem Told.kid {A : List Int} {P : List Tree} {t : Tree} (h : Told A P t) {j : Nat} (hj : j < t.width) : Told A P (t.kid j) :=
 ⟨fun x hx=>h.1 x (by rw [zfo]; exact List.mem_append_right _ (zm3 (znX hj) hx)),fun x hx=>h.2 x (by rw [zfr]; exact List.mem_append_right _ (zm5 (znX hj) hx))⟩
theorem Told.atom {A : List Int} {P : List Tree} {t : Tree} (h : Told A P t) (h3 : t.kind = 3) : t.num∈A:=h.1 _ (by rw [zfo,if_pos h3]; simp)
theorem Told.part {A : List Int} {P : List Tree} {t : Tree} (h : Told A P t) (h3 : t.kind = 7∨t.kind = 8∨t.kind = 9) : t∈P:=h.2 _ (by rw [zfr,if_pos h3]; simp)
mutual
theorem ziJ : ∀ (t : Tree),∀ f∈zaC t,(∀ x∈zaB f,x∈zaB t)∧(∀ g∈zaC f,g∈zaC t)
 | .node k n ks=>fun f hf=>by
  rw [zaC,List.mem_append] at hf
  rcases hf with hf | hf
  ·split at hf
   ·rw [List.mem_singleton] at hf; subst hf; exact ⟨fun x h=>h,fun x h=>h⟩
   ·cases hf
  ·obtain ⟨h1,h2⟩:=zhQ ks f hf
   exact ⟨fun x hx=>by rw [zaB]; exact List.mem_append_right _ (h1 x hx),fun x hx=>by rw [zaC]; exact List.mem_append_right _ (h2 x hx)⟩
theorem zhQ : ∀ (l : List Tree),∀ f∈zau l,(∀ x∈zaB f,x∈zax l)∧(∀ g∈zaC f,g∈zau l)
 | []=>fun f hf=>by cases hf
 | t :: r=>fun f hf=>by
  rw [zau,List.mem_append] at hf
  rcases hf with hf | hf
  ·obtain ⟨h1,h2⟩:=ziJ t f hf
   exact ⟨fun x hx=>by rw [zax]; exact List.mem_append_left _ (h1 x hx),fun x hx=>by rw [zau]; exact List.mem_append_left _ (h2 x hx)⟩
  ·obtain ⟨h1,h2⟩:=zhQ r f hf
   exact ⟨fun x hx=>by rw [zax]; exact List.mem_append_right _ (h1 x hx),fun x hx=>by rw [zau]; exact List.mem_append_right _ (h2 x hx)⟩
end
mutual
theorem zl7 (kd : Int→Int) : ∀ (t : Tree),t.wf kd→∀ f∈zaC t,f.wf kd∧(f.kind = 7∨f.kind = 8∨f.kind = 9)
 | .node k n ks=>fun hw f hf=>by
  rw [zaC,List.mem_append] at hf
  rcases hf with hf | hf
  ·split at hf
   ·rename_i h
    rw [List.mem_singleton] at hf; subst hf; exact ⟨hw,h⟩
   ·cases hf
  ·exact zk2 kd ks (fun u hu=>((zcO _ _).1 hw).2 u hu) f hf
theorem zk2 (kd : Int→Int) : ∀ (l : List Tree),(∀ u∈l,u.wf kd)→∀ f∈zau l,f.wf kd∧(f.kind = 7∨f.kind = 8∨f.kind = 9)
 | []=>fun _ f hf=>by cases hf
 | t :: r=>fun hw f hf=>by
  rw [zau,List.mem_append] at hf
  rcases hf with hf | hf
  ·exact zl7 kd t (hw t (by simp)) f hf
  ·exact zk2 kd r (fun u hu=>hw u (by simp [hu])) f hf
end
mutual
theorem zdK : ∀ (t : Tree),t.wf zaE→∀ x∈zaB t,0≤x∧x≤63
 | .node k n ks=>fun hw x hx=>by
  rw [zaB,List.mem_append] at hx
  rcases hx with hx | hx
  ·split at hx
   ·rw [List.mem_singleton] at hx; subst hx; have:=znn hw; exact ⟨this.1,this.2.1⟩
   ·cases hx
  ·exact zha ks (fun u hu=>((zcO _ _).1 hw).2 u hu) x hx
theorem zha : ∀ (l : List Tree),(∀ u∈l,u.wf zaE)→∀ x∈zax l,0≤x∧x≤63
 | []=>fun _ f hf=>by cases hf
 | t :: r=>fun hw f hf=>by
  rw [zax,List.mem_append] at hf
  rcases hf with hf | hf
  ·exact zdK t (hw t (by simp)) f hf
  ·exact zha r (fun u hu=>hw u (by simp [hu])) f hf
end
theorem zje (s k : Nat) (hk : k≤63) : (s : Int).fdiv (2 ^ min ((k : Int)).toNat 64) = ((s / 2 ^ k : Nat) : Int):=by
 rw [Int.toNat_natCast,Nat.min_eq_left (by omega),Int.fdiv_eq_ediv_of_nonneg _ (by exact Int.le_of_lt (Int.pow_pos (by decide)))]
 rw [Int.natCast_ediv]
 simp
theorem and_oneI (n : Nat) : zcW .and .i64 (n : Int) 1 = ((n % 2 : Nat) : Int):=by
 have e : (BitVec.ofInt 64 (n : Int) &&& BitVec.ofInt 64 1).toNat = n % 2:=by
  rw [BitVec.toNat_and]
  have e1 : (BitVec.ofInt 64 (n : Int)).toNat = n % 18446744073709551616:=by rw [BitVec.toNat_ofInt]; omega
  have e2 : (BitVec.ofInt 64 1).toNat = 1:=by decide
  rw [e1,e2,Nat.and_one_is_mod]
  omega
 show IntKind.i64.wrap ((BitVec.ofInt 64 (n : Int) &&& BitVec.ofInt 64 1).toNat : Int) = _
 rw [e,IntKind.wrap_i64]
 omega
theorem znV (s k : Nat) : s.testBit k = (((s / 2 ^ k % 2 : Nat) : Int) == 1):=by
 rw [Nat.testBit_eq_decide_div_mod_eq,Bool.eq_iff_iff,decide_eq_true_eq,beq_iff_eq]
 omega
theorem bit_P (s k : Nat) (hk : k≤63) : (zcW .and .i64 ((s : Int).fdiv (2 ^ min ((k : Int)).toNat 64)) 1 == 1) = s.testBit k:=by
 rw [zje s k hk,and_oneI,znV]
theorem znM (s k : Nat) (hk : k≤63) : (((s : Int).fdiv (2 ^ min ((k : Int)).toNat 64)).tmod 2 == 1) = s.testBit k:=by
 rw [zje s k hk,znV]
 congr 1
theorem or_one (a i : Nat) (h : a < 2 ^ i) (hi : i≤40) : zcW .or .i64 (a : Int) ((2 ^ i : Nat) : Int) = ((a + 2 ^ i : Nat) : Int):=by
 have hp : 2 ^ i≤2 ^ 40:=Nat.pow_le_pow_right (by omega) hi
 have h40 : (2 : Nat) ^ 40 = 1099511627776:=by decide
 have e : (BitVec.ofInt 64 (a : Int) ||| BitVec.ofInt 64 ((2 ^ i : Nat) : Int)).toNat = a + 2 ^ i:=by
  rw [BitVec.toNat_or]
  have e1 : (BitVec.ofInt 64 (a : Int)).toNat = a:=by rw [BitVec.toNat_ofInt]; omega
  have e2 : (BitVec.ofInt 64 ((2 ^ i : Nat) : Int)).toNat = 2 ^ i:=by
   generalize 2 ^ i = z at *
   rw [BitVec.toNat_ofInt]; omega
  have:=Nat.two_pow_add_eq_or_of_lt h 1
  rw [Nat.mul_one] at this
  rw [e1,e2,Nat.or_comm,← this,Nat.add_comm]
 show IntKind.i64.wrap ((BitVec.ofInt 64 (a : Int) ||| BitVec.ofInt 64 ((2 ^ i : Nat) : Int)).toNat : Int) = _
 rw [e,IntKind.wrap_i64]
 omega
def zgf (h : Nat→Bool) : Nat→Nat
 | 0=>0
 | i + 1=>if h i = true then zgf h i + 2 ^ i else zgf h i
theorem zgq (h : Nat→Bool) : ∀ n,zgf h n < 2 ^ n
 | 0=>by rw [zgf]; exact Nat.one_pos
 | n + 1=>by
  have:=zgq h n
  rw [zgf,Nat.pow_succ]
  split <;> omega
theorem zim (h : Nat→Bool) : ∀ n i,i < n→(zgf h n).testBit i = h i
 | 0,i,hi=>by omega
 | n + 1,i,hi=>by
  have hl:=zgq h n
  rw [zgf]
  by_cases e : i = n
  ·subst e
   cases q : h i
   ·rw [if_neg (by decide)]
    exact Nat.testBit_lt_two_pow hl
   ·rw [if_pos rfl,Nat.add_comm]
    rw [Nat.testBit_two_pow_add_eq,Nat.testBit_lt_two_pow hl]
    rfl
  ·have:=zim h n i (by omega)
   split
   ·rw [Nat.add_comm,Nat.testBit_two_pow_add_gt (by omega)]
    exact this
   ·exact this
def zhk (g : Tree) : Tree:=if g.kind = 7 then g.kid 0 else g
noncomputable def hK (A : List Int) (P : List Tree) (s i : Nat) : Bool:=zaS (chE A P s) (zhk (P.getD i default))
noncomputable def zga (A : List Int) (P : List Tree) (s : Nat) : Nat:=zgf (hK A P s) P.length
theorem kept_iff (A : List Int) (P : List Tree) (s t : Nat) (hs : s < 2 ^ (A.length + P.length)) : (zga A P t == s / 2 ^ A.length) = (List.range P.length).all fun i=>hK A P t i == s.testBit (A.length + i):=by
 rw [Bool.eq_iff_iff,beq_iff_eq,List.all_eq_true]
 have hd : s / 2 ^ A.length < 2 ^ P.length:=by
  rw [Nat.div_lt_iff_lt_mul (Nat.two_pow_pos _),Nat.mul_comm,← Nat.pow_add]
  exact hs
 constructor
 ·intro h i hi
  have hi:=List.mem_range.1 hi
  rw [beq_iff_eq,← zim (hK A P t) P.length i hi]
  have : zgf (hK A P t) P.length = s / 2 ^ A.length:=h
  rw [this,Nat.testBit_div_two_pow,Nat.add_comm]
 ·intro h
  apply Nat.eq_of_testBit_eq
  intro i
  by_cases hi : i < P.length
  ·have:=h i (List.mem_range.2 hi)
   rw [beq_iff_eq] at this
   rw [show (zga A P t).testBit i = hK A P t i from zim _ _ i hi,this,Nat.testBit_div_two_pow,Nat.add_comm]
  ·have hle : 2 ^ P.length≤2 ^ i:=Nat.pow_le_pow_right (by omega) (by omega)
   exact (Nat.testBit_lt_two_pow (Nat.lt_of_lt_of_le (zgq (hK A P t) P.length) hle)).trans (Nat.testBit_lt_two_pow (Nat.lt_of_lt_of_le hd hle)).symm
def zdk (A : List Int) (s : Nat) (is : Bool) : Nat→Int
 | 0=>0
 | i + 1=>if (s.testBit i == is) = true then zcW .or .u64 (zdk A s is i) (2 ^ (A.getD i 0).toNat) else zdk A s is i
def zbC (p : Nat→Bool) (k : Nat) : List Int:=((List.range k).filter p).map fun i : Nat=>(i : Int)
theorem zcE (p : Nat→Bool) (k : Nat) : zbC p (k + 1) = if p k = true then zbC p k ++ [(k : Int)] else zbC p k:=by
 unfold zbC
 rw [List.range_succ,List.filter_append,List.map_append]
 simp only [List.filter_cons,List.filter_nil]
 split <;> simp
theorem zb0 (p : Nat→Bool) (k : Nat) : (zbC p k).length≤k:=by
 unfold zbC
 rw [List.length_map]
 exact Nat.le_trans (List.length_filter_le _ _) (by simp)
noncomputable def zb6 (A : List Int) (P : List Tree) (g : Tree) (s : Nat) : Bool :=
 if g.kind = 8 then !(zaS (chE A P s) g) || zaS (chE A P s) (g.kid 1) else zaS (chE A P s) g || !(zaS (chE A P s) (g.kid 1))
noncomputable def setE (A : List Int) (P : List Tree) (n : Nat) (g : Tree) : List Int:=zbC (zb6 A P g) (2 ^ n)
noncomputable def zcG (A : List Int) (P : List Tree) (n k : Nat) : List (List Int):=((P.take k).filter fun g=>g.kind != 7).map (setE A P n)
theorem zij (A : List Int) (P : List Tree) (n : Nat) {k : Nat} (h : k < P.length) : zcG A P n (k + 1) = if (P.getD k default).kind = 7 then zcG A P n k else zcG A P n k ++ [setE A P n (P.getD k default)]:=by
 unfold zcG
 rw [List.take_add_one,List.getElem?_eq_getElem h,Option.toList_some,List.filter_append,List.map_append,List.getD_eq_getElem?_getD,List.getElem?_eq_getElem h]
 simp only [List.filter_cons,List.filter_nil,Option.getD_some]
 by_cases q : P[k].kind = 7
 ·simp [q]
 ·simp [q]
theorem zfk (A : List Int) (P : List Tree) (n k : Nat) : (zcG A P n k).length≤k:=by
 unfold zcG
 rw [List.length_map]
 exact Nat.le_trans (List.length_filter_le _ _) (by simp; omega)
noncomputable def zir (A : List Int) (P : List Tree) (n s : Nat) : List Int:=zbC (fun t=>zga A P t == s / 2 ^ A.length) (2 ^ n)
noncomputable def tabE (A : List Int) (P : List Tree) (f : Tree) : AutoD :=
 ⟨zbC (fun s=>zaS (chE A P s) f) (2 ^ (A.length + P.length)),(List.range (2 ^ (A.length + P.length))).map (zir A P (A.length + P.length)),
  (List.range (2 ^ (A.length + P.length))).map fun s=>zdk A s true A.length,(List.range (2 ^ (A.length + P.length))).map fun s=>zdk A s false A.length,zcG A P (A.length + P.length) P.length⟩
def zex (xs : List Int) : List Int:=zbC (fun n=>xs.contains (n : Int)) 64
noncomputable def ansT (f : Tree) : D :=
 let A:=zex (zaB f)
 let P:=addT [] (zaC f)
 if 10 < A.length + P.length then .tup [zeh ⟨[],[],[],[],[]⟩,.sc (.int .i64 2)] else .tup [zeh (tabE A P f),.sc (.int .i64 0)]
theorem ziq {xs : List Int} (h : ∀ x∈xs,0≤x∧x≤63) {x : Int} : x∈zex xs↔x∈xs:=by
 unfold zex zbC
 simp only [List.mem_map,List.mem_filter,List.mem_range,List.contains_iff_mem]
 constructor
 ·rintro ⟨n,⟨_,h2⟩,rfl⟩; exact h2
 ·intro hx
  have:=h x hx
  exact ⟨x.toNat,⟨by omega,by rw [show ((x.toNat : Nat) : Int) = x by omega]; exact hx⟩,by omega⟩
theorem zgP {f : Tree} (hw : f.wf zaE) : Told (zex (zaB f)) (addT [] (zaC f)) f :=
 ⟨fun x hx=>(ziq (zdK f hw)).2 hx,fun x hx=>(zjK _ _).2 (.inr hx)⟩
theorem znT {f : Tree} (hw : f.wf zaE) {g : Tree} (hg : g∈addT [] (zaC f)) : Told (zex (zaB f)) (addT [] (zaC f)) g:=by
 have hg : g∈zaC f:=((zjK _ _).1 hg).resolve_left (by simp)
 obtain ⟨h1,h2⟩:=ziJ f g hg
 have h:=zgP hw
 exact ⟨fun x hx=>h.1 x (h1 x hx),fun x hx=>h.2 x (h2 x hx)⟩
end
section
open Go.RowKit
def c91_1 : PC:=.seq (.ops [q 31 (.bin .lss (.tmp 30) (.tmp 29))] false) (.seq (.cond (.tmp 31) (.skip) (.exit 0)) (.seq (.block 1 (.seq (.ops [qm 32 30,qm 5 32] false) (.seq (.ops [q 33 (.faddr 2 (.tmp 2)),qd 34 (.load1 (.tmp 33)) 1,qm 35 5,qd 36 (.iaddr 3 (.tmp 34) (.tmp 35)) 7,qd 37 (.loadA 3 (.tmp 36)) 15,q 38 (.faddr 2 (.tmp 3)),qd 39 (.load1 (.tmp 38)) 32,qm 40 5,qd 41 (.iaddr 3 (.tmp 39) (.tmp 40)) 224,qd 42 (.loadA 3 (.tmp 41)) 480,qd 43 (.call 91 [(.tmp 37),(.tmp 42)]) 1023,qd 44 (.un .not (.tmp 43)) 2047] true) (.cond (.tmp 44) (.seq (.ops [q 4 (.move (.const (.bool false)))] false) (.ret)) (.skip))))) (.ops [q 45 (.bin .add (.tmp 30) (.const (.int .i64 1))),qm 30 45] false)))
def c91 : PC:=.seq (.ops [q 2 (.box (.tmp 0)),q 3 (.box (.tmp 1)),q 4 (.move (.const (.bool false)))] false) (.seq (.seq (.ops [q 6 (.faddr 0 (.tmp 2)),q 7 (.load1 (.tmp 6)),q 8 (.faddr 0 (.tmp 3)),q 9 (.load1 (.tmp 8)),q 10 (.bin .neq (.tmp 7) (.tmp 9)),qm 11 10,⟨some 12,.faddr 1 (.tmp 2),some (11,false),0⟩,⟨some 13,.load1 (.tmp 12),some (11,false),0⟩,⟨some 14,.faddr 1 (.tmp 3),some (11,false),0⟩,⟨some 15,.load1 (.tmp 14),some (11,false),0⟩,⟨some 16,.bin .neq (.tmp 13) (.tmp 15),some (11,false),0⟩,q 17 (.pick (.tmp 11) (.const (.bool true)) (.tmp 16)),qm 18 17,⟨some 19,.faddr 2 (.tmp 2),some (18,false),0⟩,⟨some 20,.load1 (.tmp 19),some (18,false),0⟩,⟨some 21,.len (.tmp 20),some (18,false),0⟩,⟨some 22,.faddr 2 (.tmp 3),some (18,false),0⟩,⟨some 23,.load1 (.tmp 22),some (18,false),0⟩,⟨some 24,.len (.tmp 23),some (18,false),0⟩,⟨some 25,.bin .neq (.tmp 21) (.tmp 24),some (18,false),0⟩,q 26 (.pick (.tmp 18) (.const (.bool true)) (.tmp 25))] false) (.cond (.tmp 26) (.seq (.ops [q 4 (.move (.const (.bool false)))] false) (.ret)) (.skip))) (.seq (.seq (.ops [q 27 (.faddr 2 (.tmp 2)),q 28 (.load1 (.tmp 27)),q 29 (.len (.tmp 28)),q 30 (.move (.const (.int .i64 0)))] false) (.block 0 (.loop c91_1))) (.seq (.ops [q 4 (.move (.const (.bool true)))] false) (.ret))))
theorem c91_ok : FunOK Tryz.prog 91 46 [.tmp 4] c91:=⟨⟨Tryz.f91,Tryz.func91,rfl,by kernel_rfl,rfl,by kernel_rfl⟩⟩
theorem zob : ∀ a b : Tree,Small a→PCall Tryz.prog 91 [za7 a,za7 b] (.sc (.bool (eqT a b))):=by
 intro a
 induction a using Tree.ind with
 | h a ih =>
  intro b hs
  refine zag c91_ok (by simp) (by simp [zao,zap]) ?_ (by simp [Pure])
  (apply zac; focus (repeat' constructor))
  ((conv=>whnf);repeat(refine⟨rfl,?_⟩;conv=>whnf))
  have no : a.kind≠b.kind∨a.num≠b.num∨a.kids.length≠b.kids.length→false = eqT a b:=fun h=>zge (by rintro rfl; simp at h)
  (refine zab (fun h1=>?_) (fun h1=>?_) <;> (rw [h1]; ((conv=>whnf);repeat(refine⟨rfl,?_⟩;conv=>whnf))))
  ·exact zbW (congrArg (fun x=>D.sc (.bool x)) (no (.inl (by simpa using h1))))
  (refine zab (fun h2=>?_) (fun h2=>?_) <;> (rw [h2]; ((conv=>whnf);repeat(refine⟨rfl,?_⟩;conv=>whnf))))
  ·exact zbW (congrArg (fun x=>D.sc (.bool x)) (no (.inr (.inl (by simpa using h2)))))
  (refine zab (fun h3=>?_) (fun h3=>?_) <;> (rw [h3]; ((conv=>whnf);repeat(refine⟨rfl,?_⟩;conv=>whnf))))
  ·exact zbW (congrArg (fun x=>D.sc (.bool x)) (no (.inr (.inr (by simp at h3; omega)))))
  simp at h1 h2 h3
  have hsz:=hs.width
  refine zl9 (fun k : Nat=>[(2,.loc 0 0),(3,.loc 1 0),(29,.sc (.int .i64 (a.kids.map zbo).length)),(30,.sc (.int .i64 k))]) (fun _=>[.row true (drow a),.row true (drow b)])
   (fun k=>k≤a.width∧∀ j,j < k→a.kid j = b.kid j) (fun k=>a.width - k) 0 ⟨by omega,fun j h=>by omega⟩ (zml ⟨rfl,rfl,rfl,rfl,trivial⟩) ?_
  rintro k ⟨hk,hall⟩
  (apply zac; focus (repeat' constructor))
  ((conv=>whnf);repeat(refine⟨rfl,?_⟩;conv=>whnf))
  (refine zab (fun h4=>?_) (fun h4=>?_) <;> (rw [h4]; ((conv=>whnf);repeat(refine⟨rfl,?_⟩;conv=>whnf))))
  ·have hk' : k < a.width:=by simpa [Tree.width] using h4
   refine ⟨by omega,_,zaZ hk',?_⟩
   ((conv=>whnf);repeat(refine⟨rfl,?_⟩;conv=>whnf))
   refine ⟨by omega,_,zaZ (t:=b) (by unfold Tree.width at *; omega),?_⟩
   ((conv=>whnf);repeat(refine⟨rfl,?_⟩;conv=>whnf))
   (refine .inl ⟨_,(ih k hk' (b.kid k) (hs.kid hk')),?_⟩; ((conv=>whnf);repeat(refine⟨rfl,?_⟩;conv=>whnf)))
   (refine zab (fun h5=>?_) (fun h5=>?_) <;> (rw [h5]; ((conv=>whnf);repeat(refine⟨rfl,?_⟩;conv=>whnf))))
   ·exact zbW (congrArg (fun x=>D.sc (.bool x)) (zge (by rintro rfl; simp [eqT] at h5)))
   ·simp [eqT_iff] at h5
    refine .inl ⟨by unfold InR; rw [IntKind.wrap_i64]; unfold Tree.width at *; omega,?_⟩
    ((conv=>whnf);repeat(refine⟨rfl,?_⟩;conv=>whnf))
    refine ⟨k + 1,⟨by omega,fun j hj=>?_⟩,by dsimp only; omega,zml ⟨rfl,rfl,rfl,rfl,trivial⟩⟩
    by_cases e : j = k
    ·subst e; exact h5
    ·exact hall j (by omega)
  ·have hk' : ¬ k < a.width:=by simpa [Tree.width] using h4
   exact zbW (congrArg (fun x=>D.sc (.bool x)) (zmJ (Tree.ext_kids h1 h2 (by unfold Tree.width; omega) fun j hj=>hall j (by omega))))
end
section
open Go.RowKit
def c55_1 : PC:=.seq (.seq (.ops [qm 27 5,q 28 (.faddr 2 (.tmp 2)),q 29 (.load1 (.tmp 28)),q 30 (.len (.tmp 29)),q 31 (.bin .lss (.tmp 27) (.tmp 30))] false) (.cond (.tmp 31) (.skip) (.exit 0))) (.seq (.block 1 (.seq (.ops [q 34 (.faddr 2 (.tmp 2)),qd 35 (.load1 (.tmp 34)) 1,qm 36 5,qd 37 (.iaddr 3 (.tmp 35) (.tmp 36)) 7,qd 38 (.loadA 3 (.tmp 37)) 15,q 39 (.faddr 2 (.tmp 3)),qd 40 (.load1 (.tmp 39)) 32,qm 41 5,qd 42 (.iaddr 3 (.tmp 40) (.tmp 41)) 224,qd 43 (.loadA 3 (.tmp 42)) 480,qd 44 (.call 55 [(.tmp 38),(.tmp 43)]) 1023,qd 45 (.un .not (.tmp 44)) 2047] true) (.cond (.tmp 45) (.seq (.ops [q 4 (.move (.const (.bool false)))] false) (.ret)) (.skip)))) (.ops [qm 32 5,q 33 (.bin .add (.tmp 32) (.const (.int .i64 1))),qm 5 33] false))
def c55 : PC:=.seq (.ops [q 2 (.box (.tmp 0)),q 3 (.box (.tmp 1)),q 4 (.move (.const (.bool false)))] false) (.seq (.seq (.ops [q 6 (.faddr 0 (.tmp 2)),q 7 (.load1 (.tmp 6)),q 8 (.faddr 0 (.tmp 3)),q 9 (.load1 (.tmp 8)),q 10 (.bin .neq (.tmp 7) (.tmp 9)),qm 11 10,⟨some 12,.faddr 1 (.tmp 2),some (11,false),0⟩,⟨some 13,.load1 (.tmp 12),some (11,false),0⟩,⟨some 14,.faddr 1 (.tmp 3),some (11,false),0⟩,⟨some 15,.load1 (.tmp 14),some (11,false),0⟩,⟨some 16,.bin .neq (.tmp 13) (.tmp 15),some (11,false),0⟩,q 17 (.pick (.tmp 11) (.const (.bool true)) (.tmp 16)),qm 18 17,⟨some 19,.faddr 2 (.tmp 2),some (18,false),0⟩,⟨some 20,.load1 (.tmp 19),some (18,false),0⟩,⟨some 21,.len (.tmp 20),some (18,false),0⟩,⟨some 22,.faddr 2 (.tmp 3),some (18,false),0⟩,⟨some 23,.load1 (.tmp 22),some (18,false),0⟩,⟨some 24,.len (.tmp 23),some (18,false),0⟩,⟨some 25,.bin .neq (.tmp 21) (.tmp 24),some (18,false),0⟩,q 26 (.pick (.tmp 18) (.const (.bool true)) (.tmp 25))] false) (.cond (.tmp 26) (.seq (.ops [q 4 (.move (.const (.bool false)))] false) (.ret)) (.skip))) (.seq (.seq (.ops [q 5 (.move (.const (.int .i64 0)))] false) (.block 0 (.loop c55_1))) (.seq (.ops [q 4 (.move (.const (.bool true)))] false) (.ret))))
theorem c55_ok : FunOK Tryz.prog 55 46 [.tmp 4] c55:=⟨⟨Tryz.f55,Tryz.func55,rfl,by kernel_rfl,rfl,by kernel_rfl⟩⟩
theorem zh3 : ∀ a b : Tree,Small a→PCall Tryz.prog 55 [za7 a,za7 b] (.sc (.bool (eqT a b))):=by
 intro a
 induction a using Tree.ind with
 | h a ih =>
  intro b hs
  refine zag c55_ok (by simp) (by simp [zao,zap]) ?_ (by simp [Pure])
  (apply zac; focus (repeat' constructor))
  ((conv=>whnf);repeat(refine⟨rfl,?_⟩;conv=>whnf))
  have no : a.kind≠b.kind∨a.num≠b.num∨a.kids.length≠b.kids.length→false = eqT a b:=fun h=>zge (by rintro rfl; simp at h)
  (refine zab (fun h1=>?_) (fun h1=>?_) <;> (rw [h1]; ((conv=>whnf);repeat(refine⟨rfl,?_⟩;conv=>whnf))))
  ·exact zbW (congrArg (fun x=>D.sc (.bool x)) (no (.inl (by simpa using h1))))
  (refine zab (fun h2=>?_) (fun h2=>?_) <;> (rw [h2]; ((conv=>whnf);repeat(refine⟨rfl,?_⟩;conv=>whnf))))
  ·exact zbW (congrArg (fun x=>D.sc (.bool x)) (no (.inr (.inl (by simpa using h2)))))
  (refine zab (fun h3=>?_) (fun h3=>?_) <;> (rw [h3]; ((conv=>whnf);repeat(refine⟨rfl,?_⟩;conv=>whnf))))
  ·exact zbW (congrArg (fun x=>D.sc (.bool x)) (no (.inr (.inr (by simp at h3; omega)))))
  simp at h1 h2 h3
  have hsz:=hs.width
  refine zl9 (fun k : Nat=>[(2,.loc 0 0),(3,.loc 1 0),(5,.sc (.int .i64 k))]) (fun _=>[.row true (drow a),.row true (drow b)])
   (fun k=>k≤a.width∧∀ j,j < k→a.kid j = b.kid j) (fun k=>a.width - k) 0 ⟨by omega,fun j h=>by omega⟩ (zml ⟨rfl,rfl,rfl,trivial⟩) ?_
  rintro k ⟨hk,hall⟩
  (apply zac; focus (repeat' constructor))
  ((conv=>whnf);repeat(refine⟨rfl,?_⟩;conv=>whnf))
  (refine zab (fun h4=>?_) (fun h4=>?_) <;> (rw [h4]; ((conv=>whnf);repeat(refine⟨rfl,?_⟩;conv=>whnf))))
  ·have hk' : k < a.width:=by simpa [Tree.width] using h4
   refine ⟨by omega,_,zaZ hk',?_⟩
   ((conv=>whnf);repeat(refine⟨rfl,?_⟩;conv=>whnf))
   refine ⟨by omega,_,zaZ (t:=b) (by unfold Tree.width at *; omega),?_⟩
   ((conv=>whnf);repeat(refine⟨rfl,?_⟩;conv=>whnf))
   (refine .inl ⟨_,(ih k hk' (b.kid k) (hs.kid hk')),?_⟩; ((conv=>whnf);repeat(refine⟨rfl,?_⟩;conv=>whnf)))
   (refine zab (fun h5=>?_) (fun h5=>?_) <;> (rw [h5]; ((conv=>whnf);repeat(refine⟨rfl,?_⟩;conv=>whnf))))
   ·exact zbW (congrArg (fun x=>D.sc (.bool x)) (zge (by rintro rfl; simp [eqT] at h5)))
   ·simp [eqT_iff] at h5
    refine .inl ⟨by unfold InR; rw [IntKind.wrap_i64]; unfold Tree.width at *; omega,?_⟩
    ((conv=>whnf);repeat(refine⟨rfl,?_⟩;conv=>whnf))
    refine ⟨k + 1,⟨by omega,fun j hj=>?_⟩,by dsimp only; omega,zml ⟨rfl,rfl,rfl,trivial⟩⟩
    by_cases e : j = k
    ·subst e; exact h5
    ·exact hall j (by omega)
  ·have hk' : ¬ k < a.width:=by simpa [Tree.width] using h4
   exact zbW (congrArg (fun x=>D.sc (.bool x)) (zmJ (Tree.ext_kids h1 h2 (by unfold Tree.width; omega) fun j hj=>hall j (by omega))))
end
section
open Go.RowKit
theorem za8 {H : List AObj} {n : Nat} {l : List (List D)} (h : l.length≤n) : DeepLL H (List.drop 0 (List.take n l)) l:=by rw [zav h]; exact zaq _
def zaL (P : List Tree) : List (List D):=P.map drow
@[simp] theorem zbS (P : List Tree) : (zaL P).length = P.length:=List.length_map ..
theorem zat (P : List Tree) : zbd (zaL P):=zas _ (fun t=>zar t) _
@[simp] theorem underLL_trows {m : Nat} (P : List Tree) : zak m (zaL P)↔True:=⟨fun _=>trivial,fun _=>zaa _ (zat P)⟩
theorem zd8 {P : List Tree} {z k : Nat} (hz : z = k) (h : k < P.length) : (zaL P)[z]? = some (drow (P.getD k default)):=by
 subst hz
 unfold zaL
 rw [List.getElem?_map,List.getElem?_eq_getElem h,List.getD_eq_getElem?_getD,List.getElem?_eq_getElem h]
 rfl
theorem zeK (P : List Tree) (z : List D) : (List.drop 0 (List.take P.length (zaL P)) ++ List.drop 0 (List.take 1 [z]))[0 + ((P.length - 0 : Nat) : Int).toNat]? = some z:=by
 rw [zav (by simp),List.getElem?_append_right (by simp)]
 simp
theorem zdM (P : List Tree) (t : Tree) (z : List D) : (List.drop 0 (List.take P.length (zaL P)) ++ List.drop 0 (List.take 1 [z])).set (0 + ((P.length - 0 : Nat) : Int).toNat) [.sc (.int .i64 t.kind),.sc (.int .i64 t.num),.lst 3 (t.kids.map zbo)] = zaL (P ++ [t]):=by
 rw [zav (by simp),List.set_append_right _ _ (by simp)]
 simp [zaL,drow]
def mdat (A : List Int) (P : List Tree) : D:=.ipt [zaD A,.lst 3 (zaL P)]
theorem zdi (A : List Int) (P : List Tree) : Pure (mdat A P):=by simp [mdat,Pure,zao,zam,zat]
def za6 (A : List Int) (P : List Tree) : List AObj:=[.row true [.own 1 A.length 0 A.length,.own 2 P.length 0 P.length],.vec true A.length 1 (i64s A),.vec true P.length 3 (zaL P)]
theorem zbU {A : List Int} {P : List Tree} {m : Nat} (hm : 3≤m) : ∀ o∈za6 A P,o.under m:=by
 intro o ho
 simp only [za6,List.mem_cons,List.not_mem_nil,or_false] at ho
 rcases ho with rfl | rfl | rfl <;> simp [AObj.under,zae,zai] <;> omega
theorem zbH {A : List Int} {P : List Tree} {m : Nat} (hm : 3≤m) : zbg m (za6 A P):=by
 have:=zbU (A:=A) (P:=P) hm
 unfold za6 at *
 exact ⟨this _ (by simp),this _ (by simp),this _ (by simp),trivial⟩
def c53_1 : PC:=.seq (.ops [q 9 (.bin .lss (.tmp 8) (.tmp 7))] false) (.seq (.cond (.tmp 9) (.skip) (.exit 0)) (.seq (.block 1 (.seq (.ops [qm 10 8,qm 5 10] false) (.seq (.ops [qm 11 1,qm 12 0,qm 13 5,q 14 (.iaddr 3 (.tmp 12) (.tmp 13)),q 15 (.loadA 3 (.tmp 14)),q 16 (.callv (.tmp 11) [(.tmp 15)])] false) (.cond (.tmp 16) (.seq (.ops [qm 17 5,qm 4 17] false) (.ret)) (.skip))))) (.ops [q 18 (.bin .add (.tmp 8) (.const (.int .i64 1))),qm 8 18] false)))
def c53 : PC:=.seq (.ops [q 4 (.move (.const (.int .i64 0)))] false) (.seq (.seq (.ops [qm 6 0,q 7 (.len (.tmp 6)),q 8 (.move (.const (.int .i64 0)))] false) (.block 0 (.loop c53_1))) (.seq (.ops [q 4 (.move (.const (.int .i64 (-1))))] false) (.ret)))
theorem c53_ok : FunOK Tryz.prog 53 19 [.tmp 4] c53:=⟨⟨Tryz.f53,Tryz.func53,rfl,by kernel_rfl,rfl,by kernel_rfl⟩⟩
def c83 : PC:=.seq (.ops [q 4 (.move (.const (.bool false)))] false) (.seq (.ops [qm 5 0,qm 6 1,q 7 (.call 53 [(.tmp 5),(.tmp 6)]),q 8 (.bin .geq (.tmp 7) (.const (.int .i64 0))),qm 4 8] false) (.ret))
theorem c83_ok : FunOK Tryz.prog 83 9 [.tmp 4] c83:=⟨⟨Tryz.f83,Tryz.func83,rfl,by kernel_rfl,rfl,by kernel_rfl⟩⟩
theorem zgC (l : List Tree) (hl : l.length≤9223372036854775807) (p : Tree→Bool) (cl : FuncId) (cap : List D) (hp : zao cap) (hc : ∀ a∈l,PCall Tryz.prog cl (za7 a :: cap) (.sc (.bool (p a)))) :
  PCall Tryz.prog 53 [.lst 3 (zaL l),.fn (.func cl) [] cap] (.sc (.int .i64 (idxF p l))):=by
 refine zag c53_ok (by simp) (by simp [zao,Pure,hp,zat]) ?_ (by simp [Pure])
 (apply zac; focus (repeat' constructor))
 ((conv=>whnf);repeat(refine⟨rfl,?_⟩;conv=>whnf))
 rw [zbS]
 have fin : ∀ {z : Int},z = idxF p l→Deep [] (.sc (.int .i64 z)) (.sc (.int .i64 (idxF p l))):=fun h=>h ▸ .refl _
 refine zaT [0,1,7] (fun k : Nat=>[(8,.sc (.int .i64 k))]) (fun _=>[]) (fun k=>k≤l.length∧∀ j (hj : j < k) (hl : j < l.length),p l[j] = false) (fun k=>l.length - k) 0 ?_
 ((conv=>whnf);repeat(refine⟨rfl,?_⟩;conv=>whnf))
 refine ⟨⟨by omega,fun j hj=>by omega⟩,by (repeat' (first | exact trivial | refine And.intro rfl ?_)),rfl,?_⟩
 rintro k ⟨hk,hno⟩
 ((conv=>whnf);repeat(refine⟨rfl,?_⟩;conv=>whnf))
 (apply zac; focus (repeat' constructor))
 ((conv=>whnf);repeat(refine⟨rfl,?_⟩;conv=>whnf))
 (refine zab (fun h=>?_) (fun h=>?_) <;> (rw [h]; ((conv=>whnf);repeat(refine⟨rfl,?_⟩;conv=>whnf))))
 ·have hk' : k < l.length:=by ((try simp only[oo,reduceCtorEq]at*)<;>omega)
  refine ⟨by omega,drow l[k],by unfold zaL; rw [List.getElem?_map,Int.toNat_natCast,List.getElem?_eq_getElem hk']; rfl,?_⟩
  ((conv=>whnf);repeat(refine⟨rfl,?_⟩;conv=>whnf))
  (refine .inl ⟨_,(hc _ (List.getElem_mem hk')),?_⟩; ((conv=>whnf);repeat(refine⟨rfl,?_⟩;conv=>whnf)))
  (refine zab (fun h2=>?_) (fun h2=>?_) <;> (rw [h2]; ((conv=>whnf);repeat(refine⟨rfl,?_⟩;conv=>whnf))))
  ·exact fin (zeG hk' h2 fun j hj=>hno j hj (by omega)).symm
  ·(refine .inl ⟨by (unfold InR; rw [IntKind.wrap_i64]; omega),?_⟩; ((conv=>whnf);repeat(refine⟨rfl,?_⟩;conv=>whnf)))
   refine ⟨k + 1,⟨by omega,fun j hj hl=>?_⟩,by dsimp only; omega,zan (by (repeat' (first | exact trivial | refine And.intro rfl ?_))) rfl⟩
   by_cases e : j = k
   ·subst e; exact h2
   ·exact hno j (by omega) hl
 ·have hk' : ¬ k < l.length:=by ((try simp only[oo,reduceCtorEq]at*)<;>omega)
  exact fin (ze1 fun j hj=>hno j (by omega) hj).symm
theorem zdu (l : List Tree) (hl : l.length≤9223372036854775807) (p : Tree→Bool) (cl : FuncId) (cap : List D) (hp : zao cap) (hc : ∀ a∈l,PCall Tryz.prog cl (za7 a :: cap) (.sc (.bool (p a)))) :
  PCall Tryz.prog 83 [.lst 3 (zaL l),.fn (.func cl) [] cap] (.sc (.bool (l.any p))):=by
 refine zag c83_ok (by simp) (by simp [zao,Pure,hp,zat]) ?_ (by simp [Pure])
 (apply zac; focus (repeat' constructor))
 ((conv=>whnf);repeat(refine⟨rfl,?_⟩;conv=>whnf))
 (refine .inl ⟨_,(zgC l hl p cl cap hp hc),?_⟩; ((conv=>whnf);repeat(refine⟨rfl,?_⟩;conv=>whnf)))
 rw [zdb]
 exact .refl _
def c90 : PC:=.seq (.ops [q 2 (.box (.tmp 0)),q 3 (.move (.const (.bool false)))] false) (.seq (.ops [q 4 (.loadA 3 (.tmp 1)),q 5 (.loadA 3 (.tmp 2)),q 6 (.call 91 [(.tmp 4),(.tmp 5)]),qm 3 6] false) (.ret))
theorem c90_ok : FunOK Tryz.prog 90 7 [.tmp 3] c90:=⟨⟨Tryz.f90,Tryz.func90,rfl,by kernel_rfl,rfl,by kernel_rfl⟩⟩
def c64 : PC:=.seq (.ops [q 3 (.box (.tmp 1)),q 4 (.move (.const (.int .i64 0)))] false) (.seq (.ops [qm 5 0,q 6 (.nilchk (.tmp 5)),q 7 (.faddr 1 (.tmp 6)),q 8 (.load1 (.tmp 7)),q 9 (.mkfn (.func 90) [] [(.tmp 3)]),q 10 (.call 53 [(.tmp 8),(.tmp 9)]),qm 4 10] false) (.ret))
theorem c64_ok : FunOK Tryz.prog 64 11 [.tmp 4] c64:=⟨⟨Tryz.f64,Tryz.func64,rfl,by kernel_rfl,rfl,by kernel_rfl⟩⟩
def c31_1 : PC:=.seq (.ops [q 52 (.bin .lss (.tmp 51) (.tmp 50))] false) (.seq (.cond (.tmp 52) (.skip) (.exit 1)) (.seq (.block 2 (.seq (.ops [q 53 (.iaddr 3 (.tmp 49) (.tmp 51)),q 54 (.loadA 3 (.tmp 53)),q 5 (.alloc [(.int .i64 0),(.int .i64 0),(.slice none 0 0)]),qn (.store 3 (.tmp 5) (.tmp 54))] false) (.ops [qm 55 0,q 56 (.loadA 3 (.tmp 5)),q 57 (.call 31 [(.tmp 55),(.tmp 56)])] false))) (.ops [q 58 (.bin .add (.tmp 51) (.const (.int .i64 1))),qm 51 58] false)))
def c31 : PC:=.seq (.ops [q 3 (.box (.tmp 1))] false) (.seq (.seq (.ops [q 6 (.faddr 0 (.tmp 3)),q 7 (.load1 (.tmp 6))] false) (.block 0 (.seq (.ops [q 9 (.bin .eql (.tmp 7) (.const (.int .i64 3))),qm 8 9] false) (.cond (.tmp 8) (.seq (.ops [qm 10 0,qd 11 (.nilchk (.tmp 10)) 1,qd 12 (.faddr 0 (.tmp 11)) 3,qd 13 (.load1 (.tmp 12)) 7,q 14 (.faddr 1 (.tmp 3)),qd 15 (.load1 (.tmp 14)) 16,qd 16 (.call 63 [(.tmp 13),(.tmp 15)]) 63,qd 17 (.un .not (.tmp 16)) 127] true) (.cond (.tmp 17) (.ops [qm 18 0,qm 19 0,qd 20 (.nilchk (.tmp 19)) 2,qd 21 (.faddr 0 (.tmp 20)) 6,qd 22 (.load1 (.tmp 21)) 14,q 23 (.faddr 1 (.tmp 3)),qd 24 (.load1 (.tmp 23)) 32,qd 25 (.bslice 1 1 [(.tmp 24)]) 96,qd 26 (.append 1 8 (.tmp 22) (.tmp 25)) 254,qd 27 (.nilchk (.tmp 18)) 511,qd 28 (.faddr 0 (.tmp 27)) 1023,qk (.store 1 (.tmp 28) (.tmp 26)) 2047] true) (.skip))) (.seq (.seq (.ops [q 30 (.bin .eql (.tmp 7) (.const (.int .i64 7))),qm 29 30] false) (.cond (.tmp 29) (.skip) (.seq (.ops [q 31 (.bin .eql (.tmp 7) (.const (.int .i64 8))),qm 29 31] false) (.cond (.tmp 29) (.skip) (.ops [q 32 (.bin .eql (.tmp 7) (.const (.int .i64 9))),qm 29 32] false))))) (.cond (.tmp 29) (.seq (.ops [qm 33 0,q 34 (.loadA 3 (.tmp 3)),q 35 (.call 64 [(.tmp 33),(.tmp 34)]),q 36 (.bin .lss (.tmp 35) (.const (.int .i64 0)))] false) (.cond (.tmp 36) (.ops [qm 37 0,qd 38 (.nilchk (.tmp 37)) 1,qd 39 (.faddr 1 (.tmp 38)) 3,qd 40 (.load1 (.tmp 39)) 7,q 41 (.loadA 3 (.tmp 3)),qd 42 (.len (.tmp 40)) 15,q 43 (.bslice 3 1 [(.const (.agg #[.int .i64 0,.int .i64 0,.slice none 0 0]))]),qd 44 (.append 3 40 (.tmp 40) (.tmp 43)) 127,qd 45 (.iaddr 3 (.tmp 44) (.tmp 42)) 255,qk (.store 3 (.tmp 45) (.tmp 41)) 511,qd 46 (.nilchk (.tmp 37)) 255,qd 47 (.faddr 1 (.tmp 46)) 1279,qk (.store 1 (.tmp 47) (.tmp 44)) 3327] true) (.skip))) (.skip))))))) (.seq (.ops [q 48 (.faddr 2 (.tmp 3)),q 49 (.load1 (.tmp 48)),q 50 (.len (.tmp 49)),q 51 (.move (.const (.int .i64 0)))] false) (.block 1 (.loop c31_1))))
theorem c31_ok : FunOK Tryz.prog 31 59 [] c31:=⟨⟨Tryz.f31,Tryz.func31,rfl,by kernel_rfl,rfl,by kernel_rfl⟩⟩
theorem ta_part1 (f : Tree) (hf : Small f) (g : Tree) : PCall Tryz.prog 90 [za7 g,.ipt (drow f)] (.sc (.bool (eqT f g))):=by
 refine zag c90_ok (by simp) (by simp [zao,Pure,zap,zar]) ?_ (by simp [Pure])
 (apply zac; focus (repeat' constructor))
 ((conv=>whnf);repeat(refine⟨rfl,?_⟩;conv=>whnf))
 (refine .inl ⟨_,(zob f g hf),?_⟩; ((conv=>whnf);repeat(refine⟨rfl,?_⟩;conv=>whnf)))
 exact .refl _
theorem zjA (A : List Int) (P : List Tree) (hP : P.length≤1000000) (f : Tree) (hf : Small f) : PCall Tryz.prog 64 [mdat A P,za7 f] (.sc (.int .i64 (idxF (eqT f) P))):=by
 refine zag c64_ok (by simp) (by simp [zao,zdi,zap]) ?_ (by simp [Pure])
 unfold mdat
 (apply zac; focus (repeat' constructor))
 ((conv=>whnf);repeat(refine⟨rfl,?_⟩;conv=>whnf))
 (refine .inr (.inl ⟨_,_,(by (repeat' (first | exact Deep.refl _ | exact Deep.none _ | exact zaF _ | exact DeepL.nil | exact DeepLL.nil | refine Deep.agg _ _ ?_ | refine Deep.tup _ _ ?_ | refine Deep.own _ _ _ _ _ _ _ _ rfl ?_ | refine Deep.loc _ _ _ _ _ rfl ?_ | refine Deep.ifc _ _ _ ?_ | refine Deep.fn _ _ _ _ _ ?_ ?_ | refine DeepL.cons _ _ _ _ ?_ ?_ | refine DeepLL.cons _ _ _ _ ?_ ?_ | exact zaq _))),(zgC P (by omega) (eqT f) 90 [.ipt (drow f)] (by simp [zao,Pure,zar]) fun a _=>ta_part1 f hf a),rfl,?_⟩); ((conv=>whnf);repeat(refine⟨rfl,?_⟩;conv=>whnf)))
 exact .refl _
theorem za1 {t : Tree} {k : Nat} (h : k < t.width) : (zax (t.kids.take k)).length + (zaB (t.kid k)).length≤(zax t.kids).length:=by
 rw [← List.length_append,← zaX h]
 conv=>rhs; rw [← List.take_append_drop (k + 1) t.kids,zc1,List.flatMap_append,← zc1]
 simp
theorem za0 {t : Tree} {k : Nat} (h : k < t.width) : (zau (t.kids.take k)).length + (zaC (t.kid k)).length≤(zau t.kids).length:=by
 rw [← List.length_append,← zaY h]
 conv=>rhs; rw [← List.take_append_drop (k + 1) t.kids,zc8,List.flatMap_append,← zc8]
 simp
def GathI (t : Tree) : Prop:=∀ (A : List Int) (P : List Tree),A.length + (zaB t).length≤1000→P.length + (zaC t).length≤1000 →
  ACall Tryz.prog 31 [.loc 0 0,za7 t] (za6 A P) (.tup []) (za6 (addI A (zaB t)) (addT P (zaC t)))
theorem zn8 : ∀ t : Tree,t.wf zaE→GathI t:=by
 intro t
 induction t using Tree.ind with
 | h t ih =>
  intro hwf A P hA hP
  have hs:=zd9 t hwf
  have hsz:=hs.width
  have har:=zcp ((zcO _ _).1 hwf).1
  refine zcm c31_ok (by simp) (by simp [za6]) ?_ trivial
  have eA:=zfo t
  have eP:=zfr t
  have hlA:=zcI (zaB t) A
  unfold za6
  (apply zac; focus (repeat' constructor))
  ((conv=>whnf);repeat(refine⟨rfl,?_⟩;conv=>whnf))
  (refine zab (fun k3=>?_) (fun k3=>?_) <;> (rw [k3]; ((conv=>whnf);repeat(refine⟨rfl,?_⟩;conv=>whnf))))
  ·have k3 : t.kind = 3:=by simpa using k3
   rw [if_pos k3] at eA
   rw [if_neg (by omega)] at eP
   rw [eA,List.length_append,List.length_singleton] at hA
   (refine .inr (.inl ⟨_,_,(by (repeat' (first | exact Deep.refl _ | exact za8 (by first | (simp; done) | (simp [i64s]; done)) | exact Deep.none _ | exact zaF _ | exact DeepL.nil | exact DeepLL.nil | refine Deep.agg _ _ ?_ | refine Deep.tup _ _ ?_ | refine Deep.own _ _ _ _ _ _ _ _ rfl ?_ | refine Deep.loc _ _ _ _ _ rfl ?_ | refine Deep.ifc _ _ _ ?_ | refine Deep.fn _ _ _ _ _ ?_ ?_ | refine DeepL.cons _ _ _ _ ?_ ?_ | refine DeepLL.cons _ _ _ _ ?_ ?_ | exact zaq _))),(zj8 A (by omega) t.num),rfl,?_⟩); ((conv=>whnf);repeat(refine⟨rfl,?_⟩;conv=>whnf)))
   cases r : A.contains t.num
   ·have hA1 : addI A [t.num] = A ++ [t.num]:=by rw [zf9,if_neg (by rw [r]; decide)]
    ((conv=>whnf);repeat(refine⟨rfl,?_⟩;conv=>whnf))
    refine ⟨(by unfold zaj; simp only [ll]; omega),?_⟩
    ((conv=>whnf);repeat(refine⟨rfl,?_⟩;conv=>whnf))
    refine zaA (zal 5 (env':=[(0,.loc 0 0),(49,.lst 3 (t.kids.map zbo)),(50,.sc (.int .i64 (t.kids.map zbo).length)),(51,.sc (.int .i64 0))]) (H':=[.row true [.own 1 (A.length + 1) 0 (A.length + 1),.own 2 P.length 0 P.length],.vec true (A.length + 1) 1 (i64s (A ++ [t.num])),.vec true P.length 3 (zaL P),.row true (drow t),.vec true 0 1 [[.sc (.int .i64 t.num)]]]) (by simp) rfl ?_ ?_) ?_
    ·(repeat' (first | exact trivial | exact rfl | exact DeepM.refl _ | exact DeepML.refl _ | exact DeepMLL.refl _ | refine And.intro ?_ ?_ | (simp [zai,zae,zak,-List.map_take,-List.map_drop]; done)))
     all_goals first | exact zaa _ (za3 t) | skip
    ·(repeat' (first | exact trivial | exact rfl | exact DeepM.refl _ | exact DeepML.refl _ | exact DeepMLL.refl _ | refine And.intro ?_ ?_ | (simp [zai,zae,zak,-List.map_take,-List.map_drop]; done)))
     all_goals first | exact zad _ (zar _) | exact zah (zaR _ _) | skip
    rw [show A.length + 1 = (A ++ [t.num]).length by simp,← hA1]
    have hP1 : P = addT P []:=rfl
    have lA1 : (addI A [t.num]).length≤A.length + 1:=by rw [hA1]; simp
    have lP1 : P.length≤P.length:=Nat.le_refl _
    have lA : A.length + 1 + (zax t.kids).length≤1000:=by omega
    have lP : P.length + (zau t.kids).length≤1000:=by rw [eP,List.nil_append] at hP; exact hP
    rw [eA,eP,zcg,List.nil_append]
    generalize addI A [t.num] = A1 at *
    refine zaz [0,49,50] (fun k : Nat=>[(51,.sc (.int .i64 k))]) (fun k=>za6 (addI A1 (zax (t.kids.take k))) (addT P (zau (t.kids.take k))) ++ [.row true (drow t),.vec true 0 1 [[.sc (.int .i64 t.num)]]]) (fun k=>k≤t.width) (fun k=>t.width - k) 0 ?_
    ((conv=>whnf);repeat(refine⟨rfl,?_⟩;conv=>whnf))
    refine ⟨by omega,by (repeat' (first | exact trivial | refine And.intro rfl ?_)),rfl,?_⟩
    rintro k hk
    have lak:=zcI (zax (t.kids.take k)) A1
    have lpk:=zbv (zau (t.kids.take k)) P
    unfold za6
    ((conv=>whnf);repeat(refine⟨rfl,?_⟩;conv=>whnf))
    (apply zac; focus (repeat' constructor))
    ((conv=>whnf);repeat(refine⟨rfl,?_⟩;conv=>whnf))
    (refine zab (fun q0=>?_) (fun q0=>?_) <;> (rw [q0]; ((conv=>whnf);repeat(refine⟨rfl,?_⟩;conv=>whnf))))
    ·have q0 : k < t.width:=by simpa [Tree.width] using q0
     refine ⟨by omega,_,zaZ q0,?_⟩
     ((conv=>whnf);repeat(refine⟨rfl,?_⟩;conv=>whnf))
     have eA2:=zaX q0
     have eP2:=zaY q0
     have tA : (zax (t.kids.take k)).length + (zaB (t.kid k)).length≤(zax t.kids).length:=za1 q0
     have tP : (zau (t.kids.take k)).length + (zaC (t.kid k)).length≤(zau t.kids).length:=za0 q0
     have hG:=zbh (ih k q0 (zbB hwf q0) (addI A1 (zax (t.kids.take k))) (addT P (zau (t.kids.take k))) (by omega) (by omega)) [.row true (drow t),.vec true 0 1 [[.sc (.int .i64 t.num)]],.row true (drow (t.kid k))] (by simp [za6]) (by simp [za6,zae,zai,zaf _ (zap _)]) (zbH (by simp [za6]))
     rw [← zcg,← zaV,← eA2,← eP2] at hG
     unfold za6 at hG
     (refine .inr (.inr (.inl ⟨rfl,_,_,hG,?_⟩)); ((conv=>whnf);repeat(refine⟨rfl,?_⟩;conv=>whnf)))
     (refine .inl ⟨by (unfold InR; rw [IntKind.wrap_i64]; omega),?_⟩; ((conv=>whnf);repeat(refine⟨rfl,?_⟩;conv=>whnf)))
     refine ⟨k + 1,by omega,by dsimp only; omega,?_⟩
     dsimp only
     (refine zal 5 (by simp) rfl ?_ ?_ <;> (repeat' (first | exact trivial | exact rfl | exact DeepM.refl _ | exact DeepML.refl _ | exact DeepMLL.refl _ | refine And.intro ?_ ?_ | (simp [zai,zae,zak,-List.map_take,-List.map_drop]; done))))
     all_goals first | exact zad _ (zar _) | exact zaa _ (za3 t) | skip
    ·have q0 : k = t.width:=by have : ¬ k < t.width:=by simpa [Tree.width] using q0
                               omega
     subst q0
     rw [show t.kids.take t.width = t.kids from List.take_length]
     exact ⟨.refl _,zaK _ _ (zbU (Nat.le_refl _))⟩
   ·have hA1 : addI A [t.num] = A:=by rw [zf9,if_pos r]
    ((conv=>whnf);repeat(refine⟨rfl,?_⟩;conv=>whnf))
    have lA1 : A.length≤A.length:=Nat.le_refl _
    have lP1 : P.length≤P.length:=Nat.le_refl _
    have lA : A.length + (zax t.kids).length≤1000:=by omega
    have lP : P.length + (zau t.kids).length≤1000:=by rw [eP,List.nil_append] at hP; exact hP
    rw [eA,eP,zcg,List.nil_append,hA1]
    refine zaz [0,49,50] (fun k : Nat=>[(51,.sc (.int .i64 k))]) (fun k=>za6 (addI A (zax (t.kids.take k))) (addT P (zau (t.kids.take k))) ++ [.row true (drow t)]) (fun k=>k≤t.width) (fun k=>t.width - k) 0 ?_
    ((conv=>whnf);repeat(refine⟨rfl,?_⟩;conv=>whnf))
    refine ⟨by omega,by (repeat' (first | exact trivial | refine And.intro rfl ?_)),rfl,?_⟩
    rintro k hk
    have lak:=zcI (zax (t.kids.take k)) A
    have lpk:=zbv (zau (t.kids.take k)) P
    unfold za6
    ((conv=>whnf);repeat(refine⟨rfl,?_⟩;conv=>whnf))
    (apply zac; focus (repeat' constructor))
    ((conv=>whnf);repeat(refine⟨rfl,?_⟩;conv=>whnf))
    (refine zab (fun q0=>?_) (fun q0=>?_) <;> (rw [q0]; ((conv=>whnf);repeat(refine⟨rfl,?_⟩;conv=>whnf))))
    ·have q0 : k < t.width:=by simpa [Tree.width] using q0
     refine ⟨by omega,_,zaZ q0,?_⟩
     ((conv=>whnf);repeat(refine⟨rfl,?_⟩;conv=>whnf))
     have eA2:=zaX q0
     have eP2:=zaY q0
     have tA : (zax (t.kids.take k)).length + (zaB (t.kid k)).length≤(zax t.kids).length:=za1 q0
     have tP : (zau (t.kids.take k)).length + (zaC (t.kid k)).length≤(zau t.kids).length:=za0 q0
     have hG:=zbh (ih k q0 (zbB hwf q0) (addI A (zax (t.kids.take k))) (addT P (zau (t.kids.take k))) (by omega) (by omega)) [.row true (drow t),.row true (drow (t.kid k))] (by simp [za6]) (by simp [za6,zae,zai,zaf _ (zap _)]) (zbH (by simp [za6]))
     rw [← zcg,← zaV,← eA2,← eP2] at hG
     unfold za6 at hG
     (refine .inr (.inr (.inl ⟨rfl,_,_,hG,?_⟩)); ((conv=>whnf);repeat(refine⟨rfl,?_⟩;conv=>whnf)))
     (refine .inl ⟨by (unfold InR; rw [IntKind.wrap_i64]; omega),?_⟩; ((conv=>whnf);repeat(refine⟨rfl,?_⟩;conv=>whnf)))
     refine ⟨k + 1,by omega,by dsimp only; omega,?_⟩
     dsimp only
     (refine zal 4 (by simp) rfl ?_ ?_ <;> (repeat' (first | exact trivial | exact rfl | exact DeepM.refl _ | exact DeepML.refl _ | exact DeepMLL.refl _ | refine And.intro ?_ ?_ | (simp [zai,zae,zak,-List.map_take,-List.map_drop]; done))))
     all_goals first | exact zad _ (zar _) | exact zaa _ (za3 t) | skip
    ·have q0 : k = t.width:=by have : ¬ k < t.width:=by simpa [Tree.width] using q0
                               omega
     subst q0
     rw [show t.kids.take t.width = t.kids from List.take_length]
     exact ⟨.refl _,zaK _ _ (zbU (Nat.le_refl _))⟩
  have k3 : ¬ t.kind = 3:=by simpa using k3
  rw [if_neg k3,List.nil_append] at eA
  rw [eA] at hA
  have arm : (t.kind = 7∨t.kind = 8∨t.kind = 9)→t.kind = 7∨t.kind = 8∨t.kind = 9:=id
  have lA1 : A.length≤A.length:=Nat.le_refl _
  have lP1 : P.length≤P.length:=Nat.le_refl _
  (refine zab (fun k7=>?_) (fun k7=>?_) <;> (rw [k7]; ((conv=>whnf);repeat(refine⟨rfl,?_⟩;conv=>whnf))))
  ·have k7 : t.kind = 7∨t.kind = 8∨t.kind = 9:=.inl (by simpa using k7)
   rw [if_pos k7] at eP
   rw [eP,List.length_append,List.length_singleton] at hP
   (refine .inr (.inl ⟨_,_,(by (repeat' (first | exact Deep.refl _ | exact za8 (by first | (simp; done) | (simp [i64s]; done)) | exact Deep.none _ | exact zaF _ | exact DeepL.nil | exact DeepLL.nil | refine Deep.agg _ _ ?_ | refine Deep.tup _ _ ?_ | refine Deep.own _ _ _ _ _ _ _ _ rfl ?_ | refine Deep.loc _ _ _ _ _ rfl ?_ | refine Deep.ifc _ _ _ ?_ | refine Deep.fn _ _ _ _ _ ?_ ?_ | refine DeepL.cons _ _ _ _ ?_ ?_ | refine DeepLL.cons _ _ _ _ ?_ ?_ | exact zaq _))),(zjA A P (by omega) t hs),rfl,?_⟩); ((conv=>whnf);repeat(refine⟨rfl,?_⟩;conv=>whnf)))
   have hany:=zdb (eqT t) P
   cases r : P.any (eqT t)
   ·have hlt : (idxF (eqT t) P < 0):=by rw [r,decide_eq_false_iff_not] at hany; omega
    have hP1 : addT P [t] = P ++ [t]:=by rw [zcf,if_neg (by rw [r]; decide)]
    rw [decide_eq_true hlt]
    ((conv=>whnf);repeat(refine⟨rfl,?_⟩;conv=>whnf))
    refine ⟨(by unfold zaj; simp only [ll]; omega),?_⟩
    ((conv=>whnf);repeat(refine⟨rfl,?_⟩;conv=>whnf))
    (refine ⟨by omega,(by first | omega | (simp; done) | (simp; omega) | (simp only [ll]; omega)),?_⟩; ((conv=>whnf);repeat(refine⟨rfl,?_⟩;conv=>whnf)))
    refine ⟨_,zeK P _,?_⟩
    ((conv=>whnf);repeat(refine⟨rfl,?_⟩;conv=>whnf))
    refine zaA (zal 5 (env':=[(0,.loc 0 0),(49,.lst 3 (t.kids.map zbo)),(50,.sc (.int .i64 (t.kids.map zbo).length)),(51,.sc (.int .i64 0))]) (H':=[.row true [.own 1 A.length 0 A.length,.own 2 (P.length + 1) 0 (P.length + 1)],.vec true A.length 1 (i64s A),.vec true (P.length + 1) 3 (zaL (P ++ [t])),.row true (drow t),.vec true 0 3 [[.sc (.int .i64 0),.sc (.int .i64 0),.sc (.slice none 0 0)]]]) (by simp) rfl ?_ ?_) ?_
    ·(repeat' (first | exact trivial | exact rfl | exact DeepM.refl _ | exact DeepML.refl _ | exact DeepMLL.refl _ | refine And.intro ?_ ?_ | (simp [zai,zae,zak,-List.map_take,-List.map_drop]; done)))
     all_goals first | exact zaa _ (za3 t) | skip
    ·(repeat' (first | exact trivial | exact rfl | exact DeepM.refl _ | exact DeepML.refl _ | exact DeepMLL.refl _ | refine And.intro ?_ ?_ | (simp [zai,zae,zak,-List.map_take,-List.map_drop]; done)))
     all_goals first | exact zad _ (zar _) | exact zah (zdM P t _) | skip
    rw [show P.length + 1 = (P ++ [t]).length by simp,← hP1]
    have lP1' : (addT P [t]).length≤P.length + 1:=by rw [hP1]; simp
    have lA : A.length + (zax t.kids).length≤1000:=hA
    have lP : P.length + 1 + (zau t.kids).length≤1000:=by omega
    rw [eA,eP,zaV]
    generalize addT P [t] = P1 at *
    refine zaz [0,49,50] (fun k : Nat=>[(51,.sc (.int .i64 k))]) (fun k=>za6 (addI A (zax (t.kids.take k))) (addT P1 (zau (t.kids.take k))) ++ [.row true (drow t),.vec true 0 3 [[.sc (.int .i64 0),.sc (.int .i64 0),.sc (.slice none 0 0)]]]) (fun k=>k≤t.width) (fun k=>t.width - k) 0 ?_
    ((conv=>whnf);repeat(refine⟨rfl,?_⟩;conv=>whnf))
    refine ⟨by omega,by (repeat' (first | exact trivial | refine And.intro rfl ?_)),rfl,?_⟩
    rintro k hk
    have lak:=zcI (zax (t.kids.take k)) A
    have lpk:=zbv (zau (t.kids.take k)) P1
    unfold za6
    ((conv=>whnf);repeat(refine⟨rfl,?_⟩;conv=>whnf))
    (apply zac; focus (repeat' constructor))
    ((conv=>whnf);repeat(refine⟨rfl,?_⟩;conv=>whnf))
    (refine zab (fun q0=>?_) (fun q0=>?_) <;> (rw [q0]; ((conv=>whnf);repeat(refine⟨rfl,?_⟩;conv=>whnf))))
    ·have q0 : k < t.width:=by simpa [Tree.width] using q0
     refine ⟨by omega,_,zaZ q0,?_⟩
     ((conv=>whnf);repeat(refine⟨rfl,?_⟩;conv=>whnf))
     have eA2:=zaX q0
     have eP2:=zaY q0
     have tA : (zax (t.kids.take k)).length + (zaB (t.kid k)).length≤(zax t.kids).length:=za1 q0
     have tP : (zau (t.kids.take k)).length + (zaC (t.kid k)).length≤(zau t.kids).length:=za0 q0
     have hG:=zbh (ih k q0 (zbB hwf q0) (addI A (zax (t.kids.take k))) (addT P1 (zau (t.kids.take k))) (by omega) (by omega)) [.row true (drow t),.vec true 0 3 [[.sc (.int .i64 0),.sc (.int .i64 0),.sc (.slice none 0 0)]],.row true (drow (t.kid k))] (by simp [za6]) (by simp [za6,zae,zai,zaf _ (zap _)]) (zbH (by simp [za6]))
     rw [← zcg,← zaV,← eA2,← eP2] at hG
     unfold za6 at hG
     (refine .inr (.inr (.inl ⟨rfl,_,_,hG,?_⟩)); ((conv=>whnf);repeat(refine⟨rfl,?_⟩;conv=>whnf)))
     (refine .inl ⟨by (unfold InR; rw [IntKind.wrap_i64]; omega),?_⟩; ((conv=>whnf);repeat(refine⟨rfl,?_⟩;conv=>whnf)))
     refine ⟨k + 1,by omega,by dsimp only; omega,?_⟩
     dsimp only
     (refine zal 5 (by simp) rfl ?_ ?_ <;> (repeat' (first | exact trivial | exact rfl | exact DeepM.refl _ | exact DeepML.refl _ | exact DeepMLL.refl _ | refine And.intro ?_ ?_ | (simp [zai,zae,zak,-List.map_take,-List.map_drop]; done))))
     all_goals first | exact zad _ (zar _) | exact zaa _ (za3 t) | skip
    ·have q0 : k = t.width:=by have : ¬ k < t.width:=by simpa [Tree.width] using q0
                               omega
     subst q0
     rw [show t.kids.take t.width = t.kids from List.take_length]
     exact ⟨.refl _,zaK _ _ (zbU (Nat.le_refl _))⟩
   ·have hlt : ¬ (idxF (eqT t) P < 0):=by rw [r,decide_eq_true_eq] at hany; omega
    have hP1 : addT P [t] = P:=by rw [zcf,if_pos r]
    rw [decide_eq_false hlt]
    ((conv=>whnf);repeat(refine⟨rfl,?_⟩;conv=>whnf))
    have lA : A.length + (zax t.kids).length≤1000:=hA
    have lP : P.length + (zau t.kids).length≤1000:=by omega
    rw [eA,eP,zaV,hP1]
    refine zaz [0,49,50] (fun k : Nat=>[(51,.sc (.int .i64 k))]) (fun k=>za6 (addI A (zax (t.kids.take k))) (addT P (zau (t.kids.take k))) ++ [.row true (drow t)]) (fun k=>k≤t.width) (fun k=>t.width - k) 0 ?_
    ((conv=>whnf);repeat(refine⟨rfl,?_⟩;conv=>whnf))
    refine ⟨by omega,by (repeat' (first | exact trivial | refine And.intro rfl ?_)),rfl,?_⟩
    rintro k hk
    have lak:=zcI (zax (t.kids.take k)) A
    have lpk:=zbv (zau (t.kids.take k)) P
    unfold za6
    ((conv=>whnf);repeat(refine⟨rfl,?_⟩;conv=>whnf))
    (apply zac; focus (repeat' constructor))
    ((conv=>whnf);repeat(refine⟨rfl,?_⟩;conv=>whnf))
    (refine zab (fun q0=>?_) (fun q0=>?_) <;> (rw [q0]; ((conv=>whnf);repeat(refine⟨rfl,?_⟩;conv=>whnf))))
    ·have q0 : k < t.width:=by simpa [Tree.width] using q0
     refine ⟨by omega,_,zaZ q0,?_⟩
     ((conv=>whnf);repeat(refine⟨rfl,?_⟩;conv=>whnf))
     have eA2:=zaX q0
     have eP2:=zaY q0
     have tA : (zax (t.kids.take k)).length + (zaB (t.kid k)).length≤(zax t.kids).length:=za1 q0
     have tP : (zau (t.kids.take k)).length + (zaC (t.kid k)).length≤(zau t.kids).length:=za0 q0
     have hG:=zbh (ih k q0 (zbB hwf q0) (addI A (zax (t.kids.take k))) (addT P (zau (t.kids.take k))) (by omega) (by omega)) [.row true (drow t),.row true (drow (t.kid k))] (by simp [za6]) (by simp [za6,zae,zai,zaf _ (zap _)]) (zbH (by simp [za6]))
     rw [← zcg,← zaV,← eA2,← eP2] at hG
     unfold za6 at hG
     (refine .inr (.inr (.inl ⟨rfl,_,_,hG,?_⟩)); ((conv=>whnf);repeat(refine⟨rfl,?_⟩;conv=>whnf)))
     (refine .inl ⟨by (unfold InR; rw [IntKind.wrap_i64]; omega),?_⟩; ((conv=>whnf);repeat(refine⟨rfl,?_⟩;conv=>whnf)))
     refine ⟨k + 1,by omega,by dsimp only; omega,?_⟩
     dsimp only
     (refine zal 4 (by simp) rfl ?_ ?_ <;> (repeat' (first | exact trivial | exact rfl | exact DeepM.refl _ | exact DeepML.refl _ | exact DeepMLL.refl _ | refine And.intro ?_ ?_ | (simp [zai,zae,zak,-List.map_take,-List.map_drop]; done))))
     all_goals first | exact zad _ (zar _) | exact zaa _ (za3 t) | skip
    ·have q0 : k = t.width:=by have : ¬ k < t.width:=by simpa [Tree.width] using q0
                               omega
     subst q0
     rw [show t.kids.take t.width = t.kids from List.take_length]
     exact ⟨.refl _,zaK _ _ (zbU (Nat.le_refl _))⟩
  (refine zab (fun k8=>?_) (fun k8=>?_) <;> (rw [k8]; ((conv=>whnf);repeat(refine⟨rfl,?_⟩;conv=>whnf))))
  ·have k7 : t.kind = 7∨t.kind = 8∨t.kind = 9:=.inr (.inl (by simpa using k8))
   rw [if_pos k7] at eP
   rw [eP,List.length_append,List.length_singleton] at hP
   (refine .inr (.inl ⟨_,_,(by (repeat' (first | exact Deep.refl _ | exact za8 (by first | (simp; done) | (simp [i64s]; done)) | exact Deep.none _ | exact zaF _ | exact DeepL.nil | exact DeepLL.nil | refine Deep.agg _ _ ?_ | refine Deep.tup _ _ ?_ | refine Deep.own _ _ _ _ _ _ _ _ rfl ?_ | refine Deep.loc _ _ _ _ _ rfl ?_ | refine Deep.ifc _ _ _ ?_ | refine Deep.fn _ _ _ _ _ ?_ ?_ | refine DeepL.cons _ _ _ _ ?_ ?_ | refine DeepLL.cons _ _ _ _ ?_ ?_ | exact zaq _))),(zjA A P (by omega) t hs),rfl,?_⟩); ((conv=>whnf);repeat(refine⟨rfl,?_⟩;conv=>whnf)))
   have hany:=zdb (eqT t) P
   cases r : P.any (eqT t)
   ·have hlt : (idxF (eqT t) P < 0):=by rw [r,decide_eq_false_iff_not] at hany; omega
    have hP1 : addT P [t] = P ++ [t]:=by rw [zcf,if_neg (by rw [r]; decide)]
    rw [decide_eq_true hlt]
    ((conv=>whnf);repeat(refine⟨rfl,?_⟩;conv=>whnf))
    refine ⟨(by unfold zaj; simp only [ll]; omega),?_⟩
    ((conv=>whnf);repeat(refine⟨rfl,?_⟩;conv=>whnf))
    (refine ⟨by omega,(by first | omega | (simp; done) | (simp; omega) | (simp only [ll]; omega)),?_⟩; ((conv=>whnf);repeat(refine⟨rfl,?_⟩;conv=>whnf)))
    refine ⟨_,zeK P _,?_⟩
    ((conv=>whnf);repeat(refine⟨rfl,?_⟩;conv=>whnf))
    refine zaA (zal 5 (env':=[(0,.loc 0 0),(49,.lst 3 (t.kids.map zbo)),(50,.sc (.int .i64 (t.kids.map zbo).length)),(51,.sc (.int .i64 0))]) (H':=[.row true [.own 1 A.length 0 A.length,.own 2 (P.length + 1) 0 (P.length + 1)],.vec true A.length 1 (i64s A),.vec true (P.length + 1) 3 (zaL (P ++ [t])),.row true (drow t),.vec true 0 3 [[.sc (.int .i64 0),.sc (.int .i64 0),.sc (.slice none 0 0)]]]) (by simp) rfl ?_ ?_) ?_
    ·(repeat' (first | exact trivial | exact rfl | exact DeepM.refl _ | exact DeepML.refl _ | exact DeepMLL.refl _ | refine And.intro ?_ ?_ | (simp [zai,zae,zak,-List.map_take,-List.map_drop]; done)))
     all_goals first | exact zaa _ (za3 t) | skip
    ·(repeat' (first | exact trivial | exact rfl | exact DeepM.refl _ | exact DeepML.refl _ | exact DeepMLL.refl _ | refine And.intro ?_ ?_ | (simp [zai,zae,zak,-List.map_take,-List.map_drop]; done)))
     all_goals first | exact zad _ (zar _) | exact zah (zdM P t _) | skip
    rw [show P.length + 1 = (P ++ [t]).length by simp,← hP1]
    have lP1' : (addT P [t]).length≤P.length + 1:=by rw [hP1]; simp
    have lA : A.length + (zax t.kids).length≤1000:=hA
    have lP : P.length + 1 + (zau t.kids).length≤1000:=by omega
    rw [eA,eP,zaV]
    generalize addT P [t] = P1 at *
    refine zaz [0,49,50] (fun k : Nat=>[(51,.sc (.int .i64 k))]) (fun k=>za6 (addI A (zax (t.kids.take k))) (addT P1 (zau (t.kids.take k))) ++ [.row true (drow t),.vec true 0 3 [[.sc (.int .i64 0),.sc (.int .i64 0),.sc (.slice none 0 0)]]]) (fun k=>k≤t.width) (fun k=>t.width - k) 0 ?_
    ((conv=>whnf);repeat(refine⟨rfl,?_⟩;conv=>whnf))
    refine ⟨by omega,by (repeat' (first | exact trivial | refine And.intro rfl ?_)),rfl,?_⟩
    rintro k hk
    have lak:=zcI (zax (t.kids.take k)) A
    have lpk:=zbv (zau (t.kids.take k)) P1
    unfold za6
    ((conv=>whnf);repeat(refine⟨rfl,?_⟩;conv=>whnf))
    (apply zac; focus (repeat' constructor))
    ((conv=>whnf);repeat(refine⟨rfl,?_⟩;conv=>whnf))
    (refine zab (fun q0=>?_) (fun q0=>?_) <;> (rw [q0]; ((conv=>whnf);repeat(refine⟨rfl,?_⟩;conv=>whnf))))
    ·have q0 : k < t.width:=by simpa [Tree.width] using q0
     refine ⟨by omega,_,zaZ q0,?_⟩
     ((conv=>whnf);repeat(refine⟨rfl,?_⟩;conv=>whnf))
     have eA2:=zaX q0
     have eP2:=zaY q0
     have tA : (zax (t.kids.take k)).length + (zaB (t.kid k)).length≤(zax t.kids).length:=za1 q0
     have tP : (zau (t.kids.take k)).length + (zaC (t.kid k)).length≤(zau t.kids).length:=za0 q0
     have hG:=zbh (ih k q0 (zbB hwf q0) (addI A (zax (t.kids.take k))) (addT P1 (zau (t.kids.take k))) (by omega) (by omega)) [.row true (drow t),.vec true 0 3 [[.sc (.int .i64 0),.sc (.int .i64 0),.sc (.slice none 0 0)]],.row true (drow (t.kid k))] (by simp [za6]) (by simp [za6,zae,zai,zaf _ (zap _)]) (zbH (by simp [za6]))
     rw [← zcg,← zaV,← eA2,← eP2] at hG
     unfold za6 at hG
     (refine .inr (.inr (.inl ⟨rfl,_,_,hG,?_⟩)); ((conv=>whnf);repeat(refine⟨rfl,?_⟩;conv=>whnf)))
     (refine .inl ⟨by (unfold InR; rw [IntKind.wrap_i64]; omega),?_⟩; ((conv=>whnf);repeat(refine⟨rfl,?_⟩;conv=>whnf)))
     refine ⟨k + 1,by omega,by dsimp only; omega,?_⟩
     dsimp only
     (refine zal 5 (by simp) rfl ?_ ?_ <;> (repeat' (first | exact trivial | exact rfl | exact DeepM.refl _ | exact DeepML.refl _ | exact DeepMLL.refl _ | refine And.intro ?_ ?_ | (simp [zai,zae,zak,-List.map_take,-List.map_drop]; done))))
     all_goals first | exact zad _ (zar _) | exact zaa _ (za3 t) | skip
    ·have q0 : k = t.width:=by have : ¬ k < t.width:=by simpa [Tree.width] using q0
                               omega
     subst q0
     rw [show t.kids.take t.width = t.kids from List.take_length]
     exact ⟨.refl _,zaK _ _ (zbU (Nat.le_refl _))⟩
   ·have hlt : ¬ (idxF (eqT t) P < 0):=by rw [r,decide_eq_true_eq] at hany; omega
    have hP1 : addT P [t] = P:=by rw [zcf,if_pos r]
    rw [decide_eq_false hlt]
    ((conv=>whnf);repeat(refine⟨rfl,?_⟩;conv=>whnf))
    have lA : A.length + (zax t.kids).length≤1000:=hA
    have lP : P.length + (zau t.kids).length≤1000:=by omega
    rw [eA,eP,zaV,hP1]
    refine zaz [0,49,50] (fun k : Nat=>[(51,.sc (.int .i64 k))]) (fun k=>za6 (addI A (zax (t.kids.take k))) (addT P (zau (t.kids.take k))) ++ [.row true (drow t)]) (fun k=>k≤t.width) (fun k=>t.width - k) 0 ?_
    ((conv=>whnf);repeat(refine⟨rfl,?_⟩;conv=>whnf))
    refine ⟨by omega,by (repeat' (first | exact trivial | refine And.intro rfl ?_)),rfl,?_⟩
    rintro k hk
    have lak:=zcI (zax (t.kids.take k)) A
    have lpk:=zbv (zau (t.kids.take k)) P
    unfold za6
    ((conv=>whnf);repeat(refine⟨rfl,?_⟩;conv=>whnf))
    (apply zac; focus (repeat' constructor))
    ((conv=>whnf);repeat(refine⟨rfl,?_⟩;conv=>whnf))
    (refine zab (fun q0=>?_) (fun q0=>?_) <;> (rw [q0]; ((conv=>whnf);repeat(refine⟨rfl,?_⟩;conv=>whnf))))
    ·have q0 : k < t.width:=by simpa [Tree.width] using q0
     refine ⟨by omega,_,zaZ q0,?_⟩
     ((conv=>whnf);repeat(refine⟨rfl,?_⟩;conv=>whnf))
     have eA2:=zaX q0
     have eP2:=zaY q0
     have tA : (zax (t.kids.take k)).length + (zaB (t.kid k)).length≤(zax t.kids).length:=za1 q0
     have tP : (zau (t.kids.take k)).length + (zaC (t.kid k)).length≤(zau t.kids).length:=za0 q0
     have hG:=zbh (ih k q0 (zbB hwf q0) (addI A (zax (t.kids.take k))) (addT P (zau (t.kids.take k))) (by omega) (by omega)) [.row true (drow t),.row true (drow (t.kid k))] (by simp [za6]) (by simp [za6,zae,zai,zaf _ (zap _)]) (zbH (by simp [za6]))
     rw [← zcg,← zaV,← eA2,← eP2] at hG
     unfold za6 at hG
     (refine .inr (.inr (.inl ⟨rfl,_,_,hG,?_⟩)); ((conv=>whnf);repeat(refine⟨rfl,?_⟩;conv=>whnf)))
     (refine .inl ⟨by (unfold InR; rw [IntKind.wrap_i64]; omega),?_⟩; ((conv=>whnf);repeat(refine⟨rfl,?_⟩;conv=>whnf)))
     refine ⟨k + 1,by omega,by dsimp only; omega,?_⟩
     dsimp only
     (refine zal 4 (by simp) rfl ?_ ?_ <;> (repeat' (first | exact trivial | exact rfl | exact DeepM.refl _ | exact DeepML.refl _ | exact DeepMLL.refl _ | refine And.intro ?_ ?_ | (simp [zai,zae,zak,-List.map_take,-List.map_drop]; done))))
     all_goals first | exact zad _ (zar _) | exact zaa _ (za3 t) | skip
    ·have q0 : k = t.width:=by have : ¬ k < t.width:=by simpa [Tree.width] using q0
                               omega
     subst q0
     rw [show t.kids.take t.width = t.kids from List.take_length]
     exact ⟨.refl _,zaK _ _ (zbU (Nat.le_refl _))⟩
  (refine zab (fun k9=>?_) (fun k9=>?_) <;> (rw [k9]; ((conv=>whnf);repeat(refine⟨rfl,?_⟩;conv=>whnf))))
  ·have k7 : t.kind = 7∨t.kind = 8∨t.kind = 9:=.inr (.inr (by simpa using k9))
   rw [if_pos k7] at eP
   rw [eP,List.length_append,List.length_singleton] at hP
   (refine .inr (.inl ⟨_,_,(by (repeat' (first | exact Deep.refl _ | exact za8 (by first | (simp; done) | (simp [i64s]; done)) | exact Deep.none _ | exact zaF _ | exact DeepL.nil | exact DeepLL.nil | refine Deep.agg _ _ ?_ | refine Deep.tup _ _ ?_ | refine Deep.own _ _ _ _ _ _ _ _ rfl ?_ | refine Deep.loc _ _ _ _ _ rfl ?_ | refine Deep.ifc _ _ _ ?_ | refine Deep.fn _ _ _ _ _ ?_ ?_ | refine DeepL.cons _ _ _ _ ?_ ?_ | refine DeepLL.cons _ _ _ _ ?_ ?_ | exact zaq _))),(zjA A P (by omega) t hs),rfl,?_⟩); ((conv=>whnf);repeat(refine⟨rfl,?_⟩;conv=>whnf)))
   have hany:=zdb (eqT t) P
   cases r : P.any (eqT t)
   ·have hlt : (idxF (eqT t) P < 0):=by rw [r,decide_eq_false_iff_not] at hany; omega
    have hP1 : addT P [t] = P ++ [t]:=by rw [zcf,if_neg (by rw [r]; decide)]
    rw [decide_eq_true hlt]
    ((conv=>whnf);repeat(refine⟨rfl,?_⟩;conv=>whnf))
    refine ⟨(by unfold zaj; simp only [ll]; omega),?_⟩
    ((conv=>whnf);repeat(refine⟨rfl,?_⟩;conv=>whnf))
    (refine ⟨by omega,(by first | omega | (simp; done) | (simp; omega) | (simp only [ll]; omega)),?_⟩; ((conv=>whnf);repeat(refine⟨rfl,?_⟩;conv=>whnf)))
    refine ⟨_,zeK P _,?_⟩
    ((conv=>whnf);repeat(refine⟨rfl,?_⟩;conv=>whnf))
    refine zaA (zal 5 (env':=[(0,.loc 0 0),(49,.lst 3 (t.kids.map zbo)),(50,.sc (.int .i64 (t.kids.map zbo).length)),(51,.sc (.int .i64 0))]) (H':=[.row true [.own 1 A.length 0 A.length,.own 2 (P.length + 1) 0 (P.length + 1)],.vec true A.length 1 (i64s A),.vec true (P.length + 1) 3 (zaL (P ++ [t])),.row true (drow t),.vec true 0 3 [[.sc (.int .i64 0),.sc (.int .i64 0),.sc (.slice none 0 0)]]]) (by simp) rfl ?_ ?_) ?_
    ·(repeat' (first | exact trivial | exact rfl | exact DeepM.refl _ | exact DeepML.refl _ | exact DeepMLL.refl _ | refine And.intro ?_ ?_ | (simp [zai,zae,zak,-List.map_take,-List.map_drop]; done)))
     all_goals first | exact zaa _ (za3 t) | skip
    ·(repeat' (first | exact trivial | exact rfl | exact DeepM.refl _ | exact DeepML.refl _ | exact DeepMLL.refl _ | refine And.intro ?_ ?_ | (simp [zai,zae,zak,-List.map_take,-List.map_drop]; done)))
     all_goals first | exact zad _ (zar _) | exact zah (zdM P t _) | skip
    rw [show P.length + 1 = (P ++ [t]).length by simp,← hP1]
    have lP1' : (addT P [t]).length≤P.length + 1:=by rw [hP1]; simp
    have lA : A.length + (zax t.kids).length≤1000:=hA
    have lP : P.length + 1 + (zau t.kids).length≤1000:=by omega
    rw [eA,eP,zaV]
    generalize addT P [t] = P1 at *
    refine zaz [0,49,50] (fun k : Nat=>[(51,.sc (.int .i64 k))]) (fun k=>za6 (addI A (zax (t.kids.take k))) (addT P1 (zau (t.kids.take k))) ++ [.row true (drow t),.vec true 0 3 [[.sc (.int .i64 0),.sc (.int .i64 0),.sc (.slice none 0 0)]]]) (fun k=>k≤t.width) (fun k=>t.width - k) 0 ?_
    ((conv=>whnf);repeat(refine⟨rfl,?_⟩;conv=>whnf))
    refine ⟨by omega,by (repeat' (first | exact trivial | refine And.intro rfl ?_)),rfl,?_⟩
    rintro k hk
    have lak:=zcI (zax (t.kids.take k)) A
    have lpk:=zbv (zau (t.kids.take k)) P1
    unfold za6
    ((conv=>whnf);repeat(refine⟨rfl,?_⟩;conv=>whnf))
    (apply zac; focus (repeat' constructor))
    ((conv=>whnf);repeat(refine⟨rfl,?_⟩;conv=>whnf))
    (refine zab (fun q0=>?_) (fun q0=>?_) <;> (rw [q0]; ((conv=>whnf);repeat(refine⟨rfl,?_⟩;conv=>whnf))))
    ·have q0 : k < t.width:=by simpa [Tree.width] using q0
     refine ⟨by omega,_,zaZ q0,?_⟩
     ((conv=>whnf);repeat(refine⟨rfl,?_⟩;conv=>whnf))
     have eA2:=zaX q0
     have eP2:=zaY q0
     have tA : (zax (t.kids.take k)).length + (zaB (t.kid k)).length≤(zax t.kids).length:=za1 q0
     have tP : (zau (t.kids.take k)).length + (zaC (t.kid k)).length≤(zau t.kids).length:=za0 q0
     have hG:=zbh (ih k q0 (zbB hwf q0) (addI A (zax (t.kids.take k))) (addT P1 (zau (t.kids.take k))) (by omega) (by omega)) [.row true (drow t),.vec true 0 3 [[.sc (.int .i64 0),.sc (.int .i64 0),.sc (.slice none 0 0)]],.row true (drow (t.kid k))] (by simp [za6]) (by simp [za6,zae,zai,zaf _ (zap _)]) (zbH (by simp [za6]))
     rw [← zcg,← zaV,← eA2,← eP2] at hG
     unfold za6 at hG
     (refine .inr (.inr (.inl ⟨rfl,_,_,hG,?_⟩)); ((conv=>whnf);repeat(refine⟨rfl,?_⟩;conv=>whnf)))
     (refine .inl ⟨by (unfold InR; rw [IntKind.wrap_i64]; omega),?_⟩; ((conv=>whnf);repeat(refine⟨rfl,?_⟩;conv=>whnf)))
     refine ⟨k + 1,by omega,by dsimp only; omega,?_⟩
     dsimp only
     (refine zal 5 (by simp) rfl ?_ ?_ <;> (repeat' (first | exact trivial | exact rfl | exact DeepM.refl _ | exact DeepML.refl _ | exact DeepMLL.refl _ | refine And.intro ?_ ?_ | (simp [zai,zae,zak,-List.map_take,-List.map_drop]; done))))
     all_goals first | exact zad _ (zar _) | exact zaa _ (za3 t) | skip
    ·have q0 : k = t.width:=by have : ¬ k < t.width:=by simpa [Tree.width] using q0
                               omega
     subst q0
     rw [show t.kids.take t.width = t.kids from List.take_length]
     exact ⟨.refl _,zaK _ _ (zbU (Nat.le_refl _))⟩
   ·have hlt : ¬ (idxF (eqT t) P < 0):=by rw [r,decide_eq_true_eq] at hany; omega
    have hP1 : addT P [t] = P:=by rw [zcf,if_pos r]
    rw [decide_eq_false hlt]
    ((conv=>whnf);repeat(refine⟨rfl,?_⟩;conv=>whnf))
    have lA : A.length + (zax t.kids).length≤1000:=hA
    have lP : P.length + (zau t.kids).length≤1000:=by omega
    rw [eA,eP,zaV,hP1]
    refine zaz [0,49,50] (fun k : Nat=>[(51,.sc (.int .i64 k))]) (fun k=>za6 (addI A (zax (t.kids.take k))) (addT P (zau (t.kids.take k))) ++ [.row true (drow t)]) (fun k=>k≤t.width) (fun k=>t.width - k) 0 ?_
    ((conv=>whnf);repeat(refine⟨rfl,?_⟩;conv=>whnf))
    refine ⟨by omega,by (repeat' (first | exact trivial | refine And.intro rfl ?_)),rfl,?_⟩
    rintro k hk
    have lak:=zcI (zax (t.kids.take k)) A
    have lpk:=zbv (zau (t.kids.take k)) P
    unfold za6
    ((conv=>whnf);repeat(refine⟨rfl,?_⟩;conv=>whnf))
    (apply zac; focus (repeat' constructor))
    ((conv=>whnf);repeat(refine⟨rfl,?_⟩;conv=>whnf))
    (refine zab (fun q0=>?_) (fun q0=>?_) <;> (rw [q0]; ((conv=>whnf);repeat(refine⟨rfl,?_⟩;conv=>whnf))))
    ·have q0 : k < t.width:=by simpa [Tree.width] using q0
     refine ⟨by omega,_,zaZ q0,?_⟩
     ((conv=>whnf);repeat(refine⟨rfl,?_⟩;conv=>whnf))
     have eA2:=zaX q0
     have eP2:=zaY q0
     have tA : (zax (t.kids.take k)).length + (zaB (t.kid k)).length≤(zax t.kids).length:=za1 q0
     have tP : (zau (t.kids.take k)).length + (zaC (t.kid k)).length≤(zau t.kids).length:=za0 q0
     have hG:=zbh (ih k q0 (zbB hwf q0) (addI A (zax (t.kids.take k))) (addT P (zau (t.kids.take k))) (by omega) (by omega)) [.row true (drow t),.row true (drow (t.kid k))] (by simp [za6]) (by simp [za6,zae,zai,zaf _ (zap _)]) (zbH (by simp [za6]))
     rw [← zcg,← zaV,← eA2,← eP2] at hG
     unfold za6 at hG
     (refine .inr (.inr (.inl ⟨rfl,_,_,hG,?_⟩)); ((conv=>whnf);repeat(refine⟨rfl,?_⟩;conv=>whnf)))
     (refine .inl ⟨by (unfold InR; rw [IntKind.wrap_i64]; omega),?_⟩; ((conv=>whnf);repeat(refine⟨rfl,?_⟩;conv=>whnf)))
     refine ⟨k + 1,by omega,by dsimp only; omega,?_⟩
     dsimp only
     (refine zal 4 (by simp) rfl ?_ ?_ <;> (repeat' (first | exact trivial | exact rfl | exact DeepM.refl _ | exact DeepML.refl _ | exact DeepMLL.refl _ | refine And.intro ?_ ?_ | (simp [zai,zae,zak,-List.map_take,-List.map_drop]; done))))
     all_goals first | exact zad _ (zar _) | exact zaa _ (za3 t) | skip
    ·have q0 : k = t.width:=by have : ¬ k < t.width:=by simpa [Tree.width] using q0
                               omega
     subst q0
     rw [show t.kids.take t.width = t.kids from List.take_length]
     exact ⟨.refl _,zaK _ _ (zbU (Nat.le_refl _))⟩
  have k7 : ¬ (t.kind = 7∨t.kind = 8∨t.kind = 9):=by
   simp only [beq_eq_false_iff_ne] at k7 k8 k9
   omega
  rw [if_neg k7,List.nil_append] at eP
  rw [eP] at hP
  rw [eA,eP]
  have lA : A.length + (zax t.kids).length≤1000:=hA
  have lP : P.length + (zau t.kids).length≤1000:=hP
  refine zaz [0,49,50] (fun k : Nat=>[(51,.sc (.int .i64 k))]) (fun k=>za6 (addI A (zax (t.kids.take k))) (addT P (zau (t.kids.take k))) ++ [.row true (drow t)]) (fun k=>k≤t.width) (fun k=>t.width - k) 0 ?_
  ((conv=>whnf);repeat(refine⟨rfl,?_⟩;conv=>whnf))
  refine ⟨by omega,by (repeat' (first | exact trivial | refine And.intro rfl ?_)),rfl,?_⟩
  rintro k hk
  have lak:=zcI (zax (t.kids.take k)) A
  have lpk:=zbv (zau (t.kids.take k)) P
  unfold za6
  ((conv=>whnf);repeat(refine⟨rfl,?_⟩;conv=>whnf))
  (apply zac; focus (repeat' constructor))
  ((conv=>whnf);repeat(refine⟨rfl,?_⟩;conv=>whnf))
  (refine zab (fun q0=>?_) (fun q0=>?_) <;> (rw [q0]; ((conv=>whnf);repeat(refine⟨rfl,?_⟩;conv=>whnf))))
  ·have q0 : k < t.width:=by simpa [Tree.width] using q0
   refine ⟨by omega,_,zaZ q0,?_⟩
   ((conv=>whnf);repeat(refine⟨rfl,?_⟩;conv=>whnf))
   have eA2:=zaX q0
   have eP2:=zaY q0
   have tA : (zax (t.kids.take k)).length + (zaB (t.kid k)).length≤(zax t.kids).length:=za1 q0
   have tP : (zau (t.kids.take k)).length + (zaC (t.kid k)).length≤(zau t.kids).length:=za0 q0
   have hG:=zbh (ih k q0 (zbB hwf q0) (addI A (zax (t.kids.take k))) (addT P (zau (t.kids.take k))) (by omega) (by omega)) [.row true (drow t),.row true (drow (t.kid k))] (by simp [za6]) (by simp [za6,zae,zai,zaf _ (zap _)]) (zbH (by simp [za6]))
   rw [← zcg,← zaV,← eA2,← eP2] at hG
   unfold za6 at hG
   (refine .inr (.inr (.inl ⟨rfl,_,_,hG,?_⟩)); ((conv=>whnf);repeat(refine⟨rfl,?_⟩;conv=>whnf)))
   (refine .inl ⟨by (unfold InR; rw [IntKind.wrap_i64]; omega),?_⟩; ((conv=>whnf);repeat(refine⟨rfl,?_⟩;conv=>whnf)))
   refine ⟨k + 1,by omega,by dsimp only; omega,?_⟩
   dsimp only
   (refine zal 4 (by simp) rfl ?_ ?_ <;> (repeat' (first | exact trivial | exact rfl | exact DeepM.refl _ | exact DeepML.refl _ | exact DeepMLL.refl _ | refine And.intro ?_ ?_ | (simp [zai,zae,zak,-List.map_take,-List.map_drop]; done))))
   all_goals first | exact zad _ (zar _) | exact zaa _ (za3 t) | skip
  ·have q0 : k = t.width:=by have : ¬ k < t.width:=by simpa [Tree.width] using q0
                             omega
   subst q0
   rw [show t.kids.take t.width = t.kids from List.take_length]
   exact ⟨.refl _,zaK _ _ (zbU (Nat.le_refl _))⟩
end
section
open Go.RowKit
theorem zou {A : List Int} {x : Int} (h : x∈A) : ∃ k : Nat,k < A.length∧idxF (fun a=>x == a) A = (k : Int):=by
 have h1 : 0≤idxF (fun a=>x == a) A:=by
  have:=zdb (fun a=>x == a) A
  rw [show A.any (fun a=>x == a) = true from List.any_eq_true.2 ⟨x,h,by simp⟩] at this
  simpa using this
 obtain ⟨k,e,hk,_⟩:=zhP h1
 exact ⟨k,hk,e⟩
theorem zmC {P : List Tree} {x : Tree} (h : x∈P) : ∃ k : Nat,k < P.length∧idxF (eqT x) P = (k : Int):=by
 have h1 : 0≤idxF (eqT x) P:=by
  have:=zdb (eqT x) P
  rw [any_eqT.2 h] at this
  simpa using this
 obtain ⟨k,e,hk,_⟩:=zhP h1
 exact ⟨k,hk,e⟩
structure TabI (A : List Int) (P : List Tree) : Prop where
 few : A.length + P.length≤10
 atoms : ∀ x∈A,0≤x∧x≤63
 told : ∀ g∈P,Told A P g
 wf : ∀ g∈P,g.wf pKids∧(g.kind = 7∨g.kind = 8∨g.kind = 9)
theorem zdR {n : Nat} (h : n≤10) : 2 ^ n≤1024:=Nat.le_trans (Nat.pow_le_pow_right (by omega) h) (by decide)
theorem zhs (n : Nat) : (2 : Int) ^ n = ((2 ^ n : Nat) : Int):=by simp
theorem zlo (k : Nat) (hk : k≤10) : (1 : Int) * 2 ^ min ((k : Int)).toNat 64 = ((2 ^ k : Nat) : Int):=by
 rw [Int.toNat_natCast,Nat.min_eq_left (by omega),Int.one_mul,zhs]
def c67 : PC:=.seq (.ops [q 4 (.box (.tmp 1)),q 6 (.move (.const (.bool false)))] false) (.seq (.seq (.ops [q 7 (.faddr 0 (.tmp 4)),q 8 (.load1 (.tmp 7)),q 9 (.bin .eql (.tmp 8) (.const (.int .i64 3)))] false) (.cond (.tmp 9) (.seq (.ops [qm 10 2,qm 11 0,qd 12 (.nilchk (.tmp 11)) 2,qd 13 (.faddr 0 (.tmp 12)) 6,qd 14 (.load1 (.tmp 13)) 14,q 15 (.faddr 1 (.tmp 4)),qd 16 (.load1 (.tmp 15)) 32,qd 17 (.call 89 [(.tmp 14),(.tmp 16)]) 126,qd 18 (.bin .shr (.tmp 10) (.tmp 17)) 255,qd 19 (.bin .and (.tmp 18) (.const (.int .i64 1))) 511,qd 20 (.bin .eql (.tmp 19) (.const (.int .i64 1))) 1023,qw 6 20 2047] true) (.ret)) (.skip))) (.seq (.ops [qm 21 2,qm 22 0,qd 23 (.nilchk (.tmp 22)) 2,qd 24 (.faddr 0 (.tmp 23)) 6,qd 25 (.load1 (.tmp 24)) 14,qd 26 (.len (.tmp 25)) 30,qm 27 0,q 28 (.loadA 3 (.tmp 4)),qd 29 (.call 64 [(.tmp 27),(.tmp 28)]) 192,qd 30 (.bin .add (.tmp 26) (.tmp 29)) 510,qd 31 (.bin .shr (.tmp 21) (.tmp 30)) 1023,qd 32 (.bin .and (.tmp 31) (.const (.int .i64 1))) 2047,qd 33 (.bin .eql (.tmp 32) (.const (.int .i64 1))) 4095,qw 6 33 8191] true) (.ret)))
theorem c67_ok : FunOK Tryz.prog 67 34 [.tmp 6] c67:=⟨⟨Tryz.f67,Tryz.func67,rfl,by kernel_rfl,rfl,by kernel_rfl⟩⟩
def c34 : PC:=.seq (.ops [q 4 (.box (.tmp 1)),q 6 (.move (.const (.bool false)))] false) (.seq (.seq (.ops [q 7 (.faddr 0 (.tmp 4)),q 8 (.load1 (.tmp 7))] false) (.block 0 (.seq (.ops [q 10 (.bin .eql (.tmp 8) (.const (.int .i64 1))),qm 9 10] false) (.cond (.tmp 9) (.seq (.ops [q 6 (.move (.const (.bool true)))] false) (.ret)) (.seq (.ops [q 12 (.bin .eql (.tmp 8) (.const (.int .i64 2))),qm 11 12] false) (.cond (.tmp 11) (.seq (.ops [q 6 (.move (.const (.bool false)))] false) (.ret)) (.seq (.ops [q 14 (.bin .eql (.tmp 8) (.const (.int .i64 4))),qm 13 14] false) (.cond (.tmp 13) (.seq (.ops [qm 15 0,q 16 (.faddr 2 (.tmp 4)),q 17 (.load1 (.tmp 16)),q 18 (.iaddr 3 (.tmp 17) (.const (.int .i64 0))),q 19 (.loadA 3 (.tmp 18)),qm 20 2,q 21 (.call 34 [(.tmp 15),(.tmp 19),(.tmp 20)]),q 22 (.un .not (.tmp 21)),qm 6 22] false) (.ret)) (.seq (.ops [q 24 (.bin .eql (.tmp 8) (.const (.int .i64 5))),qm 23 24] false) (.cond (.tmp 23) (.seq (.ops [qm 25 0,q 26 (.faddr 2 (.tmp 4)),q 27 (.load1 (.tmp 26)),q 28 (.iaddr 3 (.tmp 27) (.const (.int .i64 0))),q 29 (.loadA 3 (.tmp 28)),qm 30 2,q 31 (.call 34 [(.tmp 25),(.tmp 29),(.tmp 30)]),qm 32 31,⟨some 33,.move (.tmp 0),some (32,true),0⟩,⟨some 34,.faddr 2 (.tmp 4),some (32,true),0⟩,⟨some 35,.load1 (.tmp 34),some (32,true),0⟩,⟨some 36,.iaddr 3 (.tmp 35) (.const (.int .i64 1)),some (32,true),0⟩,⟨some 37,.loadA 3 (.tmp 36),some (32,true),0⟩,⟨some 38,.move (.tmp 2),some (32,true),0⟩,⟨some 39,.call 34 [(.tmp 33),(.tmp 37),(.tmp 38)],some (32,true),0⟩,q 40 (.pick (.tmp 32) (.tmp 39) (.const (.bool false))),qm 6 40] false) (.ret)) (.seq (.ops [q 42 (.bin .eql (.tmp 8) (.const (.int .i64 6))),qm 41 42] false) (.cond (.tmp 41) (.seq (.ops [qm 43 0,q 44 (.faddr 2 (.tmp 4)),q 45 (.load1 (.tmp 44)),q 46 (.iaddr 3 (.tmp 45) (.const (.int .i64 0))),q 47 (.loadA 3 (.tmp 46)),qm 48 2,q 49 (.call 34 [(.tmp 43),(.tmp 47),(.tmp 48)]),qm 50 49,⟨some 51,.move (.tmp 0),some (50,false),0⟩,⟨some 52,.faddr 2 (.tmp 4),some (50,false),0⟩,⟨some 53,.load1 (.tmp 52),some (50,false),0⟩,⟨some 54,.iaddr 3 (.tmp 53) (.const (.int .i64 1)),some (50,false),0⟩,⟨some 55,.loadA 3 (.tmp 54),some (50,false),0⟩,⟨some 56,.move (.tmp 2),some (50,false),0⟩,⟨some 57,.call 34 [(.tmp 51),(.tmp 55),(.tmp 56)],some (50,false),0⟩,q 58 (.pick (.tmp 50) (.const (.bool true)) (.tmp 57)),qm 6 58] false) (.ret)) (.seq (.ops [q 60 (.bin .eql (.tmp 8) (.const (.int .i64 8))),qm 59 60] false) (.cond (.tmp 59) (.seq (.ops [qm 61 0,q 62 (.faddr 2 (.tmp 4)),q 63 (.load1 (.tmp 62)),q 64 (.iaddr 3 (.tmp 63) (.const (.int .i64 1))),q 65 (.loadA 3 (.tmp 64)),qm 66 2,q 67 (.call 34 [(.tmp 61),(.tmp 65),(.tmp 66)]),qm 68 67,⟨some 69,.move (.tmp 0),some (68,false),0⟩,⟨some 70,.faddr 2 (.tmp 4),some (68,false),0⟩,⟨some 71,.load1 (.tmp 70),some (68,false),0⟩,⟨some 72,.iaddr 3 (.tmp 71) (.const (.int .i64 0)),some (68,false),0⟩,⟨some 73,.loadA 3 (.tmp 72),some (68,false),0⟩,⟨some 74,.move (.tmp 2),some (68,false),0⟩,⟨some 75,.call 34 [(.tmp 69),(.tmp 73),(.tmp 74)],some (68,false),0⟩,⟨some 76,.move (.tmp 75),some (68,false),0⟩,⟨some 77,.move (.tmp 0),some (76,true),0⟩,⟨some 78,.loadA 3 (.tmp 4),some (76,true),0⟩,⟨some 79,.move (.tmp 2),some (76,true),0⟩,⟨some 80,.call 67 [(.tmp 77),(.tmp 78),(.tmp 79)],some (76,true),0⟩,⟨some 81,.pick (.tmp 76) (.tmp 80) (.const (.bool false)),some (68,false),0⟩,q 82 (.pick (.tmp 68) (.const (.bool true)) (.tmp 81)),qm 6 82] false) (.ret)) (.seq (.ops [q 84 (.bin .eql (.tmp 8) (.const (.int .i64 9))),qm 83 84] false) (.cond (.tmp 83) (.seq (.ops [qm 85 0,q 86 (.faddr 2 (.tmp 4)),q 87 (.load1 (.tmp 86)),q 88 (.iaddr 3 (.tmp 87) (.const (.int .i64 1))),q 89 (.loadA 3 (.tmp 88)),qm 90 2,q 91 (.call 34 [(.tmp 85),(.tmp 89),(.tmp 90)]),qm 92 91,⟨some 93,.move (.tmp 0),some (92,true),0⟩,⟨some 94,.faddr 2 (.tmp 4),some (92,true),0⟩,⟨some 95,.load1 (.tmp 94),some (92,true),0⟩,⟨some 96,.iaddr 3 (.tmp 95) (.const (.int .i64 0)),some (92,true),0⟩,⟨some 97,.loadA 3 (.tmp 96),some (92,true),0⟩,⟨some 98,.move (.tmp 2),some (92,true),0⟩,⟨some 99,.call 34 [(.tmp 93),(.tmp 97),(.tmp 98)],some (92,true),0⟩,⟨some 100,.move (.tmp 99),some (92,true),0⟩,⟨some 101,.move (.tmp 0),some (100,false),0⟩,⟨some 102,.loadA 3 (.tmp 4),some (100,false),0⟩,⟨some 103,.move (.tmp 2),some (100,false),0⟩,⟨some 104,.call 67 [(.tmp 101),(.tmp 102),(.tmp 103)],some (100,false),0⟩,⟨some 105,.pick (.tmp 100) (.const (.bool true)) (.tmp 104),some (92,true),0⟩,q 106 (.pick (.tmp 92) (.tmp 105) (.const (.bool false))),qm 6 106] false) (.ret)) (.skip))))))))))))))))) (.seq (.ops [qm 107 0,q 108 (.loadA 3 (.tmp 4)),qm 109 2,q 110 (.call 67 [(.tmp 107),(.tmp 108),(.tmp 109)]),qm 6 110] false) (.ret)))
theorem c34_ok : FunOK Tryz.prog 34 111 [.tmp 6] c34:=⟨⟨Tryz.f34,Tryz.func34,rfl,by kernel_rfl,rfl,by kernel_rfl⟩⟩
def c36 : PC:=.seq (.ops [q 4 (.move (.const (.int .i64 0)))] false) (.seq (.ops [qm 5 1,qm 6 0,q 7 (.nilchk (.tmp 6)),q 8 (.faddr 0 (.tmp 7)),q 9 (.load1 (.tmp 8)),q 10 (.len (.tmp 9)),q 11 (.bin .shr (.tmp 5) (.tmp 10)),qm 4 11] false) (.ret))
theorem c36_ok : FunOK Tryz.prog 36 12 [.tmp 4] c36:=⟨⟨Tryz.f36,Tryz.func36,rfl,by kernel_rfl,rfl,by kernel_rfl⟩⟩
def c33_1 : PC:=.seq (.ops [q 15 (.bin .lss (.tmp 14) (.tmp 13))] false) (.seq (.cond (.tmp 15) (.skip) (.exit 0)) (.seq (.block 1 (.seq (.ops [qm 16 14,q 17 (.iaddr 3 (.tmp 12) (.tmp 14)),q 18 (.loadA 3 (.tmp 17)),q 7 (.alloc [(.int .i64 0),(.int .i64 0),(.slice none 0 0)]),qm 6 16,qn (.store 3 (.tmp 7) (.tmp 18))] false) (.seq (.ops [q 19 (.loadA 3 (.tmp 7)),q 8 (.alloc [(.int .i64 0),(.int .i64 0),(.slice none 0 0)]),qn (.store 3 (.tmp 8) (.tmp 19))] false) (.seq (.seq (.ops [q 20 (.faddr 0 (.tmp 7)),q 21 (.load1 (.tmp 20)),q 22 (.bin .eql (.tmp 21) (.const (.int .i64 7)))] false) (.cond (.tmp 22) (.ops [q 23 (.faddr 2 (.tmp 7)),q 24 (.load1 (.tmp 23)),q 25 (.iaddr 3 (.tmp 24) (.const (.int .i64 0))),q 26 (.loadA 3 (.tmp 25)),qn (.store 3 (.tmp 8) (.tmp 26))] false) (.skip))) (.seq (.ops [qm 27 0,q 28 (.loadA 3 (.tmp 8)),qm 29 1,q 30 (.call 34 [(.tmp 27),(.tmp 28),(.tmp 29)])] false) (.cond (.tmp 30) (.ops [qm 31 5,qm 32 6,q 33 (.bin .shl (.const (.int .i64 1)) (.tmp 32)),q 34 (.bin .or (.tmp 31) (.tmp 33)),qm 5 34] false) (.skip))))))) (.ops [q 35 (.bin .add (.tmp 14) (.const (.int .i64 1))),qm 14 35] false)))
def c33 : PC:=.seq (.ops [q 4 (.move (.const (.int .i64 0)))] false) (.seq (.ops [q 5 (.move (.const (.int .i64 0)))] false) (.seq (.seq (.ops [qm 9 0,q 10 (.nilchk (.tmp 9)),q 11 (.faddr 1 (.tmp 10)),q 12 (.load1 (.tmp 11)),q 13 (.len (.tmp 12)),q 14 (.move (.const (.int .i64 0)))] false) (.block 0 (.loop c33_1))) (.seq (.ops [qm 36 5,qm 4 36] false) (.ret))))
theorem c33_ok : FunOK Tryz.prog 33 37 [.tmp 4] c33:=⟨⟨Tryz.f33,Tryz.func33,rfl,by kernel_rfl,rfl,by kernel_rfl⟩⟩
def c37_1 : PC:=.seq (.ops [q 16 (.bin .lss (.tmp 15) (.tmp 14))] false) (.seq (.cond (.tmp 16) (.skip) (.exit 0)) (.seq (.block 1 (.seq (.ops [qm 17 15,q 18 (.iaddr 1 (.tmp 13) (.tmp 15)),q 19 (.load1 (.tmp 18)),qm 8 17,qm 9 19] false) (.seq (.ops [qm 20 1,qm 21 8,q 22 (.bin .shr (.tmp 20) (.tmp 21)),q 23 (.bin .and (.tmp 22) (.const (.int .i64 1))),q 24 (.bin .eql (.tmp 23) (.const (.int .i64 1))),qm 25 2,q 26 (.eqb false (.tmp 24) (.tmp 25))] false) (.cond (.tmp 26) (.ops [qm 27 7,qm 28 9,q 29 (.bin .shl (.const (.int .u64 1)) (.tmp 28)),q 30 (.bin .or (.tmp 27) (.tmp 29)),qm 7 30] false) (.skip))))) (.ops [q 31 (.bin .add (.tmp 15) (.const (.int .i64 1))),qm 15 31] false)))
def c37 : PC:=.seq (.ops [q 6 (.move (.const (.int .u64 0)))] false) (.seq (.ops [q 7 (.move (.const (.int .u64 0)))] false) (.seq (.seq (.ops [qm 10 0,q 11 (.nilchk (.tmp 10)),q 12 (.faddr 0 (.tmp 11)),q 13 (.load1 (.tmp 12)),q 14 (.len (.tmp 13)),q 15 (.move (.const (.int .i64 0)))] false) (.block 0 (.loop c37_1))) (.seq (.ops [qm 32 7,qm 6 32] false) (.ret))))
theorem c37_ok : FunOK Tryz.prog 37 33 [.tmp 6] c37:=⟨⟨Tryz.f37,Tryz.func37,rfl,by kernel_rfl,rfl,by kernel_rfl⟩⟩
def c38 : PC:=.seq (.ops [q 4 (.box (.tmp 1)),q 6 (.move (.const (.bool false)))] false) (.seq (.seq (.ops [q 7 (.faddr 0 (.tmp 4)),q 8 (.load1 (.tmp 7)),q 9 (.bin .eql (.tmp 8) (.const (.int .i64 8)))] false) (.cond (.tmp 9) (.seq (.ops [qm 10 0,q 11 (.loadA 3 (.tmp 4)),qm 12 2,q 13 (.call 34 [(.tmp 10),(.tmp 11),(.tmp 12)]),q 14 (.un .not (.tmp 13)),qm 15 14,⟨some 16,.move (.tmp 0),some (15,false),0⟩,⟨some 17,.faddr 2 (.tmp 4),some (15,false),0⟩,⟨some 18,.load1 (.tmp 17),some (15,false),0⟩,⟨some 19,.iaddr 3 (.tmp 18) (.const (.int .i64 1)),some (15,false),0⟩,⟨some 20,.loadA 3 (.tmp 19),some (15,false),0⟩,⟨some 21,.move (.tmp 2),some (15,false),0⟩,⟨some 22,.call 34 [(.tmp 16),(.tmp 20),(.tmp 21)],some (15,false),0⟩,q 23 (.pick (.tmp 15) (.const (.bool true)) (.tmp 22)),qm 6 23] false) (.ret)) (.skip))) (.seq (.ops [qm 24 0,q 25 (.loadA 3 (.tmp 4)),qm 26 2,q 27 (.call 34 [(.tmp 24),(.tmp 25),(.tmp 26)]),qm 28 27,⟨some 29,.move (.tmp 0),some (28,false),0⟩,⟨some 30,.faddr 2 (.tmp 4),some (28,false),0⟩,⟨some 31,.load1 (.tmp 30),some (28,false),0⟩,⟨some 32,.iaddr 3 (.tmp 31) (.const (.int .i64 1)),some (28,false),0⟩,⟨some 33,.loadA 3 (.tmp 32),some (28,false),0⟩,⟨some 34,.move (.tmp 2),some (28,false),0⟩,⟨some 35,.call 34 [(.tmp 29),(.tmp 33),(.tmp 34)],some (28,false),0⟩,⟨some 36,.un .not (.tmp 35),some (28,false),0⟩,q 37 (.pick (.tmp 28) (.const (.bool true)) (.tmp 36)),qm 6 37] false) (.ret)))
theorem c38_ok : FunOK Tryz.prog 38 38 [.tmp 6] c38:=⟨⟨Tryz.f38,Tryz.func38,rfl,by kernel_rfl,rfl,by kernel_rfl⟩⟩
theorem zo5 (A : List Int) (P : List Tree) (hI : TabI A P) (f : Tree) (hs : Small f) (hT : Told A P f) (hk : f.kind = 3∨f.kind = 7∨f.kind = 8∨f.kind = 9) (s : Nat) :
  PCall Tryz.prog 67 [mdat A P,za7 f,.sc (.int .i64 s)] (.sc (.bool (chE A P s f))):=by
 have hf:=hI.few
 refine zag c67_ok (by simp) (by simp [zao,Pure,zdi,zap]) ?_ (by simp [Pure])
 unfold mdat
 (apply zac; focus (repeat' constructor))
 ((conv=>whnf);repeat(refine⟨rfl,?_⟩;conv=>whnf))
 (refine zab (fun k3=>?_) (fun k3=>?_) <;> (rw [k3]; ((conv=>whnf);repeat(refine⟨rfl,?_⟩;conv=>whnf))))
 ·have k3 : f.kind = 3:=by simpa using k3
  obtain ⟨k,h1,h2⟩:=zou (hT.atom k3)
  have e : chE A P s f = s.testBit k:=by unfold chE posE; rw [if_pos k3,h2]; rfl
  have hi:=zkO A (by omega) f.num
  rw [h2] at hi
  rw [e,← bit_P s k (by omega)]
  (refine .inr (.inl ⟨_,_,(by (repeat' (first | exact Deep.refl _ | exact Deep.none _ | exact zaF _ | exact DeepL.nil | exact DeepLL.nil | refine Deep.agg _ _ ?_ | refine Deep.tup _ _ ?_ | refine Deep.own _ _ _ _ _ _ _ _ rfl ?_ | refine Deep.loc _ _ _ _ _ rfl ?_ | refine Deep.ifc _ _ _ ?_ | refine Deep.fn _ _ _ _ _ ?_ ?_ | refine DeepL.cons _ _ _ _ ?_ ?_ | refine DeepLL.cons _ _ _ _ ?_ ?_ | exact zaq _))),hi,rfl,?_⟩); ((conv=>whnf);repeat(refine⟨rfl,?_⟩;conv=>whnf)))
  refine ⟨by omega,?_⟩
  ((conv=>whnf);repeat(refine⟨rfl,?_⟩;conv=>whnf))
  exact .refl _
 ·have k3 : ¬ f.kind = 3:=by simpa using k3
  obtain ⟨k,h1,h2⟩:=zmC (hT.part (by omega))
  have e : chE A P s f = s.testBit (A.length + k):=by unfold chE posE; rw [if_neg k3,h2]; rfl
  have hi:=zjA A P (by omega) f hs
  rw [h2] at hi
  unfold mdat at hi
  rw [e,← bit_P s (A.length + k) (by omega)]
  (refine .inr (.inl ⟨_,_,(by (repeat' (first | exact Deep.refl _ | exact Deep.none _ | exact zaF _ | exact DeepL.nil | exact DeepLL.nil | refine Deep.agg _ _ ?_ | refine Deep.tup _ _ ?_ | refine Deep.own _ _ _ _ _ _ _ _ rfl ?_ | refine Deep.loc _ _ _ _ _ rfl ?_ | refine Deep.ifc _ _ _ ?_ | refine Deep.fn _ _ _ _ _ ?_ ?_ | refine DeepL.cons _ _ _ _ ?_ ?_ | refine DeepLL.cons _ _ _ _ ?_ ?_ | exact zaq _))),hi,rfl,?_⟩); ((conv=>whnf);repeat(refine⟨rfl,?_⟩;conv=>whnf)))
  rw [List.length_map]
  (refine .inl ⟨by (unfold InR; rw [IntKind.wrap_i64]; omega),?_⟩; ((conv=>whnf);repeat(refine⟨rfl,?_⟩;conv=>whnf)))
  refine ⟨by omega,?_⟩
  ((conv=>whnf);repeat(refine⟨rfl,?_⟩;conv=>whnf))
  exact .refl _
theorem zhz (A : List Int) (P : List Tree) (hI : TabI A P) (s : Nat) : ∀ f : Tree,f.wf pKids→Told A P f →
  PCall Tryz.prog 34 [mdat A P,za7 f,.sc (.int .i64 s)] (.sc (.bool (zaS (chE A P s) f))):=by
 intro f
 induction f using Tree.ind with
 | h f ih =>
  intro hwf hT
  have hs:=zd9 f (wf_p hwf)
  have hsz:=hs.width
  have hK:=zks hwf
  have hE:=zkL (chE A P s) f
  have hch:=fun hk=>zo5 A P hI f hs hT hk s
  refine zag c34_ok (by simp) (by simp [zao,Pure,zdi,zap]) ?_ (by simp [Pure])
  have fin : ∀ {H : List AObj} {b : Bool},b = zeN f.kind (chE A P s f) (f.kids.map (zaS (chE A P s)))→Deep H (.sc (.bool b)) (.sc (.bool (zaS (chE A P s) f))):=fun h=>by rw [hE,h]; exact .refl _
  have ha : ∀ j,j < f.width→(f.kids.map (zaS (chE A P s))).getD j false = zaS (chE A P s) (f.kid j):=fun j hj=>zkU _ hj
  have hI2 : ∀ j,(hj : j < f.width)→PCall Tryz.prog 34 [mdat A P,za7 (f.kid j),.sc (.int .i64 s)] (.sc (.bool (zaS (chE A P s) (f.kid j)))):=fun j hj=>ih j hj (zbB hwf hj) (hT.kid hj)
  unfold mdat at *
  (apply zac; focus (repeat' constructor))
  ((conv=>whnf);repeat(refine⟨rfl,?_⟩;conv=>whnf))
  (refine zab (fun h1=>?_) (fun h1=>?_) <;> (rw [h1]; ((conv=>whnf);repeat(refine⟨rfl,?_⟩;conv=>whnf))))
  ·have h1 : f.kind = 1:=by simpa using h1
   refine fin ?_; rw [h1]; rfl
  (refine zab (fun h2=>?_) (fun h2=>?_) <;> (rw [h2]; ((conv=>whnf);repeat(refine⟨rfl,?_⟩;conv=>whnf))))
  ·have h2 : f.kind = 2:=by simpa using h2
   refine fin ?_; rw [h2]; rfl
  (refine zab (fun h4=>?_) (fun h4=>?_) <;> (rw [h4]; ((conv=>whnf);repeat(refine⟨rfl,?_⟩;conv=>whnf))))
  ·have h4 : f.kind = 4:=by simpa using h4
   have w0 : 0 < f.width:=by omega
   have e0:=ha 0 w0
   refine ⟨by omega,_,zaZ w0,?_⟩; ((conv=>whnf);repeat(refine⟨rfl,?_⟩;conv=>whnf))
   (refine .inl ⟨_,(hI2 0 w0),?_⟩; ((conv=>whnf);repeat(refine⟨rfl,?_⟩;conv=>whnf)))
   refine fin ?_; rw [h4,← e0]; rfl
  (refine zab (fun h5=>?_) (fun h5=>?_) <;> (rw [h5]; ((conv=>whnf);repeat(refine⟨rfl,?_⟩;conv=>whnf))))
  ·have h5 : f.kind = 5:=by simpa using h5
   have w0 : 0 < f.width:=by omega
   have w1 : 1 < f.width:=by omega
   have e0:=ha 0 w0
   have e1:=ha 1 w1
   refine ⟨by omega,_,zaZ w0,?_⟩; ((conv=>whnf);repeat(refine⟨rfl,?_⟩;conv=>whnf))
   (refine .inl ⟨_,(hI2 0 w0),?_⟩; ((conv=>whnf);repeat(refine⟨rfl,?_⟩;conv=>whnf)))
   rw [h5] at fin
   unfold zeN at fin
   rw [← e0]
   (refine zab (fun q0=>?_) (fun q0=>?_) <;> (rw [q0]; ((conv=>whnf);repeat(refine⟨rfl,?_⟩;conv=>whnf))))
   ·refine ⟨by omega,_,zaZ w1,?_⟩; ((conv=>whnf);repeat(refine⟨rfl,?_⟩;conv=>whnf))
    (refine .inl ⟨_,(hI2 1 w1),?_⟩; ((conv=>whnf);repeat(refine⟨rfl,?_⟩;conv=>whnf)))
    refine fin ?_; (try simp only [← e1,q0]); simp
   ·refine fin ?_; (try simp only [q0]); simp
  (refine zab (fun h6=>?_) (fun h6=>?_) <;> (rw [h6]; ((conv=>whnf);repeat(refine⟨rfl,?_⟩;conv=>whnf))))
  ·have h6 : f.kind = 6:=by simpa using h6
   have w0 : 0 < f.width:=by omega
   have w1 : 1 < f.width:=by omega
   have e0:=ha 0 w0
   have e1:=ha 1 w1
   refine ⟨by omega,_,zaZ w0,?_⟩; ((conv=>whnf);repeat(refine⟨rfl,?_⟩;conv=>whnf))
   (refine .inl ⟨_,(hI2 0 w0),?_⟩; ((conv=>whnf);repeat(refine⟨rfl,?_⟩;conv=>whnf)))
   rw [h6] at fin
   unfold zeN at fin
   rw [← e0]
   (refine zab (fun q0=>?_) (fun q0=>?_) <;> (rw [q0]; ((conv=>whnf);repeat(refine⟨rfl,?_⟩;conv=>whnf))))
   ·refine fin ?_; (try simp only [q0]); simp
   ·refine ⟨by omega,_,zaZ w1,?_⟩; ((conv=>whnf);repeat(refine⟨rfl,?_⟩;conv=>whnf))
    (refine .inl ⟨_,(hI2 1 w1),?_⟩; ((conv=>whnf);repeat(refine⟨rfl,?_⟩;conv=>whnf)))
    refine fin ?_; (try simp only [← e1,q0]); simp
  (refine zab (fun h8=>?_) (fun h8=>?_) <;> (rw [h8]; ((conv=>whnf);repeat(refine⟨rfl,?_⟩;conv=>whnf))))
  ·have h8 : f.kind = 8:=by simpa using h8
   have w0 : 0 < f.width:=by omega
   have w1 : 1 < f.width:=by omega
   have e0:=ha 0 w0
   have e1:=ha 1 w1
   refine ⟨by omega,_,zaZ w1,?_⟩; ((conv=>whnf);repeat(refine⟨rfl,?_⟩;conv=>whnf))
   (refine .inl ⟨_,(hI2 1 w1),?_⟩; ((conv=>whnf);repeat(refine⟨rfl,?_⟩;conv=>whnf)))
   rw [h8] at fin
   unfold zeN at fin
   rw [← e1]
   (refine zab (fun q1=>?_) (fun q1=>?_) <;> (rw [q1]; ((conv=>whnf);repeat(refine⟨rfl,?_⟩;conv=>whnf))))
   ·refine fin ?_; (try simp only [q1]); simp
   ·refine ⟨by omega,_,zaZ w0,?_⟩; ((conv=>whnf);repeat(refine⟨rfl,?_⟩;conv=>whnf))
    (refine .inl ⟨_,(hI2 0 w0),?_⟩; ((conv=>whnf);repeat(refine⟨rfl,?_⟩;conv=>whnf)))
    rw [← e0]
    (refine zab (fun q0=>?_) (fun q0=>?_) <;> (rw [q0]; ((conv=>whnf);repeat(refine⟨rfl,?_⟩;conv=>whnf))))
    ·(refine .inl ⟨_,(hch (by omega)),?_⟩; ((conv=>whnf);repeat(refine⟨rfl,?_⟩;conv=>whnf)))
     refine fin ?_; (try simp only [q0,q1]); simp
    ·refine fin ?_; (try simp only [q0,q1]); simp
  (refine zab (fun h9=>?_) (fun h9=>?_) <;> (rw [h9]; ((conv=>whnf);repeat(refine⟨rfl,?_⟩;conv=>whnf))))
  ·have h9 : f.kind = 9:=by simpa using h9
   have w0 : 0 < f.width:=by omega
   have w1 : 1 < f.width:=by omega
   have e0:=ha 0 w0
   have e1:=ha 1 w1
   refine ⟨by omega,_,zaZ w1,?_⟩; ((conv=>whnf);repeat(refine⟨rfl,?_⟩;conv=>whnf))
   (refine .inl ⟨_,(hI2 1 w1),?_⟩; ((conv=>whnf);repeat(refine⟨rfl,?_⟩;conv=>whnf)))
   rw [h9] at fin
   unfold zeN at fin
   rw [← e1]
   (refine zab (fun q1=>?_) (fun q1=>?_) <;> (rw [q1]; ((conv=>whnf);repeat(refine⟨rfl,?_⟩;conv=>whnf))))
   ·refine ⟨by omega,_,zaZ w0,?_⟩; ((conv=>whnf);repeat(refine⟨rfl,?_⟩;conv=>whnf))
    (refine .inl ⟨_,(hI2 0 w0),?_⟩; ((conv=>whnf);repeat(refine⟨rfl,?_⟩;conv=>whnf)))
    rw [← e0]
    (refine zab (fun q0=>?_) (fun q0=>?_) <;> (rw [q0]; ((conv=>whnf);repeat(refine⟨rfl,?_⟩;conv=>whnf))))
    ·refine fin ?_; (try simp only [q0,q1]); simp
    ·(refine .inl ⟨_,(hch (by omega)),?_⟩; ((conv=>whnf);repeat(refine⟨rfl,?_⟩;conv=>whnf)))
     refine fin ?_; (try simp only [q0,q1]); simp
   ·refine fin ?_; (try simp only [q1]); simp
  have h3 : f.kind = 3∨f.kind = 7:=by
   simp only [beq_eq_false_iff_ne] at h1 h2 h4 h5 h6 h8 h9
   omega
  (refine .inl ⟨_,(hch (by omega)),?_⟩; ((conv=>whnf);repeat(refine⟨rfl,?_⟩;conv=>whnf)))
  refine fin ?_; rcases h3 with h3 | h3 <;> rw [h3] <;> rfl
theorem ta_owed (A : List Int) (P : List Tree) (hA : A.length≤60) (s : Nat) : PCall Tryz.prog 36 [mdat A P,.sc (.int .i64 s)] (.sc (.int .i64 ((s / 2 ^ A.length : Nat) : Int))):=by
 refine zag c36_ok (by simp) (by simp [zao,Pure,zdi]) ?_ (by simp [Pure])
 unfold mdat
 (apply zac; focus (repeat' constructor))
 ((conv=>whnf);repeat(refine⟨rfl,?_⟩;conv=>whnf))
 rw [List.length_map]
 refine ⟨by omega,?_⟩
 ((conv=>whnf);repeat(refine⟨rfl,?_⟩;conv=>whnf))
 exact zbW (congrArg (fun x=>D.sc (.int .i64 x)) (zje s A.length (by omega)))
theorem zkK {A : List Int} {P : List Tree} (hI : TabI A P) {g : Tree} (hg : g∈P) : (zhk g).wf pKids∧Told A P (zhk g):=by
 obtain ⟨h1,h2⟩:=hI.wf g hg
 have hT:=hI.told g hg
 unfold zhk
 split
 ·have w0 : 0 < g.width:=zcD (wf_p h1) (by omega)
  exact ⟨zbB h1 w0,hT.kid w0⟩
 ·exact ⟨h1,hT⟩
theorem zhU {P : List Tree} {k : Nat} (h : k < P.length) : P.getD k default∈P:=by
 rw [List.getD_eq_getElem?_getD,List.getElem?_eq_getElem h]; simp
theorem ta_kept (A : List Int) (P : List Tree) (hI : TabI A P) (s : Nat) : PCall Tryz.prog 33 [mdat A P,.sc (.int .i64 s)] (.sc (.int .i64 (zga A P s))):=by
 have hf:=hI.few
 refine zag c33_ok (by simp) (by simp [zao,Pure,zdi]) ?_ (by simp [Pure])
 have hH:=fun g (hg : g∈P)=>zhz A P hI s (zhk g) (zkK hI hg).1 (zkK hI hg).2
 unfold mdat at *
 (apply zac; focus (repeat' constructor))
 ((conv=>whnf);repeat(refine⟨rfl,?_⟩;conv=>whnf))
 rw [zbS]
 refine zaT [0,1,12,13] (fun k : Nat=>[(5,.sc (.int .i64 (zgf (hK A P s) k))),(14,.sc (.int .i64 k))]) (fun _=>[]) (fun k=>k≤P.length) (fun k=>P.length - k) 0 ?_
 ((conv=>whnf);repeat(refine⟨rfl,?_⟩;conv=>whnf))
 refine ⟨by omega,by (repeat' (first | exact trivial | refine And.intro rfl ?_)),rfl,?_⟩
 rintro k hk
 ((conv=>whnf);repeat(refine⟨rfl,?_⟩;conv=>whnf))
 (apply zac; focus (repeat' constructor))
 ((conv=>whnf);repeat(refine⟨rfl,?_⟩;conv=>whnf))
 (refine zab (fun q0=>?_) (fun q0=>?_) <;> (rw [q0]; ((conv=>whnf);repeat(refine⟨rfl,?_⟩;conv=>whnf))))
 ·have q0 : k < P.length:=by ((try simp only[oo,reduceCtorEq]at*)<;>omega)
  refine ⟨by omega,_,zd8 (k:=k) (by omega) q0,?_⟩
  ((conv=>whnf);repeat(refine⟨rfl,?_⟩;conv=>whnf))
  have hg:=zhU q0
  obtain ⟨hw,hk7⟩:=hI.wf _ hg
  have hB:=hH _ hg
  have hb : hK A P s k = zaS (chE A P s) (zhk (P.getD k default)):=rfl
  have hS : zgf (hK A P s) (k + 1) = if hK A P s k = true then zgf (hK A P s) k + 2 ^ k else zgf (hK A P s) k:=rfl
  have hlt:=zgq (hK A P s) k
  have hp10:=zdR (n:=k) (by omega)
  have e1 : (1 : Int) * 2 ^ min ((k : Int)).toNat IntKind.i64.bits = ((2 ^ k : Nat) : Int):=zlo k (by omega)
  have e2:=or_one (zgf (hK A P s) k) k hlt (by omega)
  rw [← hb] at hB
  generalize hK A P s k = b at *
  generalize P.getD k default = g at *
  (refine zab (fun g7=>?_) (fun g7=>?_) <;> (rw [g7]; ((conv=>whnf);repeat(refine⟨rfl,?_⟩;conv=>whnf))))
  ·have g7 : g.kind = 7:=by simpa using g7
   have w0 : 0 < g.width:=zcD (wf_p hw) (by omega)
   rw [show zhk g = g.kid 0 from if_pos g7] at hB
   refine ⟨by omega,_,zaZ w0,?_⟩
   ((conv=>whnf);repeat(refine⟨rfl,?_⟩;conv=>whnf))
   (refine .inl ⟨_,hB,?_⟩; ((conv=>whnf);repeat(refine⟨rfl,?_⟩;conv=>whnf)))
   cases b
   ·rw [if_neg (by decide)] at hS
    ((conv=>whnf);repeat(refine⟨rfl,?_⟩;conv=>whnf))
    (refine .inl ⟨by (unfold InR; rw [IntKind.wrap_i64]; omega),?_⟩; ((conv=>whnf);repeat(refine⟨rfl,?_⟩;conv=>whnf)))
    refine ⟨k + 1,by omega,by dsimp only; omega,?_⟩
    dsimp only
    rw [hS]
    (refine zal 0 (by simp) rfl ?_ ?_ <;> (repeat' (first | exact trivial | exact rfl | exact DeepM.refl _ | exact DeepML.refl _ | exact DeepMLL.refl _ | refine And.intro ?_ ?_ | (simp [zai,zae,zak,-List.map_take,-List.map_drop]; done))))
    all_goals first | exact zaa _ (zat _) | exact zaf _ (zam _) | skip
   ·rw [if_pos rfl] at hS
    ((conv=>whnf);repeat(refine⟨rfl,?_⟩;conv=>whnf))
    refine ⟨by omega,?_⟩
    rw [e1]
    generalize 2 ^ k = z at *
    (refine .inl ⟨by (unfold InR; rw [IntKind.wrap_i64]; omega),?_⟩; ((conv=>whnf);repeat(refine⟨rfl,?_⟩;conv=>whnf)))
    rw [e2]
    (refine .inl ⟨by (unfold InR; rw [IntKind.wrap_i64]; omega),?_⟩; ((conv=>whnf);repeat(refine⟨rfl,?_⟩;conv=>whnf)))
    refine ⟨k + 1,by omega,by dsimp only; omega,?_⟩
    dsimp only
    rw [hS]
    (refine zal 0 (by simp) rfl ?_ ?_ <;> (repeat' (first | exact trivial | exact rfl | exact DeepM.refl _ | exact DeepML.refl _ | exact DeepMLL.refl _ | refine And.intro ?_ ?_ | (simp [zai,zae,zak,-List.map_take,-List.map_drop]; done))))
    all_goals first | exact zaa _ (zat _) | exact zaf _ (zam _) | skip
  ·have g7 : ¬ g.kind = 7:=by simpa using g7
   rw [show zhk g = g from if_neg g7] at hB
   (refine .inl ⟨_,hB,?_⟩; ((conv=>whnf);repeat(refine⟨rfl,?_⟩;conv=>whnf)))
   cases b
   ·rw [if_neg (by decide)] at hS
    ((conv=>whnf);repeat(refine⟨rfl,?_⟩;conv=>whnf))
    (refine .inl ⟨by (unfold InR; rw [IntKind.wrap_i64]; omega),?_⟩; ((conv=>whnf);repeat(refine⟨rfl,?_⟩;conv=>whnf)))
    refine ⟨k + 1,by omega,by dsimp only; omega,?_⟩
    dsimp only
    rw [hS]
    (refine zal 0 (by simp) rfl ?_ ?_ <;> (repeat' (first | exact trivial | exact rfl | exact DeepM.refl _ | exact DeepML.refl _ | exact DeepMLL.refl _ | refine And.intro ?_ ?_ | (simp [zai,zae,zak,-List.map_take,-List.map_drop]; done))))
    all_goals first | exact zaa _ (zat _) | exact zaf _ (zam _) | skip
   ·rw [if_pos rfl] at hS
    ((conv=>whnf);repeat(refine⟨rfl,?_⟩;conv=>whnf))
    refine ⟨by omega,?_⟩
    rw [e1]
    generalize 2 ^ k = z at *
    (refine .inl ⟨by (unfold InR; rw [IntKind.wrap_i64]; omega),?_⟩; ((conv=>whnf);repeat(refine⟨rfl,?_⟩;conv=>whnf)))
    rw [e2]
    (refine .inl ⟨by (unfold InR; rw [IntKind.wrap_i64]; omega),?_⟩; ((conv=>whnf);repeat(refine⟨rfl,?_⟩;conv=>whnf)))
    refine ⟨k + 1,by omega,by dsimp only; omega,?_⟩
    dsimp only
    rw [hS]
    (refine zal 0 (by simp) rfl ?_ ?_ <;> (repeat' (first | exact trivial | exact rfl | exact DeepM.refl _ | exact DeepML.refl _ | exact DeepMLL.refl _ | refine And.intro ?_ ?_ | (simp [zai,zae,zak,-List.map_take,-List.map_drop]; done))))
    all_goals first | exact zaa _ (zat _) | exact zaf _ (zam _) | skip
 ·have q0 : k = P.length:=by have : ¬ k < P.length:=by ((try simp only[oo,reduceCtorEq]at*)<;>omega)
                             omega
  subst q0
  exact .refl _
theorem zod (A : List Int) (P : List Tree) (hA : A.length≤60) (hr : ∀ x∈A,0≤x∧x≤63) (s : Nat) (is : Bool) : PCall Tryz.prog 37 [mdat A P,.sc (.int .i64 s),.sc (.bool is)] (.sc (.int .u64 (zdk A s is A.length))):=by
 refine zag c37_ok (by simp) (by simp [zao,Pure,zdi]) ?_ (by simp [Pure])
 unfold mdat
 (apply zac; focus (repeat' constructor))
 ((conv=>whnf);repeat(refine⟨rfl,?_⟩;conv=>whnf))
 rw [List.length_map]
 refine zaT [1,2,13,14] (fun k : Nat=>[(7,.sc (.int .u64 (zdk A s is k))),(15,.sc (.int .i64 k))]) (fun _=>[]) (fun k=>k≤A.length) (fun k=>A.length - k) 0 ?_
 ((conv=>whnf);repeat(refine⟨rfl,?_⟩;conv=>whnf))
 refine ⟨by omega,by (repeat' (first | exact trivial | refine And.intro rfl ?_)),rfl,?_⟩
 rintro k hk
 ((conv=>whnf);repeat(refine⟨rfl,?_⟩;conv=>whnf))
 (apply zac; focus (repeat' constructor))
 ((conv=>whnf);repeat(refine⟨rfl,?_⟩;conv=>whnf))
 (refine zab (fun q0=>?_) (fun q0=>?_) <;> (rw [q0]; ((conv=>whnf);repeat(refine⟨rfl,?_⟩;conv=>whnf))))
 ·have q0 : k < A.length:=by ((try simp only[oo,reduceCtorEq]at*)<;>omega)
  refine ⟨by omega,_,zaW (l:=A) (k:=k) (by omega) q0,?_⟩
  ((conv=>whnf);repeat(refine⟨rfl,?_⟩;conv=>whnf))
  have hx:=hr _ (zaM q0)
  have hS : zdk A s is (k + 1) = if (s.testBit k == is) = true then zcW .or .u64 (zdk A s is k) (2 ^ (A.getD k 0).toNat) else zdk A s is k:=rfl
  generalize A.getD k 0 = x at *
  refine ⟨by omega,?_⟩
  ((conv=>whnf);repeat(refine⟨rfl,?_⟩;conv=>whnf))
  have eb : (zcW .and .i64 ((s : Int).fdiv (2 ^ min ((k : Int)).toNat IntKind.i64.bits)) 1 == 1) = s.testBit k:=bit_P s k (by omega)
  have e1 : (1 : Int) * 2 ^ min x.toNat IntKind.u64.bits = 2 ^ x.toNat:=by
   rw [show IntKind.u64.bits = 64 from rfl,Nat.min_eq_left (by omega),Int.one_mul]
  have hb2 : (0 : Int)≤2 ^ x.toNat∧(2 : Int) ^ x.toNat < 18446744073709551616:=by
   have h1 : 2 ^ x.toNat≤2 ^ 63:=Nat.pow_le_pow_right (by omega) (by omega)
   have h2 : (2 : Nat) ^ 63 = 9223372036854775808:=by decide
   rw [zhs]
   generalize 2 ^ x.toNat = z at *
   omega
  rw [eb]
  cases r : (s.testBit k == is)
  ·rw [r,if_neg (by decide)] at hS
   ((conv=>whnf);repeat(refine⟨rfl,?_⟩;conv=>whnf))
   (refine .inl ⟨by (unfold InR; rw [IntKind.wrap_i64]; omega),?_⟩; ((conv=>whnf);repeat(refine⟨rfl,?_⟩;conv=>whnf)))
   refine ⟨k + 1,by omega,by dsimp only; omega,?_⟩
   dsimp only
   rw [hS]
   exact zan (by (repeat' (first | exact trivial | refine And.intro rfl ?_))) rfl
  ·rw [r,if_pos rfl] at hS
   ((conv=>whnf);repeat(refine⟨rfl,?_⟩;conv=>whnf))
   refine ⟨by omega,?_⟩
   rw [e1]
   refine .inl ⟨by unfold InR; rw [IntKind.wrap_u64]; omega,?_⟩
   ((conv=>whnf);repeat(refine⟨rfl,?_⟩;conv=>whnf))
   (refine .inl ⟨by (unfold InR; rw [IntKind.wrap_i64]; omega),?_⟩; ((conv=>whnf);repeat(refine⟨rfl,?_⟩;conv=>whnf)))
   refine ⟨k + 1,by omega,by dsimp only; omega,?_⟩
   dsimp only
   rw [hS]
   exact zan (by (repeat' (first | exact trivial | refine And.intro rfl ?_))) rfl
 ·have q0 : k = A.length:=by have : ¬ k < A.length:=by ((try simp only[oo,reduceCtorEq]at*)<;>omega)
                             omega
  subst q0
  exact .refl _
theorem ta_fair (A : List Int) (P : List Tree) (hI : TabI A P) (s : Nat) (g : Tree) (hw : g.wf pKids) (hT : Told A P g) (hk : g.kind = 8∨g.kind = 9) : PCall Tryz.prog 38 [mdat A P,za7 g,.sc (.int .i64 s)] (.sc (.bool (zb6 A P g s))):=by
 have hf:=hI.few
 have w1 : 1 < g.width:=by have:=zks hw; omega
 have h0:=zhz A P hI s g hw hT
 have h1:=zhz A P hI s (g.kid 1) (zbB hw w1) (hT.kid w1)
 have hE : zb6 A P g s = if g.kind = 8 then !(zaS (chE A P s) g) || zaS (chE A P s) (g.kid 1) else zaS (chE A P s) g || !(zaS (chE A P s) (g.kid 1)):=rfl
 refine zag c38_ok (by simp) (by simp [zao,Pure,zdi,zap]) ?_ (by simp [Pure])
 generalize zaS (chE A P s) g = b0 at *
 generalize zaS (chE A P s) (g.kid 1) = b1 at *
 rw [hE]
 unfold mdat at *
 (apply zac; focus (repeat' constructor))
 ((conv=>whnf);repeat(refine⟨rfl,?_⟩;conv=>whnf))
 (refine zab (fun g8=>?_) (fun g8=>?_) <;> (rw [g8]; ((conv=>whnf);repeat(refine⟨rfl,?_⟩;conv=>whnf))))
 ·have g8 : g.kind = 8:=by simpa using g8
  rw [if_pos g8]
  (refine .inl ⟨_,h0,?_⟩; ((conv=>whnf);repeat(refine⟨rfl,?_⟩;conv=>whnf)))
  cases b0
  ·((conv=>whnf);repeat(refine⟨rfl,?_⟩;conv=>whnf))
   exact .refl _
  ·((conv=>whnf);repeat(refine⟨rfl,?_⟩;conv=>whnf))
   refine ⟨by omega,_,zaZ w1,?_⟩
   ((conv=>whnf);repeat(refine⟨rfl,?_⟩;conv=>whnf))
   (refine .inl ⟨_,h1,?_⟩; ((conv=>whnf);repeat(refine⟨rfl,?_⟩;conv=>whnf)))
   exact .refl _
 ·have g8 : ¬ g.kind = 8:=by simpa using g8
  rw [if_neg g8]
  (refine .inl ⟨_,h0,?_⟩; ((conv=>whnf);repeat(refine⟨rfl,?_⟩;conv=>whnf)))
  cases b0
  ·((conv=>whnf);repeat(refine⟨rfl,?_⟩;conv=>whnf))
   refine ⟨by omega,_,zaZ w1,?_⟩
   ((conv=>whnf);repeat(refine⟨rfl,?_⟩;conv=>whnf))
   (refine .inl ⟨_,h1,?_⟩; ((conv=>whnf);repeat(refine⟨rfl,?_⟩;conv=>whnf)))
   exact .refl _
  ·((conv=>whnf);repeat(refine⟨rfl,?_⟩;conv=>whnf))
   exact .refl _
end
section
open Go.RowKit Go.Shelf Go.Sort
def zlF : Go.Shelf.Ren:=⟨fun | 189=>32 | 125=>66 | 257=>65 | 128=>101 | 129=>102 | 294=>92 | 295=>93 | 296=>94 | 297=>95 | 298=>96 | 299=>97 | 216=>98 | 300=>99 | 301=>100 | 328=>107 | 329=>108 | 330=>109 | 331=>110 | 332=>111 | 215=>112 | 343=>113 | n=>n,fun | 28=>22 | 3=>3 | 46=>97 | 0=>0 | 51=>120 | 53=>50 | 4=>4 | 183=>113 | 182=>112 | 131=>106 | 5=>5 | 9=>9 | 218=>126 | 222=>59 | 228=>131 | 229=>132 | n=>n,fun | n=>n⟩
theorem zph : Go.Proofs.Lays.n189 Tryz.prog zlF:={
 mixed:=by kernel_rfl,
 f125:=Tryz.func66.trans (congrArg some (by kernel_rfl)),
 f128:=Tryz.func101.trans (congrArg some (by kernel_rfl)),
 f129:=Tryz.func102.trans (congrArg some (by kernel_rfl)),
 f189:=Tryz.func32.trans (congrArg some (by kernel_rfl)),
 f215:=Tryz.func112.trans (congrArg some (by kernel_rfl)),
 f216:=Tryz.func98.trans (congrArg some (by kernel_rfl)),
 f257:=Tryz.func65.trans (congrArg some (by kernel_rfl)),
 f294:=Tryz.func92.trans (congrArg some (by kernel_rfl)),
 f295:=Tryz.func93.trans (congrArg some (by kernel_rfl)),
 f296:=Tryz.func94.trans (congrArg some (by kernel_rfl)),
 f297:=Tryz.func95.trans (congrArg some (by kernel_rfl)),
 f298:=Tryz.func96.trans (congrArg some (by kernel_rfl)),
 f299:=Tryz.func97.trans (congrArg some (by kernel_rfl)),
 f300:=Tryz.func99.trans (congrArg some (by kernel_rfl)),
 f301:=Tryz.func100.trans (congrArg some (by kernel_rfl)),
 f328:=Tryz.func107.trans (congrArg some (by kernel_rfl)),
 f329:=Tryz.func108.trans (congrArg some (by kernel_rfl)),
 f330:=Tryz.func109.trans (congrArg some (by kernel_rfl)),
 f331:=Tryz.func110.trans (congrArg some (by kernel_rfl)),
 f332:=Tryz.func111.trans (congrArg some (by kernel_rfl)),
 f343:=Tryz.func113.trans (congrArg some (by kernel_rfl)),
 t0:=Tryz.underlying0,
 a0:=Tryz.isAgg0,
 z0:=Tryz.sizeOf0,
 v0:=Tryz.zeroValue0,
 t3:=Tryz.underlying3,
 a3:=Tryz.isAgg3,
 z3:=Tryz.sizeOf3,
 v3:=Tryz.zeroValue3,
 t4:=Tryz.underlying4,
 a4:=Tryz.isAgg4,
 z4:=Tryz.sizeOf4,
 v4:=Tryz.zeroValue4,
 t5:=Tryz.underlying5,
 a5:=Tryz.isAgg5,
 z5:=Tryz.sizeOf5,
 v5:=Tryz.zeroValue5,
 t9:=Tryz.underlying9,
 a9:=Tryz.isAgg9,
 z9:=Tryz.sizeOf9,
 v9:=Tryz.zeroValue9,
 t28:=Tryz.underlying22,
 a28:=Tryz.isAgg22,
 z28:=Tryz.sizeOf22,
 v28:=Tryz.zeroValue22,
 t46:=Tryz.underlying97,
 a46:=Tryz.isAgg97,
 z46:=Tryz.sizeOf97,
 v46:=Tryz.zeroValue97,
 t51:=Tryz.underlying120,
 a51:=Tryz.isAgg120,
 z51:=Tryz.sizeOf120,
 v51:=Tryz.zeroValue120,
 t53:=Tryz.underlying50,
 a53:=Tryz.isAgg50,
 z53:=Tryz.sizeOf50,
 v53:=Tryz.zeroValue50,
 t131:=Tryz.underlying106,
 a131:=Tryz.isAgg106,
 z131:=Tryz.sizeOf106,
 v131:=Tryz.zeroValue106,
 t182:=Tryz.underlying112,
 a182:=Tryz.isAgg112,
 z182:=Tryz.sizeOf112,
 v182:=Tryz.zeroValue112,
 t183:=Tryz.underlying113,
 a183:=Tryz.isAgg113,
 z183:=Tryz.sizeOf113,
 v183:=Tryz.zeroValue113,
 t218:=Tryz.underlying126,
 a218:=Tryz.isAgg126,
 z218:=Tryz.sizeOf126,
 v218:=Tryz.zeroValue126,
 t222:=Tryz.underlying59,
 a222:=Tryz.isAgg59,
 z222:=Tryz.sizeOf59,
 v222:=Tryz.zeroValue59,
 t228:=Tryz.underlying131,
 a228:=Tryz.isAgg131,
 z228:=Tryz.sizeOf131,
 v228:=Tryz.zeroValue131,
 t229:=Tryz.underlying132,
 a229:=Tryz.isAgg132,
 z229:=Tryz.sizeOf132,
 v229:=Tryz.zeroValue132 }
def zgu (l : List Int) : List Int:=l.mergeSort fun x y=>decide (x≤y)
@[simp] theorem zoA (l : List Int) : (zgu l).length = l.length:=by unfold zgu; exact List.length_mergeSort _
theorem sort_row {w : World} {b o : Nat} {vals : Array Value} {te : TypeId} {fr : Nat × Nat} {n : Nat} {os : Array Obj} (d : Array Int) (hb : w.heap[b]? = some (.cells vals te fr)) :
  (grow (putRow (Value.int .i64) (Sort.ahead w n) b o d) os).heap[b]? = some (.cells (putCells (Value.int .i64) o d vals) te fr):=by
 have hg : b < w.heap.size:=(Array.getElem?_eq_some_iff.1 hb).1
 rw [heap_grow_old _ _ (by simpa using hg)]
 simp [putRow,mapBlock,Sort.ahead,Array.getElem?_modify,hb,onCells]
theorem zm6 {w : World} {b o : Nat} {n : Nat} {os : Array Obj} (d : Array Int) {k : Nat} (hk : k < w.heap.size) (hne : k≠b) : (grow (putRow (Value.int .i64) (Sort.ahead w n) b o d) os).heap[k]? = w.heap[k]?:=by
 rw [heap_grow_old _ _ (by simpa using hk)]
 have : b≠k:=fun e=>hne e.symm
 simp [putRow,mapBlock,Sort.ahead,Array.getElem?_modify,this]
theorem sort_own (ver : Nat) (l : List Int) (h0 : 0 < l.length) (hl : l.length < 4611686018427387904) :
  ACall Tryz.prog 32 [.own 0 ver 0 l.length] [.vec true ver 1 (i64s l)] (.tup []) [.vec true ver 1 (i64s (zgu l))] where
 ok:=⟨_,Tryz.func32,by kernel_rfl,by kernel_rfl⟩
 len:=by simp
 run J F w vs hst hdom hR:=by
  simp only [repL,rep] at hR
  obtain ⟨v,us,rfl,⟨s,A,n,c,hJ,rfl,_,hq⟩,rfl⟩:=hR
  obtain ⟨ob,ho,hO⟩:=hst.obj 0 s hJ
  have ho : AObj.vec true ver 1 (i64s l) = ob:=Option.some.inj ho
  subst ho
  simp only [ObjOK] at hO
  obtain ⟨hrow,hver,hesz,hlen,hcap,hmem⟩:=hO
  obtain ⟨_,_,hhi,hn,hc,hA⟩:=hq hver.symm
  have hsl : s.len = l.length:=by rw [hlen]; simp [i64s]
  have hc0 : ¬ s.cap = 0:=by omega
  obtain ⟨b,o,had,hAv⟩:=hA.resolve_left hc0
  obtain ⟨b',o',vals,te,had',hb,hsz,hrr,_⟩:=hmem.resolve_left hc0
  rw [had] at had'
  obtain ⟨rfl,rfl⟩ : b = b'∧o = o':=by
   have:=Option.some.inj had'
   injection this with h1 h2 h3
   exact ⟨h1,h2⟩
  rw [Nat.zero_mul,Nat.add_zero] at hAv
  subst hAv
  have hnl : n = l.length:=by omega
  subst hnl
  have hbs : b < w.heap.size:=(Array.getElem?_eq_some_iff.1 hb).1
  have hH : Holds (Value.int .i64) w b o l.toArray:=fun j hj=>by
   have hj' : j < l.length:=by simpa using hj
   obtain ⟨_,hcell⟩:=zbT (i64s l) o j [.sc (.int .i64 l[j])] (by simp [i64s,hj']) hrr
   simp only [repCells,rep] at hcell
   obtain ⟨⟨u,hu,_,rfl⟩,_⟩:=hcell
   rw [Nat.mul_one] at hu
   refine ⟨by rw [hu]; simp [hj'],by simp [World.frozen?,hb]⟩
  have hblk : s.blk = some b:=by unfold Site.blk; rw [if_neg (by simp [hc0]),had]; rfl
  have hnF : ¬ F b:=hst.apart 0 s b _ hJ hblk rfl rfl
  refine (Any.slices_Sort_int zph b o c l w hH hbs hl).mono fun e w' ⟨he,nd,os,hw'⟩=>?_
  have hrow' : w'.heap[b]? = some (.cells (putCells (Value.int .i64) o (zgu l).toArray vals) te (0,0)):=by rw [hw']; exact sort_row _ hb
  have hoth : ∀ k,k < w.heap.size→k≠b→w'.heap[k]? = w.heap[k]?:=fun k h1 h2=>by rw [hw']; exact zm6 _ h1 h2
  have hsize : w.heap.size≤w'.heap.size:=by rw [hw']; simp [Sort.ahead]
  have hfr : ∀ k,F k→w'.heap[k]? = w.heap[k]?:=fun k hk=>hoth k (hst.lt k hk) fun e=>hnF (e ▸ hk)
  have hos : w'.os = w.os∧w'.tape = w.tape∧w'.output = w.output:=by rw [hw']; exact ⟨rfl,rfl,rfl⟩
  refine ⟨_,J,F,he,?_,hdom,by simp [rep,repL],?_⟩
  ·refine hst.update 0 s (.vec true ver 1 (i64s (zgu l))) (fun i=>?_) (fun i=>?_) (Inj.le_refl J) hfr hsize ?_ (fun b2 h2=>.inr ⟨s,hJ,h2⟩) (fun i s2 b2 h1 h2=>hst.blk_lt h1 h2) ?_ ?_
   ·by_cases e : i = 0
    ·subst e; rw [if_pos rfl,hJ]
    ·rw [if_neg e]
   ·by_cases e : i = 0
    ·subst e; rfl
    ·rw [if_neg e]
     cases i with
     | zero=>exact absurd rfl e
     | succ i=>rfl
   ·intro i s2 b2 hi h1 h2
    refine hoth b2 (hst.blk_lt h1 h2) fun e=>hi ?_
    subst e
    exact hst.one i 0 s2 s b2 h1 hJ h2 hblk
   ·intro b2 h1 _
    rw [hblk] at h1
    cases h1
    exact hnF
   ·simp only [ObjOK]
    refine ⟨hrow,hver,hesz,by rw [hlen]; simp [i64s],hcap,.inr ⟨b,o,_,te,had,hrow',by simp [putCells]; omega,?_,fun h=>by cases h⟩⟩
    refine zcc _ _ fun j x hx=>?_
    have hj : j < (zgu l).length:=by
     have:=(List.getElem?_eq_some_iff.1 hx).1
     simpa [i64s] using this
    have hx' : x = [.sc (.int .i64 (zgu l)[j])]:=by
     have : (i64s (zgu l))[j]? = some [.sc (.int .i64 (zgu l)[j])]:=by simp [i64s,hj]
     rw [hx] at this
     exact Option.some.inj this
    subst hx'
    refine ⟨rfl,?_⟩
    simp only [repCells,rep]
    refine ⟨⟨_,?_,rfl,rfl⟩,trivial⟩
    have hjv : o + j < vals.size:=by
     rw [zoA] at hj
     rw [Nat.mul_one] at hsz
     omega
    simp only [World.cell?,hrow',Nat.mul_one]
    simp only [Option.isSome_none,Bool.false_eq_true,if_false]
    have hjl : j < l.length:=by simpa using hj
    simp [putCells,hjv,hjl,List.getElem?_eq_getElem hj]
  ·exact ⟨hos.1,hos.2.1,hos.2.2,hsize,fun k hk ho=>hoth k hk fun e=>ho ⟨0,s,hJ,e ▸ hblk⟩,hfr,Inj.le_refl J,fun _ h=>h,fun _ h=>.inl h,fun _ h=>.inl h⟩
def c32 : PC:=.seq (.ops [qm 3 0,q 4 (.len (.tmp 3)),qm 2 4] false) (.ops [qm 5 0,qm 6 2,qm 7 2,q 8 (.conv .u64 (.tmp 7)),q 9 (.call 66 [(.tmp 8)]),q 10 (.call 65 [(.tmp 5),(.const (.int .i64 0)),(.tmp 6),(.tmp 9)])] false)
theorem c32_ok : FunOK Tryz.prog 32 11 [] c32:=⟨⟨Tryz.f32,Tryz.func32,rfl,by kernel_rfl,rfl,by kernel_rfl⟩⟩
def c65_1 : PC:=.block 1 (.seq (.ops [qm 19 2,qm 20 1,q 21 (.bin .sub (.tmp 19) (.tmp 20)),qm 10 21] false) (.seq (.seq (.ops [qm 22 10,q 23 (.bin .leq (.tmp 22) (.const (.int .i64 12)))] false) (.cond (.tmp 23) (.seq (.ops [qm 24 0,qm 25 1,qm 26 2,q 27 (.call 92 [(.tmp 24),(.tmp 25),(.tmp 26)])] false) (.ret)) (.skip))) (.seq (.seq (.ops [qm 28 3,q 29 (.bin .eql (.tmp 28) (.const (.int .i64 0)))] false) (.cond (.tmp 29) (.seq (.ops [qm 30 0,qm 31 1,qm 32 2,q 33 (.call 93 [(.tmp 30),(.tmp 31),(.tmp 32)])] false) (.ret)) (.skip))) (.seq (.seq (.ops [qm 34 8,q 35 (.un .not (.tmp 34))] false) (.cond (.tmp 35) (.seq (.ops [qm 36 0,qm 37 1,qm 38 2,q 39 (.call 94 [(.tmp 36),(.tmp 37),(.tmp 38)])] false) (.ops [qm 40 3,q 41 (.bin .sub (.tmp 40) (.const (.int .i64 1))),qm 3 41] false)) (.skip))) (.seq (.ops [qm 43 0,qm 44 1,qm 45 2,q 46 (.call 95 [(.tmp 43),(.tmp 44),(.tmp 45)]),qm 42 46,q 47 (.ext 0 (.tmp 42)),q 48 (.ext 1 (.tmp 42)),qm 11 47,qm 12 48] false) (.seq (.seq (.ops [qm 49 12,q 50 (.bin .eql (.tmp 49) (.const (.int .i64 2)))] false) (.cond (.tmp 50) (.seq (.ops [qm 51 0,qm 52 1,qm 53 2,q 54 (.call 96 [(.tmp 51),(.tmp 52),(.tmp 53)])] false) (.seq (.ops [qm 55 2,q 56 (.bin .sub (.tmp 55) (.const (.int .i64 1))),qm 57 11,qm 58 1,q 59 (.bin .sub (.tmp 57) (.tmp 58)),q 60 (.bin .sub (.tmp 56) (.tmp 59)),qm 11 60] false) (.ops [q 12 (.move (.const (.int .i64 1)))] false))) (.skip))) (.seq (.seq (.ops [qm 61 8,qm 62 61,⟨some 63,.move (.tmp 9),some (62,true),0⟩,q 64 (.pick (.tmp 62) (.tmp 63) (.const (.bool false))),qm 65 64,⟨some 66,.move (.tmp 12),some (65,true),0⟩,⟨some 67,.bin .eql (.tmp 66) (.const (.int .i64 1)),some (65,true),0⟩,q 68 (.pick (.tmp 65) (.tmp 67) (.const (.bool false)))] false) (.cond (.tmp 68) (.seq (.ops [qm 69 0,qm 70 1,qm 71 2,q 72 (.call 97 [(.tmp 69),(.tmp 70),(.tmp 71)])] false) (.cond (.tmp 72) (.ret) (.skip))) (.skip))) (.seq (.seq (.ops [qm 73 1,qd 74 (.bin .gtr (.tmp 73) (.const (.int .i64 0))) 1,qw 75 74 3,⟨some 76,.move (.tmp 0),some (75,true),7⟩,⟨some 77,.move (.tmp 1),some (75,true),7⟩,⟨some 78,.bin .sub (.tmp 77) (.const (.int .i64 1)),some (75,true),23⟩,⟨some 79,.iaddr 1 (.tmp 76) (.tmp 78),some (75,true),63⟩,⟨some 80,.load1 (.tmp 79),some (75,true),127⟩,⟨some 81,.move (.tmp 0),some (75,true),7⟩,⟨some 82,.move (.tmp 11),some (75,true),7⟩,⟨some 83,.iaddr 1 (.tmp 81) (.tmp 82),some (75,true),775⟩,⟨some 84,.load1 (.tmp 83),some (75,true),1799⟩,⟨some 85,.call 98 [(.tmp 80),(.tmp 84)],some (75,true),4095⟩,⟨some 86,.un .not (.tmp 85),some (75,true),8191⟩,qd 87 (.pick (.tmp 75) (.tmp 86) (.const (.bool false))) 16383] true) (.cond (.tmp 87) (.seq (.ops [qm 88 0,qm 89 1,qm 90 2,qm 91 11,q 92 (.call 99 [(.tmp 88),(.tmp 89),(.tmp 90),(.tmp 91)]),qm 13 92] false) (.seq (.ops [qm 93 13,qm 1 93] false) (.exit 1))) (.skip))) (.seq (.ops [qm 95 0,qm 96 1,qm 97 2,qm 98 11,q 99 (.call 100 [(.tmp 95),(.tmp 96),(.tmp 97),(.tmp 98)]),qm 94 99,q 100 (.ext 0 (.tmp 94)),q 101 (.ext 1 (.tmp 94)),qm 14 100,qm 15 101] false) (.seq (.ops [qm 102 15,qm 9 102] false) (.seq (.ops [qm 103 14,qm 104 1,q 105 (.bin .sub (.tmp 103) (.tmp 104)),qm 106 2,qm 107 14,q 108 (.bin .sub (.tmp 106) (.tmp 107)),qm 16 105,qm 17 108] false) (.seq (.ops [qm 109 10,q 110 (.bin .quo (.tmp 109) (.const (.int .i64 8))),qm 18 110] false) (.seq (.ops [qm 111 16,qm 112 17,q 113 (.bin .lss (.tmp 111) (.tmp 112))] false) (.cond (.tmp 113) (.seq (.ops [qm 114 16,qm 115 18,q 116 (.bin .geq (.tmp 114) (.tmp 115)),qm 8 116] false) (.seq (.ops [qm 117 0,qm 118 1,qm 119 14,qm 120 3,q 121 (.call 65 [(.tmp 117),(.tmp 118),(.tmp 119),(.tmp 120)])] false) (.ops [qm 122 14,q 123 (.bin .add (.tmp 122) (.const (.int .i64 1))),qm 1 123] false))) (.seq (.ops [qm 124 17,qm 125 18,q 126 (.bin .geq (.tmp 124) (.tmp 125)),qm 8 126] false) (.seq (.ops [qm 127 0,qm 128 14,q 129 (.bin .add (.tmp 128) (.const (.int .i64 1))),qm 130 2,qm 131 3,q 132 (.call 65 [(.tmp 127),(.tmp 129),(.tmp 130),(.tmp 131)])] false) (.ops [qm 133 14,qm 2 133] false)))))))))))))))))
def c65 : PC:=.seq (.ops [q 8 (.move (.const (.bool true)))] false) (.seq (.ops [q 9 (.move (.const (.bool true)))] false) (.block 0 (.loop c65_1)))
theorem c65_ok : FunOK Tryz.prog 65 134 [] c65:=⟨⟨Tryz.f65,Tryz.func65,rfl,by kernel_rfl,rfl,by kernel_rfl⟩⟩
def c92_2 : PC:=.seq (.seq (.ops [qm 16 7,qm 17 1,qd 18 (.bin .gtr (.tmp 16) (.tmp 17)) 3,qw 19 18 7,⟨some 20,.move (.tmp 0),some (19,true),15⟩,⟨some 21,.move (.tmp 7),some (19,true),15⟩,⟨some 22,.iaddr 1 (.tmp 20) (.tmp 21),some (19,true),63⟩,⟨some 23,.load1 (.tmp 22),some (19,true),127⟩,⟨some 24,.move (.tmp 0),some (19,true),15⟩,⟨some 25,.move (.tmp 7),some (19,true),15⟩,⟨some 26,.bin .sub (.tmp 25) (.const (.int .i64 1)),some (19,true),527⟩,⟨some 27,.iaddr 1 (.tmp 24) (.tmp 26),some (19,true),1807⟩,⟨some 28,.load1 (.tmp 27),some (19,true),3855⟩,⟨some 29,.call 98 [(.tmp 23),(.tmp 28)],some (19,true),8191⟩,qd 30 (.pick (.tmp 19) (.tmp 29) (.const (.bool false))) 16383] true) (.cond (.tmp 30) (.skip) (.exit 2))) (.seq (.block 3 (.ops [qm 33 0,qm 34 7,qm 35 0,qm 36 7,qd 37 (.bin .sub (.tmp 36) (.const (.int .i64 1))) 8,qm 38 0,qm 39 7,qd 40 (.bin .sub (.tmp 39) (.const (.int .i64 1))) 64,qd 41 (.iaddr 1 (.tmp 38) (.tmp 40)) 224,qd 42 (.load1 (.tmp 41)) 480,qm 43 0,qm 44 7,qd 45 (.iaddr 1 (.tmp 43) (.tmp 44)) 3072,qd 46 (.load1 (.tmp 45)) 7168,qd 47 (.iaddr 1 (.tmp 33) (.tmp 34)) 16355,qk (.store 1 (.tmp 47) (.tmp 42)) 32739,qd 48 (.iaddr 1 (.tmp 35) (.tmp 37)) 65535,qk (.store 1 (.tmp 48) (.tmp 46)) 131071] true)) (.ops [qm 31 7,q 32 (.bin .sub (.tmp 31) (.const (.int .i64 1))),qm 7 32] false))
def c92_1 : PC:=.seq (.seq (.ops [qm 10 6,qm 11 2,q 12 (.bin .lss (.tmp 10) (.tmp 11))] false) (.cond (.tmp 12) (.skip) (.exit 0))) (.seq (.block 1 (.seq (.ops [qm 15 6,qm 7 15] false) (.block 2 (.loop c92_2)))) (.ops [qm 13 6,q 14 (.bin .add (.tmp 13) (.const (.int .i64 1))),qm 6 14] false))
def c92 : PC:=.seq (.ops [qm 8 1,q 9 (.bin .add (.tmp 8) (.const (.int .i64 1))),qm 6 9] false) (.block 0 (.loop c92_1))
theorem c92_ok : FunOK Tryz.prog 92 49 [] c92:=⟨⟨Tryz.f92,Tryz.func92,rfl,by kernel_rfl,rfl,by kernel_rfl⟩⟩
theorem zmO : PCall Tryz.prog 66 [.sc (.int .u64 0)] (.sc (.int .i64 0)) where
 ok:=⟨_,Tryz.func66,by kernel_rfl,by kernel_rfl⟩
 run J F w vs hF hR:=by
  simp only [repL,rep] at hR
  obtain ⟨v,us,rfl,rfl,rfl⟩:=hR
  refine (calls_of_every_depth fun D=>AnyS.bits_LenIn { zph with } D 0 w (by omega) (by omega)).mono fun e w' ⟨he,hw⟩=>?_
  subst hw
  exact ⟨_,F,he,hF.lt,rfl,Ext.refl _ _ _⟩
theorem zlh : PCall Tryz.prog 92 [.lst 1 [],.sc (.int .i64 0),.sc (.int .i64 0)] (.tup []):=by
 refine zag c92_ok (by simp) (by simp [zao,Pure,zbd]) ?_ (by simp [Pure,zao])
 (apply zac; focus (repeat' constructor))
 ((conv=>whnf);repeat(refine⟨rfl,?_⟩;conv=>whnf))
 (refine .inl ⟨by (unfold InR; rw [IntKind.wrap_i64]; omega),?_⟩; ((conv=>whnf);repeat(refine⟨rfl,?_⟩;conv=>whnf)))
 refine zaT [0,1,2] (fun _ : Nat=>[(6,.sc (.int .i64 1))]) (fun _=>[]) (fun _=>True) (fun _=>0) 0 ?_
 ((conv=>whnf);repeat(refine⟨rfl,?_⟩;conv=>whnf))
 refine ⟨trivial,by (repeat' (first | exact trivial | refine And.intro rfl ?_)),rfl,?_⟩
 rintro k -
 ((conv=>whnf);repeat(refine⟨rfl,?_⟩;conv=>whnf))
 (apply zac; focus (repeat' constructor))
 ((conv=>whnf);repeat(refine⟨rfl,?_⟩;conv=>whnf))
 exact .refl _
theorem zom (n : Int) : PCall Tryz.prog 65 [.lst 1 [],.sc (.int .i64 0),.sc (.int .i64 0),.sc (.int .i64 n)] (.tup []):=by
 refine zag c65_ok (by simp) (by simp [zao,Pure,zbd]) ?_ (by simp [Pure,zao])
 (apply zac; focus (repeat' constructor))
 ((conv=>whnf);repeat(refine⟨rfl,?_⟩;conv=>whnf))
 refine zaT [0] (fun _ : Nat=>[(1,.sc (.int .i64 0)),(2,.sc (.int .i64 0)),(3,.sc (.int .i64 n)),(8,.sc (.bool true)),(9,.sc (.bool true))]) (fun _=>[]) (fun _=>True) (fun _=>0) 0 ?_
 ((conv=>whnf);repeat(refine⟨rfl,?_⟩;conv=>whnf))
 refine ⟨trivial,by (repeat' (first | exact trivial | refine And.intro rfl ?_)),rfl,?_⟩
 rintro k -
 ((conv=>whnf);repeat(refine⟨rfl,?_⟩;conv=>whnf))
 (apply zac; focus (repeat' constructor))
 ((conv=>whnf);repeat(refine⟨rfl,?_⟩;conv=>whnf))
 (refine .inl ⟨by (unfold InR; rw [IntKind.wrap_i64]; omega),?_⟩; ((conv=>whnf);repeat(refine⟨rfl,?_⟩;conv=>whnf)))
 (refine .inl ⟨_,zlh,?_⟩; ((conv=>whnf);repeat(refine⟨rfl,?_⟩;conv=>whnf)))
 exact .refl _
theorem sort_0 : PCall Tryz.prog 32 [.lst 1 []] (.tup []):=by
 refine zag c32_ok (by simp) (by simp [zao,Pure,zbd]) ?_ (by simp [Pure,zao])
 (apply zac; focus (repeat' constructor))
 ((conv=>whnf);repeat(refine⟨rfl,?_⟩;conv=>whnf))
 rw [show (([] : List (List D)).length : Int) = 0 from rfl]
 refine .inl ⟨by unfold InR; rw [IntKind.wrap_u64]; omega,?_⟩
 ((conv=>whnf);repeat(refine⟨rfl,?_⟩;conv=>whnf))
 (refine .inl ⟨_,zmO,?_⟩; ((conv=>whnf);repeat(refine⟨rfl,?_⟩;conv=>whnf)))
 (refine .inl ⟨_,(zom 0),?_⟩; ((conv=>whnf);repeat(refine⟨rfl,?_⟩;conv=>whnf)))
 exact .refl _
theorem sort_int (ver : Nat) (l : List Int) (hl : l.length < 4611686018427387904) :
  ACall Tryz.prog 32 [.own 0 ver 0 l.length] [.vec true ver 1 (i64s l)] (.tup []) [.vec true ver 1 (i64s (zgu l))]:=by
 rcases Nat.eq_zero_or_pos l.length with h0 | h0
 ·have h0:=List.length_eq_zero_iff.1 h0
  subst h0
  refine ⟨sort_0.1,by simp,fun J F w vs hst hdom hR=>?_⟩
  simp only [repL,rep] at hR
  obtain ⟨v,us,rfl,⟨s,A,n,c,hJ,rfl,_,hq⟩,rfl⟩:=hR
  obtain ⟨ob,ho,hO⟩:=hst.obj 0 s hJ
  have ho : AObj.vec true ver 1 (i64s []) = ob:=Option.some.inj ho
  subst ho
  simp only [ObjOK] at hO
  obtain ⟨hrow,hver,hesz,hlen,hcap,hmem⟩:=hO
  obtain ⟨_,_,hhi,hn,hc,hA⟩:=hq hver.symm
  have hn0 : n = 0:=by simpa using hn
  subst hn0
  refine (sort_0.run J F w [.slice A 0 c] hst.lt (by simp only [repL,rep]; exact ⟨_,_,rfl,⟨_,_,_,rfl,rfl,by omega,.inl rfl⟩,rfl⟩)).mono fun e w' ⟨v,F',he,h1,h2,h3⟩=>?_
  refine ⟨v,J,F',he,?_,hdom,za4 (zht J) (fun _ h=>h) (fun _ _=>rfl) _ _ h2,Ext.ofPure hst h3⟩
  rw [show zgu [] = [] by simp [zgu]]
  exact hst.keep (fun b hb=>h3.block b hb (zd2 b)) h3.size h3.grow (fun b hb=>(h3.growBack b hb).imp_right fun q=>q.resolve_left (zd2 b)) h1
 ·exact sort_own ver l h0 hl
end
section
open Go.RowKit
theorem zj7 : ∀ (a b : List Int),a.Pairwise (· < ·)→b.Pairwise (· < ·)→(∀ x,x∈a↔x∈b)→a = b
 | [],[],_,_,_=>rfl
 | [],y :: b,_,_,h=>by have:=(h y).2 (by simp); cases this
 | x :: a,[],_,_,h=>by have:=(h x).1 (by simp); cases this
 | x :: a,y :: b,ha,hb,h=>by
  rw [List.pairwise_cons] at ha hb
  have hxy : x = y:=by
   have h1:=(h x).1 (by simp)
   have h2:=(h y).2 (by simp)
   rcases List.mem_cons.1 h1 with e | e
   ·exact e
   ·rcases List.mem_cons.1 h2 with e2 | e2
    ·exact e2.symm
    ·have:=ha.1 y e2; have:=hb.1 x e; omega
  subst hxy
  refine congrArg _ (zj7 a b ha.2 hb.2 fun z=>⟨fun hz=>?_,fun hz=>?_⟩)
  ·have:=ha.1 z hz
   rcases List.mem_cons.1 ((h z).1 (by simp [hz])) with e | e
   ·omega
   ·exact e
  ·have:=hb.1 z hz
   rcases List.mem_cons.1 ((h z).2 (by simp [hz])) with e | e
   ·omega
   ·exact e
theorem zkI (p : Nat→Bool) (k : Nat) : (zbC p k).Pairwise (· < ·):=by
 unfold zbC
 rw [List.pairwise_map]
 refine List.Pairwise.imp (R:=fun a b : Nat=>a < b) (fun h=>by omega) ?_
 exact List.Pairwise.filter _ (List.pairwise_lt_range ..)
theorem zoj {l : List Int} (h : l.Pairwise (fun a b=>a≤b)) (hn : l.Nodup) : l.Pairwise (· < ·):=by
 have:=List.Pairwise.and h hn
 exact this.imp fun ⟨h1,h2⟩=>by omega
theorem zi1 {f : Tree} (hw : f.wf zaE) : zgu (addI [] (zaB f)) = zex (zaB f):=by
 have hp : (zgu (addI [] (zaB f))).Perm (addI [] (zaB f)):=List.mergeSort_perm _ _
 refine zj7 _ _ (zoj ?_ (hp.nodup_iff.2 (znf _ _ (by simp)))) (zkI _ _) fun x=>?_
 ·have:=List.pairwise_mergeSort (le:=fun x y : Int=>decide (x≤y)) (fun a b c h1 h2=>by simp only [decide_eq_true_eq] at *; omega) (fun a b=>by simp only [Bool.or_eq_true,decide_eq_true_eq]; omega) (addI [] (zaB f))
  exact this.imp fun h=>by simpa using h
 ·rw [hp.mem_iff,mem_addI,ziq (zdK f hw)]
  simp
theorem zor {f : Tree} (hw : f.wf pKids) (h10 : (zex (zaB f)).length + (addT [] (zaC f)).length≤10) : TabI (zex (zaB f)) (addT [] (zaC f)) where
 few:=h10
 atoms x hx:=zdK f (wf_p hw) x ((ziq (zdK f (wf_p hw))).1 hx)
 told g hg:=znT (wf_p hw) hg
 wf g hg:=zl7 pKids f hw g (((zjK _ _).1 hg).resolve_left (by simp))
noncomputable def zj0 (A : List Int) (P : List Tree) (k r : Nat) : List Int:=zbC (fun t=>zga A P t == r) k
noncomputable def zdz (A : List Int) (P : List Tree) (k : Nat) : List (List Int):=(List.range (2 ^ P.length)).map (zj0 A P k)
@[simp] theorem zo9 (A : List Int) (P : List Tree) (k : Nat) : (zdz A P k).length = 2 ^ P.length:=by simp [zdz]
theorem zhB {A : List Int} {P : List Tree} {k r : Nat} (h : r < 2 ^ P.length) : (zdz A P k).getD r [] = zj0 A P k r:=by
 unfold zdz
 rw [List.getD_eq_getElem?_getD,List.getElem?_map,List.getElem?_range h]
 rfl
theorem zoU (A : List Int) (P : List Tree) (k r : Nat) : (zj0 A P k r).length≤k:=zb0 _ _
theorem zmS (A : List Int) (P : List Tree) : zdz A P 0 = List.replicate (2 ^ P.length) []:=by
 unfold zdz
 rw [List.eq_replicate_iff]
 refine ⟨by simp,fun b hb=>?_⟩
 obtain ⟨r,_,rfl⟩:=List.mem_map.1 hb
 rfl
theorem zoe (A : List Int) (P : List Tree) (s : Nat) : zga A P s < 2 ^ P.length:=zgq _ _
theorem znR (A : List Int) (P : List Tree) (k : Nat) : (zdz A P k).set (zga A P k) (zj0 A P k (zga A P k) ++ [(k : Int)]) = zdz A P (k + 1):=by
 apply List.ext_getElem?
 intro j
 rw [List.getElem?_set]
 by_cases hj : j < 2 ^ P.length
 ·rw [zgD (L:=zdz A P (k + 1)) (by simpa using hj),zhB hj]
  have hS : zj0 A P (k + 1) j = if (zga A P k == j) = true then zj0 A P k j ++ [(k : Int)] else zj0 A P k j:=zcE _ _
  rw [hS]
  by_cases e : zga A P k = j
  ·rw [if_pos e,e,if_pos (by simpa using hj),if_pos (by simp)]
  ·rw [if_neg e,zgD (L:=zdz A P k) (by simpa using hj),zhB hj,if_neg (by simpa using e)]
 ·rw [List.getElem?_eq_none (by simpa using hj),if_neg (fun e : zga A P k = j=>hj (e ▸ zoe A P k)),List.getElem?_eq_none (by simpa using hj)]
theorem znw {a p s : Nat} (h : s < 2 ^ (a + p)) : s / 2 ^ a < 2 ^ p:=by
 rw [Nat.div_lt_iff_lt_mul (Nat.two_pow_pos _),Nat.mul_comm,← Nat.pow_add]
 exact h
theorem zm0 {A : List Int} {P : List Tree} {s : Nat} (h : s < 2 ^ (A.length + P.length)) : (zdz A P (2 ^ (A.length + P.length))).getD (s / 2 ^ A.length) [] = zir A P (A.length + P.length) s:=zhB (znw h)
noncomputable def stE (A : List Int) (P : List Tree) (f : Tree) (k : Nat) : List Int:=zbC (fun s=>zaS (chE A P s) f) k
noncomputable def tnxE (A : List Int) (P : List Tree) (k : Nat) : List (List Int):=(List.range k).map (zir A P (A.length + P.length))
noncomputable def leE (A : List Int) (is : Bool) (k : Nat) : List Int:=(List.range k).map fun s=>zdk A s is A.length
theorem zmb (A : List Int) (P : List Tree) (f : Tree) (k : Nat) : stE A P f (k + 1) = if zaS (chE A P k) f = true then stE A P f k ++ [(k : Int)] else stE A P f k:=zcE _ _
theorem zkE (A : List Int) (P : List Tree) (k : Nat) : tnxE A P (k + 1) = tnxE A P k ++ [zir A P (A.length + P.length) k]:=by simp [tnxE,List.range_succ]
theorem zhm (A : List Int) (is : Bool) (k : Nat) : leE A is (k + 1) = leE A is k ++ [zdk A k is A.length]:=by simp [leE,List.range_succ]
@[simp] theorem tnxE_len (A : List Int) (P : List Tree) (k : Nat) : (tnxE A P k).length = k:=by simp [tnxE]
@[simp] theorem leE_len (A : List Int) (is : Bool) (k : Nat) : (leE A is k).length = k:=by simp [leE]
theorem zoG (A : List Int) (P : List Tree) (f : Tree) (k : Nat) : (stE A P f k).length≤k:=zb0 _ _
theorem zoW (A : List Int) (P : List Tree) (f : Tree) : tabE A P f = ⟨stE A P f (2 ^ (A.length + P.length)),tnxE A P (2 ^ (A.length + P.length)),leE A true (2 ^ (A.length + P.length)),leE A false (2 ^ (A.length + P.length)),zcG A P (A.length + P.length) P.length⟩:=rfl
theorem zlT {A : List Int} {P : List Tree} {k z i : Nat} {R : List Int} (hz : z = i) (hi : i < 2 ^ P.length) (hR : (zdz A P k).getD i [] = R) : ((zdz A P k).map fun l=>[zaD l])[z]? = some [zaD R]:=by
 subst hz
 rw [List.getElem?_map,zgD (L:=zdz A P k) (by simpa using hi),hR]
 rfl
theorem ze7 {S : Nat→Bool} {H : List AObj} {x y : List D} (h : DeepML S H x y) : ∀ a : List (List D),DeepMLL S H (a ++ [x]) (a ++ [y])
 | []=>.cons _ _ _ _ h (.refl _)
 | z :: a=>.cons _ _ _ _ (.refl _) (ze7 h a)
theorem za9 {S : Nat→Bool} {H : List AObj} {L : List (List Int)} {c id ver n : Nat} {m : Bool} {R : List Int} (hc : c = L.length) (hn : n = R.length) (hS : S id = true) (hH : H[id]? = some (.vec m ver 1 (i64s R))) :
  DeepMLL S H (List.drop 0 (List.take c (zba L)) ++ List.drop 0 (List.take 1 [[D.own id ver 0 n]])) (zba (L ++ [R])):=by
 subst hc hn
 rw [zav (by simp),show zba (L ++ [R]) = zba L ++ [[zaD R]] by simp [zba]]
 exact ze7 (.cons _ _ _ _ (.own _ _ _ _ _ _ _ _ hS hH (zah (zav (by simp [i64s])))) (.refl _)) _
theorem zgK (ρ : Nat→Nat) (l : List Int) : zdo ρ (i64s l) = i64s l:=zbn _ (zas _ (fun l=>by simp [zao,Pure]) l)
theorem zh0 (ρ : Nat→Nat) (l : List Tree) : zdo ρ (zaL l) = zaL l:=zbn _ (zat l)
def u64r (l : List Int) : List (List D):=l.map fun n=>[.sc (.int .u64 n)]
@[simp] theorem u64r_len (l : List Int) : (u64r l).length = l.length:=List.length_map ..
theorem zbi (l : List Int) : zbd (u64r l):=zas _ (fun l=>by simp [zao,Pure]) l
@[simp] theorem underLL_u64r {m : Nat} (l : List Int) : zak m (u64r l)↔True:=⟨fun _=>trivial,fun _=>zaa _ (zbi l)⟩
theorem zbk {l : List Int} {c : Nat} {x : Int} (h : c = l.length) : List.drop 0 (List.take c (u64r l)) ++ [[.sc (.int .u64 x)]] = u64r (l ++ [x]):=by
 subst h
 rw [zav (by simp)]
 simp [u64r]
end
section
open Go.RowKit
noncomputable def zlx (t : Tree) : D :=
 if (zeF t (zaH t)).2 = 0 then ansT (zaH t) else .tup [zeh znD,.sc (.int .i64 (zeF t (zaH t)).2)]
theorem zm9 {t : Tree} (h : (zeF t (zaH t)).2 = 0) : (zeF t (zaH t)).1 = zaH t∧chk zaE t = 0∧chk zaE (zaH t) = 0:=by
 unfold zeF at *
 split at h
 ·rename_i h1
  split at h
  ·rename_i h2
   rw [if_pos h1,if_pos h2]
   exact ⟨rfl,h1,h2⟩
  ·rename_i h2; exact absurd h h2
 ·rename_i h1; exact absurd h h1
def c11_1 : PC:=.seq (.ops [q 59 (.bin .lss (.tmp 58) (.tmp 57))] false) (.seq (.cond (.tmp 59) (.skip) (.exit 0)) (.seq (.block 1 (.seq (.ops [qm 60 58,qm 9 60] false) (.seq (.ops [qm 61 5,qm 62 9,q 63 (.call 33 [(.tmp 61),(.tmp 62)]),qm 10 63] false) (.ops [qm 64 8,qm 65 10,qm 66 8,qm 67 10,q 68 (.iaddr 1 (.tmp 66) (.tmp 67)),q 69 (.load1 (.tmp 68)),qm 70 9,q 71 (.bslice 1 1 [(.tmp 70)]),q 72 (.append 1 8 (.tmp 69) (.tmp 71)),q 73 (.iaddr 1 (.tmp 64) (.tmp 65)),qn (.store 1 (.tmp 73) (.tmp 72))] false)))) (.ops [q 74 (.bin .add (.tmp 58) (.const (.int .i64 1))),qm 58 74] false)))
def c11_2 : PC:=.seq (.ops [q 78 (.bin .lss (.tmp 77) (.tmp 76))] false) (.seq (.cond (.tmp 78) (.skip) (.exit 2)) (.seq (.block 3 (.seq (.ops [qm 79 77,qm 11 79] false) (.seq (.seq (.ops [qm 80 5,q 81 (.loadA 3 (.tmp 1)),qm 82 11,q 83 (.call 34 [(.tmp 80),(.tmp 81),(.tmp 82)])] false) (.cond (.tmp 83) (.ops [q 84 (.faddr 0 (.tmp 7)),q 85 (.load1 (.tmp 84)),qm 86 11,q 87 (.bslice 1 1 [(.tmp 86)]),q 88 (.append 1 8 (.tmp 85) (.tmp 87)),q 89 (.faddr 0 (.tmp 7)),qn (.store 1 (.tmp 89) (.tmp 88))] false) (.skip))) (.seq (.ops [q 90 (.faddr 1 (.tmp 7)),qd 91 (.load1 (.tmp 90)) 1,qm 92 8,qm 93 5,qm 94 11,qd 95 (.call 36 [(.tmp 93),(.tmp 94)]) 24,qd 96 (.iaddr 1 (.tmp 92) (.tmp 95)) 60,qd 97 (.load1 (.tmp 96)) 124,qd 98 (.call 35 [(.tmp 97)]) 252,qd 99 (.bslice 1 1 [(.tmp 98)]) 508,qd 100 (.append 1 24 (.tmp 91) (.tmp 99)) 1023,qd 101 (.faddr 1 (.tmp 7)) 2047,qk (.store 1 (.tmp 101) (.tmp 100)) 4095] true) (.seq (.ops [q 102 (.faddr 2 (.tmp 7)),qd 103 (.load1 (.tmp 102)) 1,qm 104 5,qm 105 11,qd 106 (.call 37 [(.tmp 104),(.tmp 105),(.const (.bool true))]) 12,qd 107 (.bslice 1 1 [(.tmp 106)]) 28,qd 108 (.append 1 8 (.tmp 103) (.tmp 107)) 63,qd 109 (.faddr 2 (.tmp 7)) 127,qk (.store 1 (.tmp 109) (.tmp 108)) 255] true) (.ops [q 110 (.faddr 3 (.tmp 7)),qd 111 (.load1 (.tmp 110)) 1,qm 112 5,qm 113 11,qd 114 (.call 37 [(.tmp 112),(.tmp 113),(.const (.bool false))]) 12,qd 115 (.bslice 1 1 [(.tmp 114)]) 28,qd 116 (.append 1 8 (.tmp 111) (.tmp 115)) 63,qd 117 (.faddr 3 (.tmp 7)) 127,qk (.store 1 (.tmp 117) (.tmp 116)) 255] true)))))) (.ops [q 118 (.bin .add (.tmp 77) (.const (.int .i64 1))),qm 77 118] false)))
def c11_4 : PC:=.seq (.ops [q 134 (.bin .lss (.tmp 133) (.tmp 132))] false) (.seq (.cond (.tmp 134) (.skip) (.exit 6)) (.seq (.block 7 (.seq (.ops [qm 135 133,qm 15 135] false) (.seq (.ops [qm 136 5,q 137 (.loadA 3 (.tmp 13)),qm 138 15,q 139 (.call 38 [(.tmp 136),(.tmp 137),(.tmp 138)])] false) (.cond (.tmp 139) (.ops [qm 140 14,qm 141 15,q 142 (.bslice 1 1 [(.tmp 141)]),q 143 (.append 1 8 (.tmp 140) (.tmp 142)),qm 14 143] false) (.skip))))) (.ops [q 144 (.bin .add (.tmp 133) (.const (.int .i64 1))),qm 133 144] false)))
def c11_3 : PC:=.seq (.ops [q 125 (.bin .lss (.tmp 124) (.tmp 123))] false) (.seq (.cond (.tmp 125) (.skip) (.exit 4)) (.seq (.block 5 (.seq (.ops [q 126 (.iaddr 3 (.tmp 122) (.tmp 124)),q 127 (.loadA 3 (.tmp 126)),q 13 (.alloc [(.int .i64 0),(.int .i64 0),(.slice none 0 0)]),qn (.store 3 (.tmp 13) (.tmp 127))] false) (.seq (.seq (.ops [q 128 (.faddr 0 (.tmp 13)),q 129 (.load1 (.tmp 128)),q 130 (.bin .eql (.tmp 129) (.const (.int .i64 7)))] false) (.cond (.tmp 130) (.exit 5) (.skip))) (.seq (.ops [q 14 (.move (.const (.slice none 0 0)))] false) (.seq (.seq (.ops [qm 131 6,q 132 (.bin .shl (.const (.int .i64 1)) (.tmp 131)),q 133 (.move (.const (.int .i64 0)))] false) (.block 6 (.loop c11_4))) (.ops [q 145 (.faddr 4 (.tmp 7)),q 146 (.load1 (.tmp 145)),qm 147 14,q 148 (.bslice 1 1 [(.tmp 147)]),q 149 (.append 1 24 (.tmp 146) (.tmp 148)),q 150 (.faddr 4 (.tmp 7)),qn (.store 1 (.tmp 150) (.tmp 149))] false)))))) (.ops [q 151 (.bin .add (.tmp 124) (.const (.int .i64 1))),qm 124 151] false)))
def c11 : PC:=.seq (.ops [q 1 (.box (.tmp 0)),q 2 (.alloc [(.slice none 0 0),(.slice none 0 0),(.slice none 0 0),(.slice none 0 0),(.slice none 0 0)]),q 3 (.move (.const (.int .i64 0)))] false) (.seq (.ops [q 17 (.loadA 3 (.tmp 1)),q 18 (.call 30 [(.tmp 17)]),qm 16 18,q 19 (.ext 0 (.tmp 16)),q 20 (.ext 1 (.tmp 16)),qn (.store 3 (.tmp 1) (.tmp 19)),qm 4 20] false) (.seq (.seq (.ops [qm 21 4,q 22 (.bin .neq (.tmp 21) (.const (.int .i64 0)))] false) (.cond (.tmp 22) (.seq (.ops [q 23 (.build [(.slice none 0 0),(.slice none 0 0),(.slice none 0 0),(.slice none 0 0),(.slice none 0 0)] []),qm 24 4,qn (.store 5 (.tmp 2) (.tmp 23)),qm 3 24] false) (.ret)) (.skip))) (.seq (.ops [q 25 (.build [(.slice none 0 0),(.slice none 0 0)] []),q 26 (.box (.tmp 25)),qm 5 26] false) (.seq (.stop (.ops [qm 27 5,q 28 (.loadA 3 (.tmp 1)),q 29 (.call 31 [(.tmp 27),(.tmp 28)])] false)) (.seq (.ops [qm 30 5,q 31 (.nilchk (.tmp 30)),q 32 (.faddr 0 (.tmp 31)),q 33 (.load1 (.tmp 32)),q 34 (.call 32 [(.tmp 33)])] false) (.seq (.stop (.ops [qm 35 5,qd 36 (.nilchk (.tmp 35)) 1,qd 37 (.faddr 0 (.tmp 36)) 3,qd 38 (.load1 (.tmp 37)) 7,qd 39 (.len (.tmp 38)) 15,qm 40 5,qd 41 (.nilchk (.tmp 40)) 32,qd 42 (.faddr 1 (.tmp 41)) 96,qd 43 (.load1 (.tmp 42)) 224,qd 44 (.len (.tmp 43)) 480,qd 45 (.bin .add (.tmp 39) (.tmp 44)) 1023,qw 6 45 2047] true)) (.seq (.seq (.ops [qm 46 6,q 47 (.bin .gtr (.tmp 46) (.const (.int .i64 10)))] false) (.cond (.tmp 47) (.seq (.ops [q 48 (.build [(.slice none 0 0),(.slice none 0 0),(.slice none 0 0),(.slice none 0 0),(.slice none 0 0)] []),qn (.store 5 (.tmp 2) (.tmp 48)),q 3 (.move (.const (.int .i64 2)))] false) (.ret)) (.skip))) (.seq (.ops [q 7 (.alloc [(.slice none 0 0),(.slice none 0 0),(.slice none 0 0),(.slice none 0 0),(.slice none 0 0)])] false) (.seq (.ops [qm 49 5,q 50 (.nilchk (.tmp 49)),q 51 (.faddr 1 (.tmp 50)),q 52 (.load1 (.tmp 51)),q 53 (.len (.tmp 52)),q 54 (.bin .shl (.const (.int .i64 1)) (.tmp 53)),q 55 (.mslice 1 24 [(.slice none 0 0)] (.tmp 54) (.tmp 54)),qm 8 55] false) (.seq (.seq (.ops [qm 56 6,q 57 (.bin .shl (.const (.int .i64 1)) (.tmp 56)),q 58 (.move (.const (.int .i64 0)))] false) (.stop (.block 0 (.loop c11_1)))) (.seq (.seq (.ops [qm 75 6,q 76 (.bin .shl (.const (.int .i64 1)) (.tmp 75)),q 77 (.move (.const (.int .i64 0)))] false) (.stop (.block 2 (.loop c11_2)))) (.seq (.seq (.ops [qm 119 5,q 120 (.nilchk (.tmp 119)),q 121 (.faddr 1 (.tmp 120)),q 122 (.load1 (.tmp 121)),q 123 (.len (.tmp 122)),q 124 (.move (.const (.int .i64 0)))] false) (.stop (.block 4 (.loop c11_3)))) (.seq (.ops [q 152 (.loadA 5 (.tmp 7)),qn (.store 5 (.tmp 2) (.tmp 152)),q 3 (.move (.const (.int .i64 0)))] false) (.ret))))))))))))))
theorem c11_ok : FunOK Tryz.prog 11 153 [.agg 2 5,.tmp 3] c11:=⟨⟨Tryz.f11,Tryz.func11,rfl,by kernel_rfl,rfl,by kernel_rfl⟩⟩
theorem ta_Make (t : Tree) (hs : Small t) : PCall Tryz.prog 11 [za7 t] (zlx t):=by
 have hP:=zmP t hs
 have hpm : Pure (zlx t):=by
  unfold zlx ansT
  split
  ·dsimp only; split <;> simp [Pure,zao,zbY]
  ·simp [Pure,zao,zbY]
 refine zag c11_ok (by simp) (by simp [zao,zap]) ?_ hpm
 (apply zac; focus (repeat' constructor))
 ((conv=>whnf);repeat(refine⟨rfl,?_⟩;conv=>whnf))
 (refine .inl ⟨_,hP,?_⟩; ((conv=>whnf);repeat(refine⟨rfl,?_⟩;conv=>whnf)))
 unfold zlx
 (refine zab (fun h0=>?_) (fun h0=>?_) <;> (rw [h0]; ((conv=>whnf);repeat(refine⟨rfl,?_⟩;conv=>whnf))))
 ·have h0 : ¬ (zeF t (zaH t)).2 = 0:=by simpa using h0
  rw [if_neg h0]
  (repeat' (first | exact Deep.refl _ | exact Deep.none _ | exact zaF _ | exact DeepL.nil | exact DeepLL.nil | refine Deep.agg _ _ ?_ | refine Deep.tup _ _ ?_ | refine Deep.own _ _ _ _ _ _ _ _ rfl ?_ | refine Deep.loc _ _ _ _ _ rfl ?_ | refine Deep.ifc _ _ _ ?_ | refine Deep.fn _ _ _ _ _ ?_ ?_ | refine DeepL.cons _ _ _ _ ?_ ?_ | refine DeepLL.cons _ _ _ _ ?_ ?_ | exact zaq _))
 have h0 : (zeF t (zaH t)).2 = 0:=by simpa using h0
 obtain ⟨e1,hc,hc2⟩:=zm9 h0
 rw [if_pos h0,e1]
 have hwl:=((zey _ _).1 hc2).2.2
 have hsz:=((zey _ _).1 hc2).1
 have hwp:=zoh t ((zey _ _).1 hc).2.2
 clear hP hpm h0 e1 hc hc2
 generalize zaH t = f at *
 have hla:=zjw f
 have hlp:=zho f
 have hG:=zn8 f hwl [] [] (by simp; omega) (by simp; omega)
 have hlA:=zcI (zaB f) []
 have hlP:=zbv (zaC f) []
 have hSo:=sort_int (addI [] (zaB f)).length (addI [] (zaB f)) (by simp at *; omega)
 rw [zi1 hwl] at hSo
 have hAn : (zex (zaB f)).length = (addI [] (zaB f)).length:=by rw [← zi1 hwl]; simp
 have hT:=zor hwp
 have hTf:=zgP hwl
 unfold ansT
 dsimp only
 generalize hA0 : addI [] (zaB f) = A0 at *
 generalize hA1 : zex (zaB f) = A at *
 generalize hP1 : addT [] (zaC f) = P at *
 obtain ⟨N5,hN5⟩ : ∃ N5 : List D,N5 = [.sc (.slice none 0 0),.sc (.slice none 0 0),.sc (.slice none 0 0),.sc (.slice none 0 0),.sc (.slice none 0 0)]:=⟨_,rfl⟩
 refine zaA (zal 3 (env':=[(1,.loc 0 0),(2,.loc 1 0),(3,.sc (.int .i64 0)),(5,.loc 2 0)]) (H':=[.row true (drow f),.row true N5,.row true [.sc (.slice none 0 0),.sc (.slice none 0 0)]]) (by simp) rfl (by (repeat' (first | exact trivial | exact rfl | exact DeepM.refl _ | exact DeepML.refl _ | exact DeepMLL.refl _ | refine And.intro ?_ ?_ | (simp [zai,zae,zak,-List.map_take,-List.map_drop]; done)))) ⟨⟨rfl,.refl _,zad _ (zar _)⟩,⟨rfl,by rw [hN5]; exact .refl _,by rw [hN5]; simp [zae,zai]⟩,⟨rfl,.refl _,by simp [zae,zai]⟩,trivial⟩) ?_
 refine zaA (zb1 (zbp 2 0 1 (by simp) rfl rfl) (zbp 2 1 3 (by simp) rfl rfl)) ?_
 (apply zac; focus (repeat' constructor))
 ((conv=>whnf);repeat(refine⟨rfl,?_⟩;conv=>whnf))
 have hG2 : ACall Tryz.prog 31 [.loc 2 0,za7 f] [.row true (drow f),.row true N5,.row true [.own 3 0 0 0,.own 4 0 0 0],.vec true 0 1 [],.vec true 0 3 []] (.tup [])
   [.row true (drow f),.row true N5,.row true [.own 3 A0.length 0 A0.length,.own 4 P.length 0 P.length],.vec true A0.length 1 (i64s A0),.vec true P.length 3 (zaL P)]:=by
  refine zcj hG [.row true (drow f),.row true N5] [] rfl (by simp [za6,zae,zai,zaf _ (zap _)]) (zbH (by simp [za6])) (by simp [renL,D.ren]) (by simp [D.ren,renL]) ?_ ?_
  ·simp [za6,AObj.ren,renL,D.ren,zdo,i64s,zaL]
  ·simp only [za6,List.map_cons,List.map_nil,AObj.ren,renL,D.ren,List.length_cons,List.length_nil,zgK,zh0]
   rfl
 (refine .inr (.inr (.inl ⟨rfl,_,_,hG2,?_⟩)); ((conv=>whnf);repeat(refine⟨rfl,?_⟩;conv=>whnf)))
 have hS2 : ACall Tryz.prog 32 [.own 3 A0.length 0 A0.length] [.row true (drow f),.row true N5,.row true [.own 3 A0.length 0 A0.length,.own 4 P.length 0 P.length],.vec true A0.length 1 (i64s A0),.vec true P.length 3 (zaL P)] (.tup [])
   [.row true (drow f),.row true N5,.row true [.own 3 A0.length 0 A0.length,.own 4 P.length 0 P.length],.vec true A0.length 1 (i64s A),.vec true P.length 3 (zaL P)]:=by
  refine zcj hSo [.row true (drow f),.row true N5,.row true [.own 3 A0.length 0 A0.length,.own 4 P.length 0 P.length]] [.vec true P.length 3 (zaL P)] rfl (by simp [zae,zai]) ⟨zaa _ (zas _ (fun l=>by simp [zao,Pure]) A0),trivial⟩ (by simp [renL,D.ren]) (by simp [D.ren,renL]) ?_ ?_
  ·simp only [List.map_cons,List.map_nil,AObj.ren,zgK]
   rfl
  ·simp only [List.map_cons,List.map_nil,AObj.ren,zgK]
   rfl
 (refine .inr (.inr (.inl ⟨rfl,_,_,hS2,?_⟩)); ((conv=>whnf);repeat(refine⟨rfl,?_⟩;conv=>whnf)))
 have hmd:=zdi A P
 refine zaA (zej (zfH 2) (env':=[(1,.loc 0 0),(2,.loc 1 0),(3,.sc (.int .i64 0)),(5,mdat A P)]) (H':=[.row true (drow f),.row true N5,.row false [zaD A,.lst 3 (zaL P)],.vec false A0.length 1 (i64s A),.vec false P.length 3 (zaL P)]) ?_ ?_) ?_
 ·refine ⟨.refl _,.refl _,.refl _,DeepM.loc _ _ _ _ _ rfl rfl (.cons _ _ _ _ (.own _ _ _ _ _ _ _ _ rfl rfl ?_) (.cons _ _ _ _ (.own _ _ _ _ _ _ _ _ rfl rfl ?_) (.refl _))),trivial⟩
  ·rw [← hAn]; exact zah (zav (by simp [i64s]))
  ·exact zah (zav (by simp))
 ·refine ⟨⟨.inl rfl,(fun h=>by cases h),.refl _⟩,⟨.inl rfl,(fun h=>by cases h),.refl _⟩,⟨.inr ⟨rfl,rfl⟩,fun _=>rfl,.cons _ _ _ _ (.own _ _ _ _ _ _ _ _ rfl rfl ?_) (.cons _ _ _ _ (.own _ _ _ _ _ _ _ _ rfl rfl ?_) (.refl _))⟩,⟨.inr ⟨rfl,rfl⟩,fun _=>rfl,rfl,rfl,.refl _⟩,⟨.inr ⟨rfl,rfl⟩,fun _=>rfl,rfl,rfl,.refl _⟩,trivial⟩
  ·rw [← hAn]; exact zah (zav (by simp [i64s]))
  ·exact zah (zav (by simp))
 have hA60 : A.length≤60:=by simp at hlA; omega
 have hP60 : P.length≤60:=by simp at hlP; omega
 subst hN5
 clear hG hSo hG2 hS2 hlA hlP hA0 hAn
 unfold mdat
 (apply zac; focus (repeat' constructor))
 ((conv=>whnf);repeat(refine⟨rfl,?_⟩;conv=>whnf))
 rw [List.length_map,zbS]
 (refine .inl ⟨by (unfold InR; rw [IntKind.wrap_i64]; omega),?_⟩; ((conv=>whnf);repeat(refine⟨rfl,?_⟩;conv=>whnf)))
 (refine zab (fun h10=>?_) (fun h10=>?_) <;> (rw [h10]; ((conv=>whnf);repeat(refine⟨rfl,?_⟩;conv=>whnf))))
 ·have h10 : 10 < A.length + P.length:=by ((try simp only[oo,reduceCtorEq]at*)<;>omega)
  rw [if_pos h10]
  (repeat' (first | exact Deep.refl _ | exact Deep.none _ | exact zaF _ | exact DeepL.nil | exact DeepLL.nil | refine Deep.agg _ _ ?_ | refine Deep.tup _ _ ?_ | refine Deep.own _ _ _ _ _ _ _ _ rfl ?_ | refine Deep.loc _ _ _ _ _ rfl ?_ | refine Deep.ifc _ _ _ ?_ | refine Deep.fn _ _ _ _ _ ?_ ?_ | refine DeepL.cons _ _ _ _ ?_ ?_ | refine DeepLL.cons _ _ _ _ ?_ ?_ | exact zaq _))
 have h10 : ¬ 10 < A.length + P.length:=by ((try simp only[oo,reduceCtorEq]at*)<;>omega)
 rw [if_neg h10]
 have hI:=hT (by omega)
 have hp2:=zdR (n:=P.length) (by omega)
 have hn2:=zdR (n:=A.length + P.length) (by omega)
 have s1 : (1 : Int) * 2 ^ min ((P.length : Nat) : Int).toNat IntKind.i64.bits = ((2 ^ P.length : Nat) : Int):=zlo P.length (by omega)
 have s2 : (1 : Int) * 2 ^ min ((A.length + P.length : Nat) : Int).toNat IntKind.i64.bits = ((2 ^ (A.length + P.length) : Nat) : Int):=zlo _ (by omega)
 rw [zbS]
 refine ⟨by omega,?_⟩
 rw [s1]
 generalize h2P : 2 ^ P.length = NP at *
 generalize h2N : 2 ^ (A.length + P.length) = N at *
 (refine .inl ⟨by (unfold InR; rw [IntKind.wrap_i64]; omega),?_⟩; ((conv=>whnf);repeat(refine⟨rfl,?_⟩;conv=>whnf)))
 refine ⟨by omega,by omega,by omega,?_⟩
 rw [Int.toNat_natCast]
 ((conv=>whnf);repeat(refine⟨rfl,?_⟩;conv=>whnf))
 rw [← Int.natCast_add]
 simp only [Nat.sub_zero]
 refine ⟨by omega,?_⟩
 rw [s2]
 (refine .inl ⟨by (unfold InR; rw [IntKind.wrap_i64]; omega),?_⟩; ((conv=>whnf);repeat(refine⟨rfl,?_⟩;conv=>whnf)))
 have hK:=ta_kept A P hI
 have hmd2 : D.ipt [zaD A,.lst 3 (zaL P)] = mdat A P:=rfl
 have hbl : ∀ k,(zdz A P k).length = NP:=fun k=>by rw [zo9,h2P]
 refine zfU (fun _ : Unit=>[(1,.loc 0 0),(2,.loc 1 0),(5,mdat A P),(6,.sc (.int .i64 ((A.length + P.length : Nat) : Int))),(7,.loc 5 0),(8,.own 6 0 0 NP)])
  (fun _=>[.row true (drow f),.row true [.sc (.slice none 0 0),.sc (.slice none 0 0),.sc (.slice none 0 0),.sc (.slice none 0 0),.sc (.slice none 0 0)],.row false [zaD A,.lst 3 (zaL P)],.vec false A0.length 1 (i64s A),.vec false P.length 3 (zaL P),.row true [.sc (.slice none 0 0),.sc (.slice none 0 0),.sc (.slice none 0 0),.sc (.slice none 0 0),.sc (.slice none 0 0)],.vec true 0 1 ((zdz A P N).map fun l=>[zaD l])]) (fun _=>True) ?_ ?_
 ·(apply zac; focus (repeat' constructor))
  ((conv=>whnf);repeat(refine⟨rfl,?_⟩;conv=>whnf))
  refine zaA (zjL 6 1 NP 0 (by simp) rfl) ?_
  refine zaz [1,2,5,6,7,8,57] (fun k : Nat=>[(58,.sc (.int .i64 k))]) (fun k=>.row true (drow f) :: .row true [.sc (.slice none 0 0),.sc (.slice none 0 0),.sc (.slice none 0 0),.sc (.slice none 0 0),.sc (.slice none 0 0)] :: .row false [zaD A,.lst 3 (zaL P)] :: .vec false A0.length 1 (i64s A) :: .vec false P.length 3 (zaL P) :: .row true [.sc (.slice none 0 0),.sc (.slice none 0 0),.sc (.slice none 0 0),.sc (.slice none 0 0),.sc (.slice none 0 0)] :: .vec true 0 1 (zcT 7 (zdz A P k)) :: zbI 1 zgE (zdz A P k)) (fun k=>k≤N) (fun k=>N - k) 0 ?_
  ((conv=>whnf);repeat(refine⟨rfl,?_⟩;conv=>whnf))
  refine ⟨by omega,by (repeat' (first | exact trivial | refine And.intro rfl ?_)),?_,?_⟩
  ·rw [zmS,h2P]
   show _ :: _ :: _ :: _ :: _ :: _ :: _ :: _ = _ :: _ :: _ :: _ :: _ :: _ :: _ :: _
   rw [zfG 1 _ zgE]
   exact congrArg (fun x=>_ :: _ :: _ :: _ :: _ :: _ :: AObj.vec true 0 1 x :: _) (zfR (α:=Int) 7 _)
  rintro k hk
  ((conv=>whnf);repeat(refine⟨rfl,?_⟩;conv=>whnf))
  (apply zac; focus (repeat' constructor))
  ((conv=>whnf);repeat(refine⟨rfl,?_⟩;conv=>whnf))
  (refine zab (fun q0=>?_) (fun q0=>?_) <;> (rw [q0]; ((conv=>whnf);repeat(refine⟨rfl,?_⟩;conv=>whnf))))
  ·have q0 : k < N:=by ((try simp only[oo,reduceCtorEq]at*)<;>omega)
   have hkl:=zoe A P k
   have hlen:=hbl k
   have hset:=znR A P k
   have hat:=zhB (A:=A) (P:=P) (k:=k) hkl
   have hrl:=zoU A P k (zga A P k)
   rw [h2P] at hkl
   (refine .inl ⟨_,(hK k),?_⟩; ((conv=>whnf);repeat(refine⟨rfl,?_⟩;conv=>whnf)))
   generalize zga A P k = v at *
   generalize zj0 A P k v = C at *
   generalize hR2 : zdz A P (k + 1) = R2 at *
   generalize zdz A P k = R at *
   (refine ⟨by omega,(by first | omega | (simp; done) | (simp; omega) | (simp only [ll]; omega)),?_⟩; ((conv=>whnf);repeat(refine⟨rfl,?_⟩;conv=>whnf)))
   refine ⟨_,zcz (i:=v) (by omega) (by omega),?_⟩
   ((conv=>whnf);repeat(refine⟨rfl,?_⟩;conv=>whnf))
   refine zlK ?_
   ((conv=>whnf);repeat(refine⟨rfl,?_⟩;conv=>whnf))
   (repeat (first | (refine zce 0 rfl ?_; ((conv=>whnf);repeat(refine⟨rfl,?_⟩;conv=>whnf))) | (refine zcd 0 rfl ?_; ((conv=>whnf);repeat(refine⟨rfl,?_⟩;conv=>whnf))) | (refine zce 1 rfl ?_; ((conv=>whnf);repeat(refine⟨rfl,?_⟩;conv=>whnf))) | (refine zcd 1 rfl ?_; ((conv=>whnf);repeat(refine⟨rfl,?_⟩;conv=>whnf)))))
   refine zjk (by omega) ?_
   ((conv=>whnf);repeat(refine⟨rfl,?_⟩;conv=>whnf))
   rw [hat]
   refine ⟨by unfold zaj; simp only [List.length_drop,List.length_take,List.length_cons,List.length_nil]; omega,?_⟩
   ((conv=>whnf);repeat(refine⟨rfl,?_⟩;conv=>whnf))
   refine zjY (C ++ [(k : Int)]) (by omega) ?_ ?_
   ·exact zms
   ((conv=>whnf);repeat(refine⟨rfl,?_⟩;conv=>whnf))
   (refine ⟨by omega,(by first | omega | (simp; done) | (simp; omega) | (simp only [ll]; omega)),?_⟩; ((conv=>whnf);repeat(refine⟨rfl,?_⟩;conv=>whnf)))
   refine ⟨_,zcz (i:=v) (by omega) (by omega),?_⟩
   ((conv=>whnf);repeat(refine⟨rfl,?_⟩;conv=>whnf))
   (refine .inl ⟨by (unfold InR; rw [IntKind.wrap_i64]; omega),?_⟩; ((conv=>whnf);repeat(refine⟨rfl,?_⟩;conv=>whnf)))
   refine ⟨k + 1,by omega,by dsimp only; omega,?_⟩
   dsimp only
   rw [hR2]
   have hl2 : R2.length = NP:=by rw [← hset,List.length_set,hlen]
   refine zal (NP + 7) (by simp) (by simp [hl2]) (by (repeat' (first | exact trivial | exact rfl | exact DeepM.refl _ | exact DeepML.refl _ | exact DeepMLL.refl _ | refine And.intro ?_ ?_ | (simp [zai,zae,zak,-List.map_take,-List.map_drop]; done)))) ⟨⟨rfl,.refl _,zad _ (zar _)⟩,⟨rfl,.refl _,by simp [zae,zai]⟩,⟨rfl,.refl _,by simp [zae,zaf _ (zam A),zai,zaa _ (zat P)]⟩,⟨rfl,rfl,rfl,.refl _,zaa _ (zas _ (fun l=>by simp [zao,Pure]) A)⟩,⟨rfl,rfl,rfl,.refl _,zaa _ (zat P)⟩,⟨rfl,.refl _,by simp [zae,zai]⟩,⟨rfl,rfl,rfl,zah ?_,zc9 (by rw [← hset,List.length_set]; omega)⟩,by rw [← hset]; exact zgk zid⟩
   rw [← hset]
   exact (zfi (by omega) (by omega) (C ++ [(k : Int)]) (by simp))
  ·have q0 : k = N:=by have : ¬ k < N:=by ((try simp only[oo,reduceCtorEq]at*)<;>omega)
                       omega
   subst q0
   refine ⟨(),trivial,zal 7 (by simp) rfl (by (repeat' (first | exact trivial | exact rfl | exact DeepM.refl _ | exact DeepML.refl _ | exact DeepMLL.refl _ | refine And.intro ?_ ?_ | (simp [zai,zae,zak,-List.map_take,-List.map_drop]; done)))) ⟨⟨rfl,.refl _,zad _ (zar _)⟩,⟨rfl,.refl _,by simp [zae,zai]⟩,⟨rfl,.refl _,by simp [zae,zaf _ (zam A),zai,zaa _ (zat P)]⟩,⟨rfl,rfl,rfl,.refl _,zaa _ (zas _ (fun l=>by simp [zao,Pure]) A)⟩,⟨rfl,rfl,rfl,.refl _,zaa _ (zat P)⟩,⟨rfl,.refl _,by simp [zae,zai]⟩,⟨rfl,rfl,rfl,ze6 (c:=zgE) (fun i hi=>by simp [zfH]) (fun i hi=>?_),zaa _ (zdC _)⟩,zgJ _⟩⟩
   show (zbI 1 zgE (zdz A P k))[i]? = _
   exact zgl hi
 ·intro _ _
  ((conv=>whnf);repeat(refine⟨rfl,?_⟩;conv=>whnf))
  refine ⟨by omega,?_⟩
  rw [s2]
  (refine .inl ⟨by (unfold InR; rw [IntKind.wrap_i64]; omega),?_⟩; ((conv=>whnf);repeat(refine⟨rfl,?_⟩;conv=>whnf)))
  (apply zac; focus (repeat' constructor))
  ((conv=>whnf);repeat(refine⟨rfl,?_⟩;conv=>whnf))
  refine zaA (zb1 (zbp 5 0 1 (by simp) rfl rfl) (zb1 (zbp 5 1 1 (by simp) rfl rfl) (zb1 (zbp 5 2 1 (by simp) rfl rfl) (zbp 5 3 1 (by simp) rfl rfl)))) ?_
  refine zaz [1,2,5,6,7,8,76] (fun k : Nat=>[(77,.sc (.int .i64 k))]) (fun k=>[.row true (drow f),.row true [.sc (.slice none 0 0),.sc (.slice none 0 0),.sc (.slice none 0 0),.sc (.slice none 0 0),.sc (.slice none 0 0)],.row false [zaD A,.lst 3 (zaL P)],.vec false A0.length 1 (i64s A),.vec false P.length 3 (zaL P),.row true [.own 7 (stE A P f k).length 0 (stE A P f k).length,.own 8 k 0 k,.own 9 k 0 k,.own 10 k 0 k,.sc (.slice none 0 0)],.vec true 0 1 ((zdz A P N).map fun l=>[zaD l]),.vec true (stE A P f k).length 1 (i64s (stE A P f k)),.vec true k 1 (zba (tnxE A P k)),.vec true k 1 (u64r (leE A true k)),.vec true k 1 (u64r (leE A false k))]) (fun k=>k≤N) (fun k=>N - k) 0 ?_
  ((conv=>whnf);repeat(refine⟨rfl,?_⟩;conv=>whnf))
  refine ⟨by omega,by (repeat' (first | exact trivial | refine And.intro rfl ?_)),rfl,?_⟩
  rintro k hk
  have hsl:=zoG A P f k
  ((conv=>whnf);repeat(refine⟨rfl,?_⟩;conv=>whnf))
  (apply zac; focus (repeat' constructor))
  ((conv=>whnf);repeat(refine⟨rfl,?_⟩;conv=>whnf))
  (refine zab (fun q0=>?_) (fun q0=>?_) <;> (rw [q0]; ((conv=>whnf);repeat(refine⟨rfl,?_⟩;conv=>whnf))))
  ·have q0 : k < N:=by ((try simp only[oo,reduceCtorEq]at*)<;>omega)
   have hH:=zhz A P hI k f hwp hTf
   have eS:=zmb A P f k
   have hO:=ta_owed A P hA60 k
   have hOl : k / 2 ^ A.length < NP:=by rw [← h2P]; exact znw (by rw [h2N]; exact q0)
   have hrow:=zm0 (A:=A) (P:=P) (s:=k) (by rw [h2N]; exact q0)
   rw [h2N] at hrow
   have eN:=zkE A P k
   rw [← h2P] at hOl
   have eT:=zhm A true k
   have eF:=zhm A false k
   have hbT:=zod A P hA60 hI.atoms k true
   have hbF:=zod A P hA60 hI.atoms k false
   have hnl : (zir A P (A.length + P.length) k).length≤1024:=by have h : (zir A P (A.length + P.length) k).length≤2 ^ (A.length + P.length):=zb0 _ _; rw [h2N] at h; exact Nat.le_trans h hn2
   generalize zir A P (A.length + P.length) k = R at *
   generalize zdk A k true A.length = xT at *
   generalize zdk A k false A.length = xF at *
   generalize k / 2 ^ A.length = v at *
   have hCl:=znb R (by omega)
   (refine .inl ⟨_,hH,?_⟩; ((conv=>whnf);repeat(refine⟨rfl,?_⟩;conv=>whnf)))
   cases r : zaS (chE A P k) f
   ·rw [r,if_neg (by decide)] at eS
    ((conv=>whnf);repeat(refine⟨rfl,?_⟩;conv=>whnf))
    (refine .inl ⟨_,hO,?_⟩; ((conv=>whnf);repeat(refine⟨rfl,?_⟩;conv=>whnf)))
    (refine ⟨by omega,(by first | omega | (simp; done) | (simp; omega) | (simp only [ll]; omega)),?_⟩; ((conv=>whnf);repeat(refine⟨rfl,?_⟩;conv=>whnf)))
    refine ⟨_,zlT (i:=v) (by omega) (by simpa using hOl) hrow,?_⟩
    ((conv=>whnf);repeat(refine⟨rfl,?_⟩;conv=>whnf))
    (refine .inr (.inr (.inr (.inr (.inl ⟨_,_,_,(zio hCl (by simp [zao,Pure,zam]) (d:=.own 11 1 0 R.length) [11] rfl rfl (by simp [AObj.ren,renL,D.ren]; rfl)),?_⟩)))); ((conv=>whnf);repeat(refine⟨rfl,?_⟩;conv=>whnf)))
    refine ⟨(by unfold zaj; simp only [ll]; omega),?_⟩
    ((conv=>whnf);repeat(refine⟨rfl,?_⟩;conv=>whnf))
    (refine .inl ⟨_,hbT,?_⟩; ((conv=>whnf);repeat(refine⟨rfl,?_⟩;conv=>whnf)))
    refine ⟨(by unfold zaj; simp only [ll]; omega),?_⟩
    ((conv=>whnf);repeat(refine⟨rfl,?_⟩;conv=>whnf))
    (refine .inl ⟨_,hbF,?_⟩; ((conv=>whnf);repeat(refine⟨rfl,?_⟩;conv=>whnf)))
    refine ⟨(by unfold zaj; simp only [ll]; omega),?_⟩
    ((conv=>whnf);repeat(refine⟨rfl,?_⟩;conv=>whnf))
    (refine .inl ⟨by (unfold InR; rw [IntKind.wrap_i64]; omega),?_⟩; ((conv=>whnf);repeat(refine⟨rfl,?_⟩;conv=>whnf)))
    refine ⟨k + 1,by omega,by dsimp only; omega,?_⟩
    dsimp only
    rw [eS,eN,eT,eF]
    try rw [show (stE A P f k ++ [(k : Int)]).length = (stE A P f k).length + 1 by simp]
    (refine zal 11 (by simp) rfl ?_ ?_ <;> (repeat' (first | exact trivial | exact rfl | exact DeepM.refl _ | exact DeepML.refl _ | exact DeepMLL.refl _ | refine And.intro ?_ ?_ | (simp [zai,zae,zak,-List.map_take,-List.map_drop]; done))))
    all_goals
     first | exact zad _ (zar _) | exact zaf _ (zam _) | exact zaf _ hmd | exact zaa _ (zdC _) | exact zaa _ (zbi _) | exact zaa _ (zaP _) | exact zaa _ (zas _ (fun l=>by simp [zao,Pure]) _) | exact zah (zbk (by simp)) | exact za9 (by simp) rfl rfl rfl | exact zah (zaR _ _) | skip
   ·rw [r,if_pos rfl] at eS
    ((conv=>whnf);repeat(refine⟨rfl,?_⟩;conv=>whnf))
    refine ⟨(by unfold zaj; simp only [ll]; omega),?_⟩
    ((conv=>whnf);repeat(refine⟨rfl,?_⟩;conv=>whnf))
    (refine .inl ⟨_,hO,?_⟩; ((conv=>whnf);repeat(refine⟨rfl,?_⟩;conv=>whnf)))
    (refine ⟨by omega,(by first | omega | (simp; done) | (simp; omega) | (simp only [ll]; omega)),?_⟩; ((conv=>whnf);repeat(refine⟨rfl,?_⟩;conv=>whnf)))
    refine ⟨_,zlT (i:=v) (by omega) (by simpa using hOl) hrow,?_⟩
    ((conv=>whnf);repeat(refine⟨rfl,?_⟩;conv=>whnf))
    (refine .inr (.inr (.inr (.inr (.inl ⟨_,_,_,(zio hCl (by simp [zao,Pure,zam]) (d:=.own 12 1 0 R.length) [12] rfl rfl (by simp [AObj.ren,renL,D.ren]; rfl)),?_⟩)))); ((conv=>whnf);repeat(refine⟨rfl,?_⟩;conv=>whnf)))
    refine ⟨(by unfold zaj; simp only [ll]; omega),?_⟩
    ((conv=>whnf);repeat(refine⟨rfl,?_⟩;conv=>whnf))
    (refine .inl ⟨_,hbT,?_⟩; ((conv=>whnf);repeat(refine⟨rfl,?_⟩;conv=>whnf)))
    refine ⟨(by unfold zaj; simp only [ll]; omega),?_⟩
    ((conv=>whnf);repeat(refine⟨rfl,?_⟩;conv=>whnf))
    (refine .inl ⟨_,hbF,?_⟩; ((conv=>whnf);repeat(refine⟨rfl,?_⟩;conv=>whnf)))
    refine ⟨(by unfold zaj; simp only [ll]; omega),?_⟩
    ((conv=>whnf);repeat(refine⟨rfl,?_⟩;conv=>whnf))
    (refine .inl ⟨by (unfold InR; rw [IntKind.wrap_i64]; omega),?_⟩; ((conv=>whnf);repeat(refine⟨rfl,?_⟩;conv=>whnf)))
    refine ⟨k + 1,by omega,by dsimp only; omega,?_⟩
    dsimp only
    rw [eS,eN,eT,eF]
    try rw [show (stE A P f k ++ [(k : Int)]).length = (stE A P f k).length + 1 by simp]
    (refine zal 11 (by simp) rfl ?_ ?_ <;> (repeat' (first | exact trivial | exact rfl | exact DeepM.refl _ | exact DeepML.refl _ | exact DeepMLL.refl _ | refine And.intro ?_ ?_ | (simp [zai,zae,zak,-List.map_take,-List.map_drop]; done))))
    all_goals
     first | exact zad _ (zar _) | exact zaf _ (zam _) | exact zaf _ hmd | exact zaa _ (zdC _) | exact zaa _ (zbi _) | exact zaa _ (zaP _) | exact zaa _ (zas _ (fun l=>by simp [zao,Pure]) _) | exact zah (zbk (by simp)) | exact za9 (by simp) rfl rfl rfl | exact zah (zaR _ _) | skip
  ·have q0 : k = N:=by have : ¬ k < N:=by ((try simp only[oo,reduceCtorEq]at*)<;>omega)
                       omega
   obtain rfl : N = k:=q0.symm
   (apply zac; focus (repeat' constructor))
   ((conv=>whnf);repeat(refine⟨rfl,?_⟩;conv=>whnf))
   refine zaA (zbp 5 4 1 (by simp) rfl rfl) ?_
   refine zaz [2,5,6,7,122,123] (fun k : Nat=>[(124,.sc (.int .i64 k))]) (fun k=>[.row true (drow f),.row true [.sc (.slice none 0 0),.sc (.slice none 0 0),.sc (.slice none 0 0),.sc (.slice none 0 0),.sc (.slice none 0 0)],.row false [zaD A,.lst 3 (zaL P)],.vec false A0.length 1 (i64s A),.vec false P.length 3 (zaL P),.row true [.own 7 (stE A P f N).length 0 (stE A P f N).length,.own 8 N 0 N,.own 9 N 0 N,.own 10 N 0 N,.own 11 (zcG A P (A.length + P.length) k).length 0 (zcG A P (A.length + P.length) k).length],.vec true 0 1 ((zdz A P N).map fun l=>[zaD l]),.vec true (stE A P f N).length 1 (i64s (stE A P f N)),.vec true N 1 (zba (tnxE A P N)),.vec true N 1 (u64r (leE A true N)),.vec true N 1 (u64r (leE A false N)),.vec true (zcG A P (A.length + P.length) k).length 1 (zba (zcG A P (A.length + P.length) k))]) (fun k=>k≤P.length) (fun k=>P.length - k) 0 ?_
   ((conv=>whnf);repeat(refine⟨rfl,?_⟩;conv=>whnf))
   rw [zbS]
   refine ⟨by omega,by (repeat' (first | exact trivial | refine And.intro rfl ?_)),rfl,?_⟩
   rintro k hk
   have hfl:=zfk A P (A.length + P.length) k
   ((conv=>whnf);repeat(refine⟨rfl,?_⟩;conv=>whnf))
   (apply zac; focus (repeat' constructor))
   ((conv=>whnf);repeat(refine⟨rfl,?_⟩;conv=>whnf))
   (refine zab (fun q0=>?_) (fun q0=>?_) <;> (rw [q0]; ((conv=>whnf);repeat(refine⟨rfl,?_⟩;conv=>whnf))))
   ·have q0 : k < P.length:=by ((try simp only[oo,reduceCtorEq]at*)<;>omega)
    have hg:=zhU q0
    obtain ⟨hw,hk7⟩:=hI.wf _ hg
    have hTg:=hI.told _ hg
    have eFa:=zij A P (A.length + P.length) q0
    have hsE : setE A P (A.length + P.length) (P.getD k default) = zbC (zb6 A P (P.getD k default)) N:=by unfold setE; rw [h2N]
    refine ⟨by omega,_,zd8 (k:=k) (by omega) q0,?_⟩
    ((conv=>whnf);repeat(refine⟨rfl,?_⟩;conv=>whnf))
    generalize P.getD k default = g at *
    (refine zab (fun g7=>?_) (fun g7=>?_) <;> (rw [g7]; ((conv=>whnf);repeat(refine⟨rfl,?_⟩;conv=>whnf))))
    ·have g7 : g.kind = 7:=by simpa using g7
     rw [if_pos g7] at eFa
     ((conv=>whnf);repeat(refine⟨rfl,?_⟩;conv=>whnf))
     (refine .inl ⟨by (unfold InR; rw [IntKind.wrap_i64]; omega),?_⟩; ((conv=>whnf);repeat(refine⟨rfl,?_⟩;conv=>whnf)))
     refine ⟨k + 1,by omega,by dsimp only; omega,?_⟩
     dsimp only
     rw [eFa]
     (refine zal 12 (by simp) rfl ?_ ?_ <;> (repeat' (first | exact trivial | exact rfl | exact DeepM.refl _ | exact DeepML.refl _ | exact DeepMLL.refl _ | refine And.intro ?_ ?_ | (simp [zai,zae,zak,-List.map_take,-List.map_drop]; done))))
     all_goals
      first | exact zad _ (zar _) | exact zaf _ (zam _) | exact zaf _ hmd | exact zaa _ (zdC _) | exact zaa _ (zbi _) | exact zaa _ (zaP _) | exact zaa _ (zas _ (fun l=>by simp [zao,Pure]) _) | exact zah (zbk (by simp)) | exact za9 (by simp) rfl rfl rfl | exact zah (zaR _ _) | skip
    ·have g7 : ¬ g.kind = 7:=by simpa using g7
     rw [if_neg g7,hsE] at eFa
     have hFa:=fun s=>ta_fair A P hI s g hw hTg (by omega)
     refine ⟨by omega,?_⟩
     rw [s2]
     (refine .inl ⟨by (unfold InR; rw [IntKind.wrap_i64]; omega),?_⟩; ((conv=>whnf);repeat(refine⟨rfl,?_⟩;conv=>whnf)))
     refine zaA (zcu 14 1 (by simp) rfl) ?_
     refine zaz [2,5,6,7,13,122,123,124,132] (fun s : Nat=>[(14,.own 13 (zbC (zb6 A P g) s).length 0 (zbC (zb6 A P g) s).length),(133,.sc (.int .i64 s))]) (fun s=>[.row true (drow f),.row true [.sc (.slice none 0 0),.sc (.slice none 0 0),.sc (.slice none 0 0),.sc (.slice none 0 0),.sc (.slice none 0 0)],.row false [zaD A,.lst 3 (zaL P)],.vec false A0.length 1 (i64s A),.vec false P.length 3 (zaL P),.row true [.own 7 (stE A P f N).length 0 (stE A P f N).length,.own 8 N 0 N,.own 9 N 0 N,.own 10 N 0 N,.own 11 (zcG A P (A.length + P.length) k).length 0 (zcG A P (A.length + P.length) k).length],.vec true 0 1 ((zdz A P N).map fun l=>[zaD l]),.vec true (stE A P f N).length 1 (i64s (stE A P f N)),.vec true N 1 (zba (tnxE A P N)),.vec true N 1 (u64r (leE A true N)),.vec true N 1 (u64r (leE A false N)),.vec true (zcG A P (A.length + P.length) k).length 1 (zba (zcG A P (A.length + P.length) k)),.row true (drow g),.vec true (zbC (zb6 A P g) s).length 1 (i64s (zbC (zb6 A P g) s))]) (fun s=>s≤N) (fun s=>N - s) 0 ?_
     ((conv=>whnf);repeat(refine⟨rfl,?_⟩;conv=>whnf))
     refine ⟨by omega,by (repeat' (first | exact trivial | refine And.intro rfl ?_)),rfl,?_⟩
     rintro s hs
     have hsl2:=zb0 (zb6 A P g) s
     ((conv=>whnf);repeat(refine⟨rfl,?_⟩;conv=>whnf))
     (apply zac; focus (repeat' constructor))
     ((conv=>whnf);repeat(refine⟨rfl,?_⟩;conv=>whnf))
     (refine zab (fun q1=>?_) (fun q1=>?_) <;> (rw [q1]; ((conv=>whnf);repeat(refine⟨rfl,?_⟩;conv=>whnf))))
     ·have q1 : s < N:=by ((try simp only[oo,reduceCtorEq]at*)<;>omega)
      have eG:=zcE (zb6 A P g) s
      (refine .inl ⟨_,(hFa s),?_⟩; ((conv=>whnf);repeat(refine⟨rfl,?_⟩;conv=>whnf)))
      cases r : zb6 A P g s
      ·rw [r,if_neg (by decide)] at eG
       ((conv=>whnf);repeat(refine⟨rfl,?_⟩;conv=>whnf))
       (refine .inl ⟨by (unfold InR; rw [IntKind.wrap_i64]; omega),?_⟩; ((conv=>whnf);repeat(refine⟨rfl,?_⟩;conv=>whnf)))
       refine ⟨s + 1,by omega,by dsimp only; omega,?_⟩
       dsimp only
       rw [eG]
       exact zan (by (repeat' (first | exact trivial | refine And.intro rfl ?_))) rfl
      ·rw [r,if_pos rfl] at eG
       ((conv=>whnf);repeat(refine⟨rfl,?_⟩;conv=>whnf))
       refine ⟨(by unfold zaj; simp only [ll]; omega),?_⟩
       ((conv=>whnf);repeat(refine⟨rfl,?_⟩;conv=>whnf))
       (refine .inl ⟨by (unfold InR; rw [IntKind.wrap_i64]; omega),?_⟩; ((conv=>whnf);repeat(refine⟨rfl,?_⟩;conv=>whnf)))
       refine ⟨s + 1,by omega,by dsimp only; omega,?_⟩
       dsimp only
       rw [eG]
       rw [show (zbC (zb6 A P g) s ++ [(s : Int)]).length = (zbC (zb6 A P g) s).length + 1 by simp]
       (refine zal 14 (by simp) rfl ?_ ?_ <;> (repeat' (first | exact trivial | exact rfl | exact DeepM.refl _ | exact DeepML.refl _ | exact DeepMLL.refl _ | refine And.intro ?_ ?_ | (simp [zai,zae,zak,-List.map_take,-List.map_drop]; done))))
       all_goals
        first | exact zad _ (zar _) | exact zaf _ (zam _) | exact zaf _ hmd | exact zaa _ (zdC _) | exact zaa _ (zbi _) | exact zaa _ (zaP _) | exact zaa _ (zas _ (fun l=>by simp [zao,Pure]) _) | exact zah (zbk (by simp)) | exact za9 (by simp) rfl rfl rfl | exact zah (zaR _ _) | skip
     ·have q1 : s = N:=by have : ¬ s < N:=by ((try simp only[oo,reduceCtorEq]at*)<;>omega)
                          omega
      obtain rfl : N = s:=q1.symm
      refine ⟨(by unfold zaj; simp only [ll]; omega),?_⟩
      ((conv=>whnf);repeat(refine⟨rfl,?_⟩;conv=>whnf))
      (refine .inl ⟨by (unfold InR; rw [IntKind.wrap_i64]; omega),?_⟩; ((conv=>whnf);repeat(refine⟨rfl,?_⟩;conv=>whnf)))
      refine ⟨k + 1,by omega,by dsimp only; omega,?_⟩
      dsimp only
      rw [eFa]
      rw [show (zcG A P (A.length + P.length) k ++ [zbC (zb6 A P g) N]).length = (zcG A P (A.length + P.length) k).length + 1 by simp]
      (refine zal 12 (by simp) rfl ?_ ?_ <;> (repeat' (first | exact trivial | exact rfl | exact DeepM.refl _ | exact DeepML.refl _ | exact DeepMLL.refl _ | refine And.intro ?_ ?_ | (simp [zai,zae,zak,-List.map_take,-List.map_drop]; done))))
      all_goals
       first | exact zad _ (zar _) | exact zaf _ (zam _) | exact zaf _ hmd | exact zaa _ (zdC _) | exact zaa _ (zbi _) | exact zaa _ (zaP _) | exact zaa _ (zas _ (fun l=>by simp [zao,Pure]) _) | exact zah (zbk (by simp)) | exact za9 (by simp) rfl rfl rfl | exact zah (zaR _ _) | skip
   ·have q0 : k = P.length:=by have : ¬ k < P.length:=by ((try simp only[oo,reduceCtorEq]at*)<;>omega)
                               omega
    subst q0
    have hE:=zoW A P f
    rw [h2N] at hE
    rw [hE]
    refine .tup _ _ (.cons _ _ _ _ (.agg _ _ (.cons _ _ _ _ (.own _ _ _ _ _ _ _ _ rfl ?_) (.cons _ _ _ _ (.own _ _ _ _ _ _ _ _ rfl ?_) (.cons _ _ _ _ (.own _ _ _ _ _ _ _ _ rfl ?_) (.cons _ _ _ _ (.own _ _ _ _ _ _ _ _ rfl ?_) (.cons _ _ _ _ (.own _ _ _ _ _ _ _ _ rfl ?_) .nil)))))) (.cons _ _ _ _ (.refl _) .nil))
    ·exact za8 (by simp [i64s])
    ·exact za8 (by simp)
    ·exact za8 (by simp)
    ·exact za8 (by simp)
    ·exact za8 (by simp)
end
section
open Go.RowKit
def c17_1 : PC:=.seq (.seq (.ops [qm 5 4,q 6 (.faddr 2 (.tmp 1)),q 7 (.load1 (.tmp 6)),q 8 (.len (.tmp 7)),q 9 (.bin .lss (.tmp 5) (.tmp 8))] false) (.cond (.tmp 9) (.skip) (.exit 0))) (.seq (.block 1 (.ops [qm 12 3,q 13 (.faddr 2 (.tmp 1)),q 14 (.load1 (.tmp 13)),qm 15 4,q 16 (.iaddr 3 (.tmp 14) (.tmp 15)),q 17 (.loadA 3 (.tmp 16)),q 18 (.call 17 [(.tmp 17)]),q 19 (.bslice 3 1 [(.tmp 18)]),q 20 (.append 3 40 (.tmp 12) (.tmp 19)),qm 3 20] false)) (.ops [qm 10 4,q 11 (.bin .add (.tmp 10) (.const (.int .i64 1))),qm 4 11] false))
def c17 : PC:=.seq (.ops [q 1 (.box (.tmp 0)),q 2 (.alloc [(.int .i64 0),(.int .i64 0),(.slice none 0 0)])] false) (.seq (.ops [q 3 (.move (.const (.slice none 0 0)))] false) (.seq (.seq (.ops [q 4 (.move (.const (.int .i64 0)))] false) (.block 0 (.loop c17_1))) (.seq (.seq (.ops [q 21 (.faddr 0 (.tmp 1)),q 22 (.load1 (.tmp 21)),q 23 (.bin .eql (.tmp 22) (.const (.int .i64 10)))] false) (.cond (.tmp 23) (.seq (.ops [q 24 (.call 50 [(.const (.int .i64 1)),(.const (.int .i64 0))]),qm 25 3,qd 26 (.iaddr 3 (.tmp 25) (.const (.int .i64 0))) 2,qd 27 (.loadA 3 (.tmp 26)) 6,qd 28 (.call 49 [(.const (.int .i64 8)),(.tmp 24),(.tmp 27)]) 15,qk (.store 3 (.tmp 2) (.tmp 28)) 31] true) (.ret)) (.skip))) (.seq (.seq (.ops [q 29 (.faddr 0 (.tmp 1)),q 30 (.load1 (.tmp 29)),q 31 (.bin .eql (.tmp 30) (.const (.int .i64 11)))] false) (.cond (.tmp 31) (.seq (.ops [q 32 (.call 50 [(.const (.int .i64 2)),(.const (.int .i64 0))]),qm 33 3,qd 34 (.iaddr 3 (.tmp 33) (.const (.int .i64 0))) 2,qd 35 (.loadA 3 (.tmp 34)) 6,qd 36 (.call 49 [(.const (.int .i64 9)),(.tmp 32),(.tmp 35)]) 15,qk (.store 3 (.tmp 2) (.tmp 36)) 31] true) (.ret)) (.skip))) (.seq (.ops [q 37 (.faddr 0 (.tmp 1)),q 38 (.load1 (.tmp 37)),q 39 (.faddr 1 (.tmp 1)),q 40 (.load1 (.tmp 39)),qm 41 3,q 42 (.build [(.int .i64 0),(.int .i64 0),(.slice none 0 0)] [(0,1,(.tmp 38)),(1,1,(.tmp 40)),(2,1,(.tmp 41))]),qn (.store 3 (.tmp 2) (.tmp 42))] false) (.ret))))))
theorem c17_ok : FunOK Tryz.prog 17 43 [.agg 2 3] c17:=⟨⟨Tryz.f17,Tryz.func17,rfl,by kernel_rfl,rfl,by kernel_rfl⟩⟩
theorem zpm (k n : Int) : PCall Tryz.prog 50 [.sc (.int .i64 k),.sc (.int .i64 n)] (.agg [.sc (.int .i64 k),.sc (.int .i64 n),.sc (.slice none 0 0)]):=by
 refine zag c50_ok (by simp) (by simp [zao,Pure]) ?_ (by simp [Pure,zao])
 (apply zac; focus (repeat' constructor))
 ((conv=>whnf);repeat(refine⟨rfl,?_⟩;conv=>whnf))
 (repeat' (first | exact Deep.refl _ | exact Deep.none _ | exact zaF _ | exact DeepL.nil | exact DeepLL.nil | refine Deep.agg _ _ ?_ | refine Deep.tup _ _ ?_ | refine Deep.own _ _ _ _ _ _ _ _ rfl ?_ | refine Deep.loc _ _ _ _ _ rfl ?_ | refine Deep.ifc _ _ _ ?_ | refine Deep.fn _ _ _ _ _ ?_ ?_ | refine DeepL.cons _ _ _ _ ?_ ?_ | refine DeepLL.cons _ _ _ _ ?_ ?_ | exact zaq _))
theorem zpj {H : List AObj} {id m : Nat} {k n : Int} {ks : List Tree} {f : Tree→Tree} {t : Tree} (ht : t = .node k n (ks.map f)) (ho : H[id]? = some (.vec true m 3 ((ks.take m).map fun u=>drow (f u)))) (hm : m = ks.length) :
  Deep H (.agg [.sc (.int .i64 k),.sc (.int .i64 n),.own id m 0 m]) (za7 t):=by
 subst ht hm
 refine .agg _ _ (.cons _ _ _ _ (.refl _) (.cons _ _ _ _ (.refl _) (.cons _ _ _ _ (.own id _ _ _ _ _ _ _ ho ?_) .nil)))
 rw [List.drop_zero,List.take_of_length_le (by simp),List.take_length,Tree.kids,List.map_map]
 exact (List.map_congr_left (fun u _=>(zcV (f u)).symm : ∀ u∈ks,drow (f u) = (zbo ∘ f) u)) ▸ zaq _
theorem zhL : ∀ t : Tree,t.wf zaE→PCall Tryz.prog 17 [za7 t] (za7 (zaH t)):=by
 intro t
 induction t using Tree.ind with
 | h t ih =>
  intro hwf
  have hs:=zd9 t hwf
  have hsz:=hs.width
  have har:=zcp ((zcO _ _).1 hwf).1
  have hE:=zgt t fun h=>zcD hwf (by omega)
  refine zag c17_ok (by simp) (by simp [zao,zap]) ?_ (zap _)
  (apply zac; focus (repeat' constructor))
  ((conv=>whnf);repeat(refine⟨rfl,?_⟩;conv=>whnf))
  refine zeo (fun k : Nat=>[(1,.loc 0 0),(2,.loc 1 0),(3,.own 2 k 0 k),(4,.sc (.int .i64 k))])
   (fun k=>[.row true (drow t),.row true [.sc (.int .i64 0),.sc (.int .i64 0),.sc (.slice none 0 0)],.vec true k 3 ((t.kids.take k).map fun u=>drow (zaH u))])
   (fun k=>k≤t.width) (fun k=>t.width - k) 0 (by omega) (zb1 (zcu 3 3 (by simp) rfl) (zf0 ⟨rfl,rfl,rfl,rfl,trivial⟩)) ?_
  rintro k hk
  (apply zac; focus (repeat' constructor))
  ((conv=>whnf);repeat(refine⟨rfl,?_⟩;conv=>whnf))
  (refine zab (fun h1=>?_) (fun h1=>?_) <;> (rw [h1]; ((conv=>whnf);repeat(refine⟨rfl,?_⟩;conv=>whnf))))
  ·have hk' : k < t.width:=by simpa [Tree.width] using h1
   refine ⟨by omega,_,zaZ hk',?_⟩
   ((conv=>whnf);repeat(refine⟨rfl,?_⟩;conv=>whnf))
   (refine .inl ⟨_,(ih k hk' (zbB hwf hk')),?_⟩; ((conv=>whnf);repeat(refine⟨rfl,?_⟩;conv=>whnf)))
   refine ⟨by unfold zaj; simp only [List.drop_zero,List.take_succ_cons,List.take_zero,List.length_cons,List.length_nil]; omega,?_⟩
   ((conv=>whnf);repeat(refine⟨rfl,?_⟩;conv=>whnf))
   refine .inl ⟨by unfold InR; rw [IntKind.wrap_i64]; unfold Tree.width at *; omega,?_⟩
   ((conv=>whnf);repeat(refine⟨rfl,?_⟩;conv=>whnf))
   refine ⟨k + 1,by omega,by dsimp only; omega,zal 3 (by simp) rfl ⟨.refl _,by simp [zai],.refl _,by simp [zai],.refl _,by simp [zai],.refl _,by simp [zai],trivial⟩
    ⟨⟨rfl,.refl _,zad _ (zar t)⟩,⟨rfl,.refl _,by simp [zae,zai]⟩,⟨rfl,rfl,rfl,zah (zkJ _ (kid_get? hk')),zaa _ (zas _ (fun u=>zar _) _)⟩,trivial⟩⟩
  ·have hk' : k = t.width:=by have : ¬ k < t.width:=by simpa [Tree.width] using h1
                              omega
   subst hk'
   (refine zab (fun h10=>?_) (fun h10=>?_) <;> (rw [h10]; ((conv=>whnf);repeat(refine⟨rfl,?_⟩;conv=>whnf))))
   ·have h10 : t.kind = 10:=by simpa using h10
    have h0:=zcD hwf (show t.kind = 4∨t.kind = 7∨t.kind = 10∨t.kind = 11 by omega)
    rw [if_pos h10] at hE
    (refine .inl ⟨_,(zmj 1 0),?_⟩; ((conv=>whnf);repeat(refine⟨rfl,?_⟩;conv=>whnf)))
    refine ⟨by omega,by omega,?_⟩; ((conv=>whnf);repeat(refine⟨rfl,?_⟩;conv=>whnf))
    refine ⟨_,zoi _ h0,?_⟩; ((conv=>whnf);repeat(refine⟨rfl,?_⟩;conv=>whnf))
    (refine .inl ⟨_,(zoB 8 (mk0 1 0) (zaH (t.kid 0))),?_⟩; ((conv=>whnf);repeat(refine⟨rfl,?_⟩;conv=>whnf)))
    exact zhV hE (.refl _)
   have h10 : ¬ t.kind = 10:=by simpa using h10
   rw [if_neg h10] at hE
   (refine zab (fun h11=>?_) (fun h11=>?_) <;> (rw [h11]; ((conv=>whnf);repeat(refine⟨rfl,?_⟩;conv=>whnf))))
   ·have h11 : t.kind = 11:=by simpa using h11
    have h0:=zcD hwf (show t.kind = 4∨t.kind = 7∨t.kind = 10∨t.kind = 11 by omega)
    rw [if_pos h11] at hE
    (refine .inl ⟨_,(zmj 2 0),?_⟩; ((conv=>whnf);repeat(refine⟨rfl,?_⟩;conv=>whnf)))
    refine ⟨by omega,by omega,?_⟩; ((conv=>whnf);repeat(refine⟨rfl,?_⟩;conv=>whnf))
    refine ⟨_,zoi _ h0,?_⟩; ((conv=>whnf);repeat(refine⟨rfl,?_⟩;conv=>whnf))
    (refine .inl ⟨_,(zoB 9 (mk0 2 0) (zaH (t.kid 0))),?_⟩; ((conv=>whnf);repeat(refine⟨rfl,?_⟩;conv=>whnf)))
    exact zhV hE (.refl _)
   have h11 : ¬ t.kind = 11:=by simpa using h11
   rw [if_neg h11] at hE
   exact zpj (id:=2) hE rfl rfl
end
section
open Go.RowKit
def zdX (n : Int) : Tree:=mk0 3 n
def zaO (A : List Int) : List Tree:=A.map zdX
@[simp] theorem zix (A : List Int) : (zaO A).length = A.length:=List.length_map ..
noncomputable def elE (f : Tree) : List Tree:=zaO (zex (zaB f)) ++ addT [] (zaC f)
theorem zo0 {t : Tree} (hw : t.wf zaE) (h3 : t.kind = 3) : t = zdX t.num:=by
 have har:=zcp ((zcO _ _).1 hw).1
 have h0 : t.width = 0:=by omega
 cases t with
 | node k n ks =>
  have : ks = []:=List.length_eq_zero_iff.1 h0
  subst this
  have h3 : k = 3:=h3
  subst h3
  rfl
def zaI (Q : List Tree) (P : List Tree) : List AObj:=[.row true [.own 3 Q.length 0 Q.length],.row true [.own 4 P.length 0 P.length],.row true [.fn (.func 82) [] [.loc 0 0,.loc 1 0,.loc 2 0]],.vec true Q.length 3 (zaL Q),.vec true P.length 3 (zaL P)]
theorem zbR {Q : List Tree} {P : List Tree} {m : Nat} (hm : 5≤m) : ∀ o∈zaI Q P,o.under m:=by
 intro o ho
 simp only [zaI,List.mem_cons,List.not_mem_nil,or_false] at ho
 rcases ho with rfl | rfl | rfl | rfl | rfl <;> simp [AObj.under,zae,zai] <;> omega
theorem zbF {Q : List Tree} {P : List Tree} {m : Nat} (hm : 5≤m) : zbg m (zaI Q P):=by
 have:=zbR (Q:=Q) (P:=P) hm
 unfold zaI at *
 exact ⟨this _ (by simp),this _ (by simp),this _ (by simp),this _ (by simp),this _ (by simp),trivial⟩
theorem zi5 {S : Nat→Bool} {H : List AObj} (l : List Tree) (n : Int) : DeepMLL S H (List.drop 0 (List.take l.length (zaL l)) ++ List.drop 0 (List.take 1 [[D.sc (.int .i64 3),D.sc (.int .i64 n),D.sc (.slice none 0 0)]])) (zaL (l ++ [zdX n])):=by
 rw [zav (by simp),show zaL (l ++ [zdX n]) = zaL l ++ [[D.sc (.int .i64 3),D.sc (.int .i64 n),D.lst 3 []]] by simp [zaL,zdX,mk0,drow]; exact ⟨rfl,rfl,rfl⟩]
 exact ze7 (.cons _ _ _ _ (.refl _) (.cons _ _ _ _ (.refl _) (.cons _ _ _ _ (.none _) (.refl _)))) _
def c84 : PC:=.seq (.ops [q 2 (.box (.tmp 0)),q 3 (.move (.const (.bool false)))] false) (.seq (.ops [q 4 (.loadA 3 (.tmp 1)),q 5 (.loadA 3 (.tmp 2)),q 6 (.call 55 [(.tmp 4),(.tmp 5)]),qm 3 6] false) (.ret))
theorem c84_ok : FunOK Tryz.prog 84 7 [.tmp 3] c84:=⟨⟨Tryz.f84,Tryz.func84,rfl,by kernel_rfl,rfl,by kernel_rfl⟩⟩
def c85 : PC:=.seq (.ops [q 2 (.box (.tmp 0)),q 3 (.move (.const (.bool false)))] false) (.seq (.ops [q 4 (.faddr 1 (.tmp 2)),q 5 (.load1 (.tmp 4)),q 6 (.load1 (.tmp 1)),q 7 (.bin .eql (.tmp 5) (.tmp 6)),qm 3 7] false) (.ret))
theorem c85_ok : FunOK Tryz.prog 85 8 [.tmp 3] c85:=⟨⟨Tryz.f85,Tryz.func85,rfl,by kernel_rfl,rfl,by kernel_rfl⟩⟩
def c82_1 : PC:=.seq (.seq (.ops [qm 30 5,q 31 (.faddr 2 (.tmp 4)),q 32 (.load1 (.tmp 31)),q 33 (.len (.tmp 32)),q 34 (.bin .lss (.tmp 30) (.tmp 33))] false) (.cond (.tmp 34) (.skip) (.exit 1))) (.seq (.block 2 (.ops [q 37 (.load1 (.tmp 3)),q 38 (.faddr 2 (.tmp 4)),qd 39 (.load1 (.tmp 38)) 2,qm 40 5,qd 41 (.iaddr 3 (.tmp 39) (.tmp 40)) 14,qd 42 (.loadA 3 (.tmp 41)) 30,qd 43 (.callv (.tmp 37) [(.tmp 42)]) 63] true)) (.ops [qm 35 5,q 36 (.bin .add (.tmp 35) (.const (.int .i64 1))),qm 5 36] false))
def c82 : PC:=.seq (.ops [q 4 (.box (.tmp 0))] false) (.seq (.seq (.ops [q 6 (.faddr 0 (.tmp 4)),q 7 (.load1 (.tmp 6))] false) (.block 0 (.seq (.ops [q 9 (.bin .eql (.tmp 7) (.const (.int .i64 3))),qm 8 9] false) (.cond (.tmp 8) (.ops [q 10 (.load1 (.tmp 1)),q 11 (.loadA 3 (.tmp 4)),qd 12 (.len (.tmp 10)) 1,q 13 (.bslice 3 1 [(.const (.agg #[.int .i64 0,.int .i64 0,.slice none 0 0]))]),qd 14 (.append 3 40 (.tmp 10) (.tmp 13)) 15,qd 15 (.iaddr 3 (.tmp 14) (.tmp 12)) 31,qk (.store 3 (.tmp 15) (.tmp 11)) 63,qk (.store 1 (.tmp 1) (.tmp 14)) 31] true) (.seq (.seq (.ops [q 17 (.bin .eql (.tmp 7) (.const (.int .i64 7))),qm 16 17] false) (.cond (.tmp 16) (.skip) (.seq (.ops [q 18 (.bin .eql (.tmp 7) (.const (.int .i64 8))),qm 16 18] false) (.cond (.tmp 16) (.skip) (.ops [q 19 (.bin .eql (.tmp 7) (.const (.int .i64 9))),qm 16 19] false))))) (.cond (.tmp 16) (.seq (.ops [q 20 (.load1 (.tmp 2)),q 21 (.mkfn (.func 84) [] [(.tmp 4)]),q 22 (.call 83 [(.tmp 20),(.tmp 21)]),q 23 (.un .not (.tmp 22))] false) (.cond (.tmp 23) (.ops [q 24 (.load1 (.tmp 2)),q 25 (.loadA 3 (.tmp 4)),qd 26 (.len (.tmp 24)) 1,q 27 (.bslice 3 1 [(.const (.agg #[.int .i64 0,.int .i64 0,.slice none 0 0]))]),qd 28 (.append 3 40 (.tmp 24) (.tmp 27)) 15,qd 29 (.iaddr 3 (.tmp 28) (.tmp 26)) 31,qk (.store 3 (.tmp 29) (.tmp 25)) 63,qk (.store 1 (.tmp 2) (.tmp 28)) 31] true) (.skip))) (.skip))))))) (.seq (.ops [q 5 (.move (.const (.int .i64 0)))] false) (.block 1 (.loop c82_1))))
theorem c82_ok : FunOK Tryz.prog 82 44 [] c82:=⟨⟨Tryz.f82,Tryz.func82,rfl,by kernel_rfl,rfl,by kernel_rfl⟩⟩
theorem zln (f : Tree) (hf : Small f) (g : Tree) : PCall Tryz.prog 84 [za7 g,.ipt (drow f)] (.sc (.bool (eqT f g))):=by
 refine zag c84_ok (by simp) (by simp [zao,Pure,zap,zar]) ?_ (by simp [Pure])
 (apply zac; focus (repeat' constructor))
 ((conv=>whnf);repeat(refine⟨rfl,?_⟩;conv=>whnf))
 (refine .inl ⟨_,(zh3 f g hf),?_⟩; ((conv=>whnf);repeat(refine⟨rfl,?_⟩;conv=>whnf)))
 exact .refl _
theorem el_num (g : Tree) (n : Int) : PCall Tryz.prog 85 [za7 g,.ipt [.sc (.int .i64 n)]] (.sc (.bool (g.num == n))):=by
 refine zag c85_ok (by simp) (by simp [zao,Pure,zap]) ?_ (by simp [Pure])
 (apply zac; focus (repeat' constructor))
 ((conv=>whnf);repeat(refine⟨rfl,?_⟩;conv=>whnf))
 exact .refl _
def LookI (t : Tree) : Prop:=∀ (Q P : List Tree),Q.length + (zaB t).length≤1000→P.length + (zaC t).length≤1000 →
  ACall Tryz.prog 82 [za7 t,.loc 0 0,.loc 1 0,.loc 2 0] (zaI Q P) (.tup []) (zaI (Q ++ zaO (zaB t)) (addT P (zaC t)))
theorem zcr (A B : List Int) : zaO A ++ zaO B = zaO (A ++ B):=by simp [zaO]
theorem el_look : ∀ t : Tree,t.wf zaE→LookI t:=by
 intro t
 induction t using Tree.ind with
 | h t ih =>
  intro hwf Q P hA hP
  have hs:=zd9 t hwf
  have hsz:=hs.width
  have har:=zcp ((zcO _ _).1 hwf).1
  refine zcm c82_ok (by simp) (by simp [zaI]) ?_ trivial
  have eA:=zfo t
  have eP:=zfr t
  unfold zaI
  (apply zac; focus (repeat' constructor))
  ((conv=>whnf);repeat(refine⟨rfl,?_⟩;conv=>whnf))
  (refine zab (fun k3=>?_) (fun k3=>?_) <;> (rw [k3]; ((conv=>whnf);repeat(refine⟨rfl,?_⟩;conv=>whnf))))
  ·have k3 : t.kind = 3:=by simpa using k3
   rw [if_pos k3] at eA
   rw [if_neg (by omega)] at eP
   rw [eA,List.length_append,List.length_singleton] at hA
   refine ⟨(by unfold zaj; simp only [ll]; omega),?_⟩
   ((conv=>whnf);repeat(refine⟨rfl,?_⟩;conv=>whnf))
   (refine ⟨by omega,(by first | omega | (simp; done) | (simp; omega) | (simp only [ll]; omega)),?_⟩; ((conv=>whnf);repeat(refine⟨rfl,?_⟩;conv=>whnf)))
   refine ⟨_,zeK Q _,?_⟩
   ((conv=>whnf);repeat(refine⟨rfl,?_⟩;conv=>whnf))
   refine zaA (zal 7 (env':=[(3,.loc 2 0),(4,.loc 5 0),(5,.sc (.int .i64 0))]) (H':=[.row true [.own 3 (Q.length + 1) 0 (Q.length + 1)],.row true [.own 4 P.length 0 P.length],.row true [.fn (.func 82) [] [.loc 0 0,.loc 1 0,.loc 2 0]],.vec true (Q.length + 1) 3 (zaL (Q ++ [t])),.vec true P.length 3 (zaL P),.row true (drow t),.vec true 0 3 [[.sc (.int .i64 0),.sc (.int .i64 0),.sc (.slice none 0 0)]]]) (by simp) rfl ?_ ?_) ?_
   ·(repeat' (first | exact trivial | exact rfl | exact DeepM.refl _ | exact DeepML.refl _ | exact DeepMLL.refl _ | refine And.intro ?_ ?_ | (simp [zai,zae,zak,-List.map_take,-List.map_drop]; done)))
   ·(repeat' (first | exact trivial | exact rfl | exact DeepM.refl _ | exact DeepML.refl _ | exact DeepMLL.refl _ | refine And.intro ?_ ?_ | (simp [zai,zae,zak,-List.map_take,-List.map_drop]; done)))
    all_goals first | exact zad _ (zar _) | exact zah (zdM Q t _) | skip
   rw [show Q.length + 1 = (Q ++ [t]).length by simp,show Q ++ [t] = Q ++ zaO [t.num] by rw [show zaO [t.num] = [zdX t.num] from rfl,← zo0 hwf k3]]
   have lA : Q.length + 1 + (zax t.kids).length≤1000:=by omega
   have lP : P.length + (zau t.kids).length≤1000:=by rw [eP,List.nil_append] at hP; exact hP
   rw [eA,eP,← zcr,List.nil_append,← List.append_assoc]
   have lQ1 : (Q ++ zaO [t.num]).length≤Q.length + 1:=by simp
   generalize Q ++ zaO [t.num] = Q1 at *
   refine zaz [3,4] (fun k : Nat=>[(5,.sc (.int .i64 k))]) (fun k=>zaI (Q1 ++ zaO (zax (t.kids.take k))) (addT P (zau (t.kids.take k))) ++ [.row true (drow t),.vec true 0 3 [[.sc (.int .i64 0),.sc (.int .i64 0),.sc (.slice none 0 0)]]]) (fun k=>k≤t.width) (fun k=>t.width - k) 0 ?_
   ((conv=>whnf);repeat(refine⟨rfl,?_⟩;conv=>whnf))
   refine ⟨by omega,by (repeat' (first | exact trivial | refine And.intro rfl ?_)),by simp [zaI,zaO,zax,zau,addT],?_⟩
   rintro k hk
   have lpk:=zbv (zau (t.kids.take k)) P
   unfold zaI
   ((conv=>whnf);repeat(refine⟨rfl,?_⟩;conv=>whnf))
   (apply zac; focus (repeat' constructor))
   ((conv=>whnf);repeat(refine⟨rfl,?_⟩;conv=>whnf))
   (refine zab (fun q0=>?_) (fun q0=>?_) <;> (rw [q0]; ((conv=>whnf);repeat(refine⟨rfl,?_⟩;conv=>whnf))))
   ·have q0 : k < t.width:=by simpa [Tree.width] using q0
    refine ⟨by omega,_,zaZ q0,?_⟩
    ((conv=>whnf);repeat(refine⟨rfl,?_⟩;conv=>whnf))
    have eA2:=zaX q0
    have eP2:=zaY q0
    have tA : (zax (t.kids.take k)).length + (zaB (t.kid k)).length≤(zax t.kids).length:=za1 q0
    have tP : (zau (t.kids.take k)).length + (zaC (t.kid k)).length≤(zau t.kids).length:=za0 q0
    have hG:=zbh (ih k q0 (zbB hwf q0) (Q1 ++ zaO (zax (t.kids.take k))) (addT P (zau (t.kids.take k))) (by simp; omega) (by omega)) [.row true (drow t),.vec true 0 3 [[.sc (.int .i64 0),.sc (.int .i64 0),.sc (.slice none 0 0)]]] (by simp [zaI]) (by simp [zaI,zae,zai,zaf _ (zap _)]) (zbF (by simp [zaI]))
    rw [List.append_assoc,zcr,← zaV,← eA2,← eP2] at hG
    unfold zaI at hG
    (refine .inr (.inr (.inr (.inl ⟨_,_,by simp [zae,zak,zbg,AObj.under,zai],by simp [zae,zak,zbg,AObj.under,zai],hG,?_⟩))); ((conv=>whnf);repeat(refine⟨rfl,?_⟩;conv=>whnf)))
    (refine .inl ⟨by (unfold InR; rw [IntKind.wrap_i64]; omega),?_⟩; ((conv=>whnf);repeat(refine⟨rfl,?_⟩;conv=>whnf)))
    refine ⟨k + 1,by omega,by dsimp only; omega,?_⟩
    dsimp only
    (refine zal 7 (by simp) rfl ?_ ?_ <;> (repeat' (first | exact trivial | exact rfl | exact DeepM.refl _ | exact DeepML.refl _ | exact DeepMLL.refl _ | refine And.intro ?_ ?_ | (simp [zai,zae,zak,-List.map_take,-List.map_drop]; done))))
    all_goals first | exact zad _ (zar _) | exact zaa _ (za3 t) | exact zaa _ (zat _) | skip
   ·have q0 : k = t.width:=by have : ¬ k < t.width:=by simpa [Tree.width] using q0
                              omega
    subst q0
    rw [show t.kids.take t.width = t.kids from List.take_length]
    exact ⟨.refl _,zaK _ _ (zbR (Nat.le_refl _))⟩
  have k3 : ¬ t.kind = 3:=by simpa using k3
  rw [if_neg k3,List.nil_append] at eA
  rw [eA] at hA
  have lA : Q.length + (zax t.kids).length≤1000:=hA
  have lQ1 : Q.length≤Q.length:=Nat.le_refl _
  (refine zab (fun k7=>?_) (fun k7=>?_) <;> (rw [k7]; ((conv=>whnf);repeat(refine⟨rfl,?_⟩;conv=>whnf))))
  ·have k7 : t.kind = 7∨t.kind = 8∨t.kind = 9:=.inl (by simpa using k7)
   rw [if_pos k7] at eP
   rw [eP,List.length_append,List.length_singleton] at hP
   (refine .inr (.inl ⟨_,_,(by (repeat' (first | exact Deep.refl _ | exact za8 (by first | (simp; done) | (simp [i64s]; done)) | exact Deep.none _ | exact zaF _ | exact DeepL.nil | exact DeepLL.nil | refine Deep.agg _ _ ?_ | refine Deep.tup _ _ ?_ | refine Deep.own _ _ _ _ _ _ _ _ rfl ?_ | refine Deep.loc _ _ _ _ _ rfl ?_ | refine Deep.ifc _ _ _ ?_ | refine Deep.fn _ _ _ _ _ ?_ ?_ | refine DeepL.cons _ _ _ _ ?_ ?_ | refine DeepLL.cons _ _ _ _ ?_ ?_ | exact zaq _))),(zdu P (by omega) (eqT t) 84 [.ipt (drow t)] (by simp [zao,Pure,zar]) fun a _=>zln t hs a),rfl,?_⟩); ((conv=>whnf);repeat(refine⟨rfl,?_⟩;conv=>whnf)))
   cases r : P.any (eqT t)
   ·have hP1 : addT P [t] = P ++ [t]:=by rw [zcf,if_neg (by rw [r]; decide)]
    ((conv=>whnf);repeat(refine⟨rfl,?_⟩;conv=>whnf))
    refine ⟨(by unfold zaj; simp only [ll]; omega),?_⟩
    ((conv=>whnf);repeat(refine⟨rfl,?_⟩;conv=>whnf))
    (refine ⟨by omega,(by first | omega | (simp; done) | (simp; omega) | (simp only [ll]; omega)),?_⟩; ((conv=>whnf);repeat(refine⟨rfl,?_⟩;conv=>whnf)))
    refine ⟨_,zeK P _,?_⟩
    ((conv=>whnf);repeat(refine⟨rfl,?_⟩;conv=>whnf))
    refine zaA (zal 7 (env':=[(3,.loc 2 0),(4,.loc 5 0),(5,.sc (.int .i64 0))]) (H':=[.row true [.own 3 Q.length 0 Q.length],.row true [.own 4 (P.length + 1) 0 (P.length + 1)],.row true [.fn (.func 82) [] [.loc 0 0,.loc 1 0,.loc 2 0]],.vec true Q.length 3 (zaL Q),.vec true (P.length + 1) 3 (zaL (P ++ [t])),.row true (drow t),.vec true 0 3 [[.sc (.int .i64 0),.sc (.int .i64 0),.sc (.slice none 0 0)]]]) (by simp) rfl ?_ ?_) ?_
    ·(repeat' (first | exact trivial | exact rfl | exact DeepM.refl _ | exact DeepML.refl _ | exact DeepMLL.refl _ | refine And.intro ?_ ?_ | (simp [zai,zae,zak,-List.map_take,-List.map_drop]; done)))
    ·(repeat' (first | exact trivial | exact rfl | exact DeepM.refl _ | exact DeepML.refl _ | exact DeepMLL.refl _ | refine And.intro ?_ ?_ | (simp [zai,zae,zak,-List.map_take,-List.map_drop]; done)))
     all_goals first | exact zad _ (zar _) | exact zah (zdM P t _) | skip
    rw [show P.length + 1 = (P ++ [t]).length by simp,← hP1]
    have lP : P.length + 1 + (zau t.kids).length≤1000:=by omega
    have lP1 : (addT P [t]).length≤P.length + 1:=by rw [hP1]; simp
    rw [eA,eP,zaV]
    generalize addT P [t] = P1 at *
    refine zaz [3,4] (fun k : Nat=>[(5,.sc (.int .i64 k))]) (fun k=>zaI (Q ++ zaO (zax (t.kids.take k))) (addT P1 (zau (t.kids.take k))) ++ [.row true (drow t),.vec true 0 3 [[.sc (.int .i64 0),.sc (.int .i64 0),.sc (.slice none 0 0)]]]) (fun k=>k≤t.width) (fun k=>t.width - k) 0 ?_
    ((conv=>whnf);repeat(refine⟨rfl,?_⟩;conv=>whnf))
    refine ⟨by omega,by (repeat' (first | exact trivial | refine And.intro rfl ?_)),by simp [zaI,zaO,zax,zau,addT],?_⟩
    rintro k hk
    have lpk:=zbv (zau (t.kids.take k)) P1
    unfold zaI
    ((conv=>whnf);repeat(refine⟨rfl,?_⟩;conv=>whnf))
    (apply zac; focus (repeat' constructor))
    ((conv=>whnf);repeat(refine⟨rfl,?_⟩;conv=>whnf))
    (refine zab (fun q0=>?_) (fun q0=>?_) <;> (rw [q0]; ((conv=>whnf);repeat(refine⟨rfl,?_⟩;conv=>whnf))))
    ·have q0 : k < t.width:=by simpa [Tree.width] using q0
     refine ⟨by omega,_,zaZ q0,?_⟩
     ((conv=>whnf);repeat(refine⟨rfl,?_⟩;conv=>whnf))
     have eA2:=zaX q0
     have eP2:=zaY q0
     have tA : (zax (t.kids.take k)).length + (zaB (t.kid k)).length≤(zax t.kids).length:=za1 q0
     have tP : (zau (t.kids.take k)).length + (zaC (t.kid k)).length≤(zau t.kids).length:=za0 q0
     have hG:=zbh (ih k q0 (zbB hwf q0) (Q ++ zaO (zax (t.kids.take k))) (addT P1 (zau (t.kids.take k))) (by simp; omega) (by omega)) [.row true (drow t),.vec true 0 3 [[.sc (.int .i64 0),.sc (.int .i64 0),.sc (.slice none 0 0)]]] (by simp [zaI]) (by simp [zaI,zae,zai,zaf _ (zap _)]) (zbF (by simp [zaI]))
     rw [List.append_assoc,zcr,← zaV,← eA2,← eP2] at hG
     unfold zaI at hG
     (refine .inr (.inr (.inr (.inl ⟨_,_,by simp [zae,zak,zbg,AObj.under,zai],by simp [zae,zak,zbg,AObj.under,zai],hG,?_⟩))); ((conv=>whnf);repeat(refine⟨rfl,?_⟩;conv=>whnf)))
     (refine .inl ⟨by (unfold InR; rw [IntKind.wrap_i64]; omega),?_⟩; ((conv=>whnf);repeat(refine⟨rfl,?_⟩;conv=>whnf)))
     refine ⟨k + 1,by omega,by dsimp only; omega,?_⟩
     dsimp only
     (refine zal 7 (by simp) rfl ?_ ?_ <;> (repeat' (first | exact trivial | exact rfl | exact DeepM.refl _ | exact DeepML.refl _ | exact DeepMLL.refl _ | refine And.intro ?_ ?_ | (simp [zai,zae,zak,-List.map_take,-List.map_drop]; done))))
     all_goals first | exact zad _ (zar _) | exact zaa _ (za3 t) | exact zaa _ (zat _) | skip
    ·have q0 : k = t.width:=by have : ¬ k < t.width:=by simpa [Tree.width] using q0
                               omega
     subst q0
     rw [show t.kids.take t.width = t.kids from List.take_length]
     exact ⟨.refl _,zaK _ _ (zbR (Nat.le_refl _))⟩
   ·have hP1 : addT P [t] = P:=by rw [zcf,if_pos r]
    ((conv=>whnf);repeat(refine⟨rfl,?_⟩;conv=>whnf))
    have lP : P.length + (zau t.kids).length≤1000:=by omega
    rw [eA,eP,zaV,hP1]
    refine zaz [3,4] (fun k : Nat=>[(5,.sc (.int .i64 k))]) (fun k=>zaI (Q ++ zaO (zax (t.kids.take k))) (addT P (zau (t.kids.take k))) ++ [.row true (drow t)]) (fun k=>k≤t.width) (fun k=>t.width - k) 0 ?_
    ((conv=>whnf);repeat(refine⟨rfl,?_⟩;conv=>whnf))
    refine ⟨by omega,by (repeat' (first | exact trivial | refine And.intro rfl ?_)),by simp [zaI,zaO,zax,zau,addT],?_⟩
    rintro k hk
    have lpk:=zbv (zau (t.kids.take k)) P
    unfold zaI
    ((conv=>whnf);repeat(refine⟨rfl,?_⟩;conv=>whnf))
    (apply zac; focus (repeat' constructor))
    ((conv=>whnf);repeat(refine⟨rfl,?_⟩;conv=>whnf))
    (refine zab (fun q0=>?_) (fun q0=>?_) <;> (rw [q0]; ((conv=>whnf);repeat(refine⟨rfl,?_⟩;conv=>whnf))))
    ·have q0 : k < t.width:=by simpa [Tree.width] using q0
     refine ⟨by omega,_,zaZ q0,?_⟩
     ((conv=>whnf);repeat(refine⟨rfl,?_⟩;conv=>whnf))
     have eA2:=zaX q0
     have eP2:=zaY q0
     have tA : (zax (t.kids.take k)).length + (zaB (t.kid k)).length≤(zax t.kids).length:=za1 q0
     have tP : (zau (t.kids.take k)).length + (zaC (t.kid k)).length≤(zau t.kids).length:=za0 q0
     have hG:=zbh (ih k q0 (zbB hwf q0) (Q ++ zaO (zax (t.kids.take k))) (addT P (zau (t.kids.take k))) (by simp; omega) (by omega)) [.row true (drow t)] (by simp [zaI]) (by simp [zaI,zae,zai,zaf _ (zap _)]) (zbF (by simp [zaI]))
     rw [List.append_assoc,zcr,← zaV,← eA2,← eP2] at hG
     unfold zaI at hG
     (refine .inr (.inr (.inr (.inl ⟨_,_,by simp [zae,zak,zbg,AObj.under,zai],by simp [zae,zak,zbg,AObj.under,zai],hG,?_⟩))); ((conv=>whnf);repeat(refine⟨rfl,?_⟩;conv=>whnf)))
     (refine .inl ⟨by (unfold InR; rw [IntKind.wrap_i64]; omega),?_⟩; ((conv=>whnf);repeat(refine⟨rfl,?_⟩;conv=>whnf)))
     refine ⟨k + 1,by omega,by dsimp only; omega,?_⟩
     dsimp only
     (refine zal 6 (by simp) rfl ?_ ?_ <;> (repeat' (first | exact trivial | exact rfl | exact DeepM.refl _ | exact DeepML.refl _ | exact DeepMLL.refl _ | refine And.intro ?_ ?_ | (simp [zai,zae,zak,-List.map_take,-List.map_drop]; done))))
     all_goals first | exact zad _ (zar _) | exact zaa _ (za3 t) | exact zaa _ (zat _) | skip
    ·have q0 : k = t.width:=by have : ¬ k < t.width:=by simpa [Tree.width] using q0
                               omega
     subst q0
     rw [show t.kids.take t.width = t.kids from List.take_length]
     exact ⟨.refl _,zaK _ _ (zbR (Nat.le_refl _))⟩
  (refine zab (fun k8=>?_) (fun k8=>?_) <;> (rw [k8]; ((conv=>whnf);repeat(refine⟨rfl,?_⟩;conv=>whnf))))
  ·have k7 : t.kind = 7∨t.kind = 8∨t.kind = 9:=.inr (.inl (by simpa using k8))
   rw [if_pos k7] at eP
   rw [eP,List.length_append,List.length_singleton] at hP
   (refine .inr (.inl ⟨_,_,(by (repeat' (first | exact Deep.refl _ | exact za8 (by first | (simp; done) | (simp [i64s]; done)) | exact Deep.none _ | exact zaF _ | exact DeepL.nil | exact DeepLL.nil | refine Deep.agg _ _ ?_ | refine Deep.tup _ _ ?_ | refine Deep.own _ _ _ _ _ _ _ _ rfl ?_ | refine Deep.loc _ _ _ _ _ rfl ?_ | refine Deep.ifc _ _ _ ?_ | refine Deep.fn _ _ _ _ _ ?_ ?_ | refine DeepL.cons _ _ _ _ ?_ ?_ | refine DeepLL.cons _ _ _ _ ?_ ?_ | exact zaq _))),(zdu P (by omega) (eqT t) 84 [.ipt (drow t)] (by simp [zao,Pure,zar]) fun a _=>zln t hs a),rfl,?_⟩); ((conv=>whnf);repeat(refine⟨rfl,?_⟩;conv=>whnf)))
   cases r : P.any (eqT t)
   ·have hP1 : addT P [t] = P ++ [t]:=by rw [zcf,if_neg (by rw [r]; decide)]
    ((conv=>whnf);repeat(refine⟨rfl,?_⟩;conv=>whnf))
    refine ⟨(by unfold zaj; simp only [ll]; omega),?_⟩
    ((conv=>whnf);repeat(refine⟨rfl,?_⟩;conv=>whnf))
    (refine ⟨by omega,(by first | omega | (simp; done) | (simp; omega) | (simp only [ll]; omega)),?_⟩; ((conv=>whnf);repeat(refine⟨rfl,?_⟩;conv=>whnf)))
    refine ⟨_,zeK P _,?_⟩
    ((conv=>whnf);repeat(refine⟨rfl,?_⟩;conv=>whnf))
    refine zaA (zal 7 (env':=[(3,.loc 2 0),(4,.loc 5 0),(5,.sc (.int .i64 0))]) (H':=[.row true [.own 3 Q.length 0 Q.length],.row true [.own 4 (P.length + 1) 0 (P.length + 1)],.row true [.fn (.func 82) [] [.loc 0 0,.loc 1 0,.loc 2 0]],.vec true Q.length 3 (zaL Q),.vec true (P.length + 1) 3 (zaL (P ++ [t])),.row true (drow t),.vec true 0 3 [[.sc (.int .i64 0),.sc (.int .i64 0),.sc (.slice none 0 0)]]]) (by simp) rfl ?_ ?_) ?_
    ·(repeat' (first | exact trivial | exact rfl | exact DeepM.refl _ | exact DeepML.refl _ | exact DeepMLL.refl _ | refine And.intro ?_ ?_ | (simp [zai,zae,zak,-List.map_take,-List.map_drop]; done)))
    ·(repeat' (first | exact trivial | exact rfl | exact DeepM.refl _ | exact DeepML.refl _ | exact DeepMLL.refl _ | refine And.intro ?_ ?_ | (simp [zai,zae,zak,-List.map_take,-List.map_drop]; done)))
     all_goals first | exact zad _ (zar _) | exact zah (zdM P t _) | skip
    rw [show P.length + 1 = (P ++ [t]).length by simp,← hP1]
    have lP : P.length + 1 + (zau t.kids).length≤1000:=by omega
    have lP1 : (addT P [t]).length≤P.length + 1:=by rw [hP1]; simp
    rw [eA,eP,zaV]
    generalize addT P [t] = P1 at *
    refine zaz [3,4] (fun k : Nat=>[(5,.sc (.int .i64 k))]) (fun k=>zaI (Q ++ zaO (zax (t.kids.take k))) (addT P1 (zau (t.kids.take k))) ++ [.row true (drow t),.vec true 0 3 [[.sc (.int .i64 0),.sc (.int .i64 0),.sc (.slice none 0 0)]]]) (fun k=>k≤t.width) (fun k=>t.width - k) 0 ?_
    ((conv=>whnf);repeat(refine⟨rfl,?_⟩;conv=>whnf))
    refine ⟨by omega,by (repeat' (first | exact trivial | refine And.intro rfl ?_)),by simp [zaI,zaO,zax,zau,addT],?_⟩
    rintro k hk
    have lpk:=zbv (zau (t.kids.take k)) P1
    unfold zaI
    ((conv=>whnf);repeat(refine⟨rfl,?_⟩;conv=>whnf))
    (apply zac; focus (repeat' constructor))
    ((conv=>whnf);repeat(refine⟨rfl,?_⟩;conv=>whnf))
    (refine zab (fun q0=>?_) (fun q0=>?_) <;> (rw [q0]; ((conv=>whnf);repeat(refine⟨rfl,?_⟩;conv=>whnf))))
    ·have q0 : k < t.width:=by simpa [Tree.width] using q0
     refine ⟨by omega,_,zaZ q0,?_⟩
     ((conv=>whnf);repeat(refine⟨rfl,?_⟩;conv=>whnf))
     have eA2:=zaX q0
     have eP2:=zaY q0
     have tA : (zax (t.kids.take k)).length + (zaB (t.kid k)).length≤(zax t.kids).length:=za1 q0
     have tP : (zau (t.kids.take k)).length + (zaC (t.kid k)).length≤(zau t.kids).length:=za0 q0
     have hG:=zbh (ih k q0 (zbB hwf q0) (Q ++ zaO (zax (t.kids.take k))) (addT P1 (zau (t.kids.take k))) (by simp; omega) (by omega)) [.row true (drow t),.vec true 0 3 [[.sc (.int .i64 0),.sc (.int .i64 0),.sc (.slice none 0 0)]]] (by simp [zaI]) (by simp [zaI,zae,zai,zaf _ (zap _)]) (zbF (by simp [zaI]))
     rw [List.append_assoc,zcr,← zaV,← eA2,← eP2] at hG
     unfold zaI at hG
     (refine .inr (.inr (.inr (.inl ⟨_,_,by simp [zae,zak,zbg,AObj.under,zai],by simp [zae,zak,zbg,AObj.under,zai],hG,?_⟩))); ((conv=>whnf);repeat(refine⟨rfl,?_⟩;conv=>whnf)))
     (refine .inl ⟨by (unfold InR; rw [IntKind.wrap_i64]; omega),?_⟩; ((conv=>whnf);repeat(refine⟨rfl,?_⟩;conv=>whnf)))
     refine ⟨k + 1,by omega,by dsimp only; omega,?_⟩
     dsimp only
     (refine zal 7 (by simp) rfl ?_ ?_ <;> (repeat' (first | exact trivial | exact rfl | exact DeepM.refl _ | exact DeepML.refl _ | exact DeepMLL.refl _ | refine And.intro ?_ ?_ | (simp [zai,zae,zak,-List.map_take,-List.map_drop]; done))))
     all_goals first | exact zad _ (zar _) | exact zaa _ (za3 t) | exact zaa _ (zat _) | skip
    ·have q0 : k = t.width:=by have : ¬ k < t.width:=by simpa [Tree.width] using q0
                               omega
     subst q0
     rw [show t.kids.take t.width = t.kids from List.take_length]
     exact ⟨.refl _,zaK _ _ (zbR (Nat.le_refl _))⟩
   ·have hP1 : addT P [t] = P:=by rw [zcf,if_pos r]
    ((conv=>whnf);repeat(refine⟨rfl,?_⟩;conv=>whnf))
    have lP : P.length + (zau t.kids).length≤1000:=by omega
    rw [eA,eP,zaV,hP1]
    refine zaz [3,4] (fun k : Nat=>[(5,.sc (.int .i64 k))]) (fun k=>zaI (Q ++ zaO (zax (t.kids.take k))) (addT P (zau (t.kids.take k))) ++ [.row true (drow t)]) (fun k=>k≤t.width) (fun k=>t.width - k) 0 ?_
    ((conv=>whnf);repeat(refine⟨rfl,?_⟩;conv=>whnf))
    refine ⟨by omega,by (repeat' (first | exact trivial | refine And.intro rfl ?_)),by simp [zaI,zaO,zax,zau,addT],?_⟩
    rintro k hk
    have lpk:=zbv (zau (t.kids.take k)) P
    unfold zaI
    ((conv=>whnf);repeat(refine⟨rfl,?_⟩;conv=>whnf))
    (apply zac; focus (repeat' constructor))
    ((conv=>whnf);repeat(refine⟨rfl,?_⟩;conv=>whnf))
    (refine zab (fun q0=>?_) (fun q0=>?_) <;> (rw [q0]; ((conv=>whnf);repeat(refine⟨rfl,?_⟩;conv=>whnf))))
    ·have q0 : k < t.width:=by simpa [Tree.width] using q0
     refine ⟨by omega,_,zaZ q0,?_⟩
     ((conv=>whnf);repeat(refine⟨rfl,?_⟩;conv=>whnf))
     have eA2:=zaX q0
     have eP2:=zaY q0
     have tA : (zax (t.kids.take k)).length + (zaB (t.kid k)).length≤(zax t.kids).length:=za1 q0
     have tP : (zau (t.kids.take k)).length + (zaC (t.kid k)).length≤(zau t.kids).length:=za0 q0
     have hG:=zbh (ih k q0 (zbB hwf q0) (Q ++ zaO (zax (t.kids.take k))) (addT P (zau (t.kids.take k))) (by simp; omega) (by omega)) [.row true (drow t)] (by simp [zaI]) (by simp [zaI,zae,zai,zaf _ (zap _)]) (zbF (by simp [zaI]))
     rw [List.append_assoc,zcr,← zaV,← eA2,← eP2] at hG
     unfold zaI at hG
     (refine .inr (.inr (.inr (.inl ⟨_,_,by simp [zae,zak,zbg,AObj.under,zai],by simp [zae,zak,zbg,AObj.under,zai],hG,?_⟩))); ((conv=>whnf);repeat(refine⟨rfl,?_⟩;conv=>whnf)))
     (refine .inl ⟨by (unfold InR; rw [IntKind.wrap_i64]; omega),?_⟩; ((conv=>whnf);repeat(refine⟨rfl,?_⟩;conv=>whnf)))
     refine ⟨k + 1,by omega,by dsimp only; omega,?_⟩
     dsimp only
     (refine zal 6 (by simp) rfl ?_ ?_ <;> (repeat' (first | exact trivial | exact rfl | exact DeepM.refl _ | exact DeepML.refl _ | exact DeepMLL.refl _ | refine And.intro ?_ ?_ | (simp [zai,zae,zak,-List.map_take,-List.map_drop]; done))))
     all_goals first | exact zad _ (zar _) | exact zaa _ (za3 t) | exact zaa _ (zat _) | skip
    ·have q0 : k = t.width:=by have : ¬ k < t.width:=by simpa [Tree.width] using q0
                               omega
     subst q0
     rw [show t.kids.take t.width = t.kids from List.take_length]
     exact ⟨.refl _,zaK _ _ (zbR (Nat.le_refl _))⟩
  (refine zab (fun k9=>?_) (fun k9=>?_) <;> (rw [k9]; ((conv=>whnf);repeat(refine⟨rfl,?_⟩;conv=>whnf))))
  ·have k7 : t.kind = 7∨t.kind = 8∨t.kind = 9:=.inr (.inr (by simpa using k9))
   rw [if_pos k7] at eP
   rw [eP,List.length_append,List.length_singleton] at hP
   (refine .inr (.inl ⟨_,_,(by (repeat' (first | exact Deep.refl _ | exact za8 (by first | (simp; done) | (simp [i64s]; done)) | exact Deep.none _ | exact zaF _ | exact DeepL.nil | exact DeepLL.nil | refine Deep.agg _ _ ?_ | refine Deep.tup _ _ ?_ | refine Deep.own _ _ _ _ _ _ _ _ rfl ?_ | refine Deep.loc _ _ _ _ _ rfl ?_ | refine Deep.ifc _ _ _ ?_ | refine Deep.fn _ _ _ _ _ ?_ ?_ | refine DeepL.cons _ _ _ _ ?_ ?_ | refine DeepLL.cons _ _ _ _ ?_ ?_ | exact zaq _))),(zdu P (by omega) (eqT t) 84 [.ipt (drow t)] (by simp [zao,Pure,zar]) fun a _=>zln t hs a),rfl,?_⟩); ((conv=>whnf);repeat(refine⟨rfl,?_⟩;conv=>whnf)))
   cases r : P.any (eqT t)
   ·have hP1 : addT P [t] = P ++ [t]:=by rw [zcf,if_neg (by rw [r]; decide)]
    ((conv=>whnf);repeat(refine⟨rfl,?_⟩;conv=>whnf))
    refine ⟨(by unfold zaj; simp only [ll]; omega),?_⟩
    ((conv=>whnf);repeat(refine⟨rfl,?_⟩;conv=>whnf))
    (refine ⟨by omega,(by first | omega | (simp; done) | (simp; omega) | (simp only [ll]; omega)),?_⟩; ((conv=>whnf);repeat(refine⟨rfl,?_⟩;conv=>whnf)))
    refine ⟨_,zeK P _,?_⟩
    ((conv=>whnf);repeat(refine⟨rfl,?_⟩;conv=>whnf))
    refine zaA (zal 7 (env':=[(3,.loc 2 0),(4,.loc 5 0),(5,.sc (.int .i64 0))]) (H':=[.row true [.own 3 Q.length 0 Q.length],.row true [.own 4 (P.length + 1) 0 (P.length + 1)],.row true [.fn (.func 82) [] [.loc 0 0,.loc 1 0,.loc 2 0]],.vec true Q.length 3 (zaL Q),.vec true (P.length + 1) 3 (zaL (P ++ [t])),.row true (drow t),.vec true 0 3 [[.sc (.int .i64 0),.sc (.int .i64 0),.sc (.slice none 0 0)]]]) (by simp) rfl ?_ ?_) ?_
    ·(repeat' (first | exact trivial | exact rfl | exact DeepM.refl _ | exact DeepML.refl _ | exact DeepMLL.refl _ | refine And.intro ?_ ?_ | (simp [zai,zae,zak,-List.map_take,-List.map_drop]; done)))
    ·(repeat' (first | exact trivial | exact rfl | exact DeepM.refl _ | exact DeepML.refl _ | exact DeepMLL.refl _ | refine And.intro ?_ ?_ | (simp [zai,zae,zak,-List.map_take,-List.map_drop]; done)))
     all_goals first | exact zad _ (zar _) | exact zah (zdM P t _) | skip
    rw [show P.length + 1 = (P ++ [t]).length by simp,← hP1]
    have lP : P.length + 1 + (zau t.kids).length≤1000:=by omega
    have lP1 : (addT P [t]).length≤P.length + 1:=by rw [hP1]; simp
    rw [eA,eP,zaV]
    generalize addT P [t] = P1 at *
    refine zaz [3,4] (fun k : Nat=>[(5,.sc (.int .i64 k))]) (fun k=>zaI (Q ++ zaO (zax (t.kids.take k))) (addT P1 (zau (t.kids.take k))) ++ [.row true (drow t),.vec true 0 3 [[.sc (.int .i64 0),.sc (.int .i64 0),.sc (.slice none 0 0)]]]) (fun k=>k≤t.width) (fun k=>t.width - k) 0 ?_
    ((conv=>whnf);repeat(refine⟨rfl,?_⟩;conv=>whnf))
    refine ⟨by omega,by (repeat' (first | exact trivial | refine And.intro rfl ?_)),by simp [zaI,zaO,zax,zau,addT],?_⟩
    rintro k hk
    have lpk:=zbv (zau (t.kids.take k)) P1
    unfold zaI
    ((conv=>whnf);repeat(refine⟨rfl,?_⟩;conv=>whnf))
    (apply zac; focus (repeat' constructor))
    ((conv=>whnf);repeat(refine⟨rfl,?_⟩;conv=>whnf))
    (refine zab (fun q0=>?_) (fun q0=>?_) <;> (rw [q0]; ((conv=>whnf);repeat(refine⟨rfl,?_⟩;conv=>whnf))))
    ·have q0 : k < t.width:=by simpa [Tree.width] using q0
     refine ⟨by omega,_,zaZ q0,?_⟩
     ((conv=>whnf);repeat(refine⟨rfl,?_⟩;conv=>whnf))
     have eA2:=zaX q0
     have eP2:=zaY q0
     have tA : (zax (t.kids.take k)).length + (zaB (t.kid k)).length≤(zax t.kids).length:=za1 q0
     have tP : (zau (t.kids.take k)).length + (zaC (t.kid k)).length≤(zau t.kids).length:=za0 q0
     have hG:=zbh (ih k q0 (zbB hwf q0) (Q ++ zaO (zax (t.kids.take k))) (addT P1 (zau (t.kids.take k))) (by simp; omega) (by omega)) [.row true (drow t),.vec true 0 3 [[.sc (.int .i64 0),.sc (.int .i64 0),.sc (.slice none 0 0)]]] (by simp [zaI]) (by simp [zaI,zae,zai,zaf _ (zap _)]) (zbF (by simp [zaI]))
     rw [List.append_assoc,zcr,← zaV,← eA2,← eP2] at hG
     unfold zaI at hG
     (refine .inr (.inr (.inr (.inl ⟨_,_,by simp [zae,zak,zbg,AObj.under,zai],by simp [zae,zak,zbg,AObj.under,zai],hG,?_⟩))); ((conv=>whnf);repeat(refine⟨rfl,?_⟩;conv=>whnf)))
     (refine .inl ⟨by (unfold InR; rw [IntKind.wrap_i64]; omega),?_⟩; ((conv=>whnf);repeat(refine⟨rfl,?_⟩;conv=>whnf)))
     refine ⟨k + 1,by omega,by dsimp only; omega,?_⟩
     dsimp only
     (refine zal 7 (by simp) rfl ?_ ?_ <;> (repeat' (first | exact trivial | exact rfl | exact DeepM.refl _ | exact DeepML.refl _ | exact DeepMLL.refl _ | refine And.intro ?_ ?_ | (simp [zai,zae,zak,-List.map_take,-List.map_drop]; done))))
     all_goals first | exact zad _ (zar _) | exact zaa _ (za3 t) | exact zaa _ (zat _) | skip
    ·have q0 : k = t.width:=by have : ¬ k < t.width:=by simpa [Tree.width] using q0
                               omega
     subst q0
     rw [show t.kids.take t.width = t.kids from List.take_length]
     exact ⟨.refl _,zaK _ _ (zbR (Nat.le_refl _))⟩
   ·have hP1 : addT P [t] = P:=by rw [zcf,if_pos r]
    ((conv=>whnf);repeat(refine⟨rfl,?_⟩;conv=>whnf))
    have lP : P.length + (zau t.kids).length≤1000:=by omega
    rw [eA,eP,zaV,hP1]
    refine zaz [3,4] (fun k : Nat=>[(5,.sc (.int .i64 k))]) (fun k=>zaI (Q ++ zaO (zax (t.kids.take k))) (addT P (zau (t.kids.take k))) ++ [.row true (drow t)]) (fun k=>k≤t.width) (fun k=>t.width - k) 0 ?_
    ((conv=>whnf);repeat(refine⟨rfl,?_⟩;conv=>whnf))
    refine ⟨by omega,by (repeat' (first | exact trivial | refine And.intro rfl ?_)),by simp [zaI,zaO,zax,zau,addT],?_⟩
    rintro k hk
    have lpk:=zbv (zau (t.kids.take k)) P
    unfold zaI
    ((conv=>whnf);repeat(refine⟨rfl,?_⟩;conv=>whnf))
    (apply zac; focus (repeat' constructor))
    ((conv=>whnf);repeat(refine⟨rfl,?_⟩;conv=>whnf))
    (refine zab (fun q0=>?_) (fun q0=>?_) <;> (rw [q0]; ((conv=>whnf);repeat(refine⟨rfl,?_⟩;conv=>whnf))))
    ·have q0 : k < t.width:=by simpa [Tree.width] using q0
     refine ⟨by omega,_,zaZ q0,?_⟩
     ((conv=>whnf);repeat(refine⟨rfl,?_⟩;conv=>whnf))
     have eA2:=zaX q0
     have eP2:=zaY q0
     have tA : (zax (t.kids.take k)).length + (zaB (t.kid k)).length≤(zax t.kids).length:=za1 q0
     have tP : (zau (t.kids.take k)).length + (zaC (t.kid k)).length≤(zau t.kids).length:=za0 q0
     have hG:=zbh (ih k q0 (zbB hwf q0) (Q ++ zaO (zax (t.kids.take k))) (addT P (zau (t.kids.take k))) (by simp; omega) (by omega)) [.row true (drow t)] (by simp [zaI]) (by simp [zaI,zae,zai,zaf _ (zap _)]) (zbF (by simp [zaI]))
     rw [List.append_assoc,zcr,← zaV,← eA2,← eP2] at hG
     unfold zaI at hG
     (refine .inr (.inr (.inr (.inl ⟨_,_,by simp [zae,zak,zbg,AObj.under,zai],by simp [zae,zak,zbg,AObj.under,zai],hG,?_⟩))); ((conv=>whnf);repeat(refine⟨rfl,?_⟩;conv=>whnf)))
     (refine .inl ⟨by (unfold InR; rw [IntKind.wrap_i64]; omega),?_⟩; ((conv=>whnf);repeat(refine⟨rfl,?_⟩;conv=>whnf)))
     refine ⟨k + 1,by omega,by dsimp only; omega,?_⟩
     dsimp only
     (refine zal 6 (by simp) rfl ?_ ?_ <;> (repeat' (first | exact trivial | exact rfl | exact DeepM.refl _ | exact DeepML.refl _ | exact DeepMLL.refl _ | refine And.intro ?_ ?_ | (simp [zai,zae,zak,-List.map_take,-List.map_drop]; done))))
     all_goals first | exact zad _ (zar _) | exact zaa _ (za3 t) | exact zaa _ (zat _) | skip
    ·have q0 : k = t.width:=by have : ¬ k < t.width:=by simpa [Tree.width] using q0
                               omega
     subst q0
     rw [show t.kids.take t.width = t.kids from List.take_length]
     exact ⟨.refl _,zaK _ _ (zbR (Nat.le_refl _))⟩
  have k7 : ¬ (t.kind = 7∨t.kind = 8∨t.kind = 9):=by
   simp only [beq_eq_false_iff_ne] at k7 k8 k9
   omega
  rw [if_neg k7,List.nil_append] at eP
  rw [eP] at hP
  rw [eA,eP]
  have lP : P.length + (zau t.kids).length≤1000:=hP
  refine zaz [3,4] (fun k : Nat=>[(5,.sc (.int .i64 k))]) (fun k=>zaI (Q ++ zaO (zax (t.kids.take k))) (addT P (zau (t.kids.take k))) ++ [.row true (drow t)]) (fun k=>k≤t.width) (fun k=>t.width - k) 0 ?_
  ((conv=>whnf);repeat(refine⟨rfl,?_⟩;conv=>whnf))
  refine ⟨by omega,by (repeat' (first | exact trivial | refine And.intro rfl ?_)),by simp [zaI,zaO,zax,zau,addT],?_⟩
  rintro k hk
  have lpk:=zbv (zau (t.kids.take k)) P
  unfold zaI
  ((conv=>whnf);repeat(refine⟨rfl,?_⟩;conv=>whnf))
  (apply zac; focus (repeat' constructor))
  ((conv=>whnf);repeat(refine⟨rfl,?_⟩;conv=>whnf))
  (refine zab (fun q0=>?_) (fun q0=>?_) <;> (rw [q0]; ((conv=>whnf);repeat(refine⟨rfl,?_⟩;conv=>whnf))))
  ·have q0 : k < t.width:=by simpa [Tree.width] using q0
   refine ⟨by omega,_,zaZ q0,?_⟩
   ((conv=>whnf);repeat(refine⟨rfl,?_⟩;conv=>whnf))
   have eA2:=zaX q0
   have eP2:=zaY q0
   have tA : (zax (t.kids.take k)).length + (zaB (t.kid k)).length≤(zax t.kids).length:=za1 q0
   have tP : (zau (t.kids.take k)).length + (zaC (t.kid k)).length≤(zau t.kids).length:=za0 q0
   have hG:=zbh (ih k q0 (zbB hwf q0) (Q ++ zaO (zax (t.kids.take k))) (addT P (zau (t.kids.take k))) (by simp; omega) (by omega)) [.row true (drow t)] (by simp [zaI]) (by simp [zaI,zae,zai,zaf _ (zap _)]) (zbF (by simp [zaI]))
   rw [List.append_assoc,zcr,← zaV,← eA2,← eP2] at hG
   unfold zaI at hG
   (refine .inr (.inr (.inr (.inl ⟨_,_,by simp [zae,zak,zbg,AObj.under,zai],by simp [zae,zak,zbg,AObj.under,zai],hG,?_⟩))); ((conv=>whnf);repeat(refine⟨rfl,?_⟩;conv=>whnf)))
   (refine .inl ⟨by (unfold InR; rw [IntKind.wrap_i64]; omega),?_⟩; ((conv=>whnf);repeat(refine⟨rfl,?_⟩;conv=>whnf)))
   refine ⟨k + 1,by omega,by dsimp only; omega,?_⟩
   dsimp only
   (refine zal 6 (by simp) rfl ?_ ?_ <;> (repeat' (first | exact trivial | exact rfl | exact DeepM.refl _ | exact DeepML.refl _ | exact DeepMLL.refl _ | refine And.intro ?_ ?_ | (simp [zai,zae,zak,-List.map_take,-List.map_drop]; done))))
   all_goals first | exact zad _ (zar _) | exact zaa _ (za3 t) | exact zaa _ (zat _) | skip
  ·have q0 : k = t.width:=by have : ¬ k < t.width:=by simpa [Tree.width] using q0
                             omega
   subst q0
   rw [show t.kids.take t.width = t.kids from List.take_length]
   exact ⟨.refl _,zaK _ _ (zbR (Nat.le_refl _))⟩
def c51_1 : PC:=.seq (.seq (.ops [q 12 (.load1 (.tmp 7)),q 13 (.bin .lss (.tmp 12) (.const (.int .i64 64)))] false) (.cond (.tmp 13) (.skip) (.exit 0))) (.seq (.block 1 (.seq (.ops [q 16 (.load1 (.tmp 3)),q 17 (.mkfn (.func 85) [] [(.tmp 7)]),q 18 (.call 83 [(.tmp 16),(.tmp 17)])] false) (.cond (.tmp 18) (.ops [qm 19 6,q 20 (.load1 (.tmp 7)),q 21 (.call 50 [(.const (.int .i64 3)),(.tmp 20)]),q 22 (.bslice 3 1 [(.tmp 21)]),q 23 (.append 3 40 (.tmp 19) (.tmp 22)),qm 6 23] false) (.skip)))) (.seq (.seq (.ops [q 24 (.load1 (.tmp 7))] false) (.ops [q 7 (.alloc [(.int .i64 0)]),qn (.store 1 (.tmp 7) (.tmp 24))] false)) (.ops [q 14 (.load1 (.tmp 7)),q 15 (.bin .add (.tmp 14) (.const (.int .i64 1))),qn (.store 1 (.tmp 7) (.tmp 15))] false)))
def c51 : PC:=.seq (.ops [q 1 (.box (.tmp 0)),q 2 (.move (.const (.slice none 0 0)))] false) (.seq (.ops [q 3 (.alloc [(.slice none 0 0)]),q 4 (.alloc [(.slice none 0 0)])] false) (.seq (.ops [q 5 (.alloc [(.nilFunc)])] false) (.seq (.ops [q 8 (.mkfn (.func 82) [] [(.tmp 3),(.tmp 4),(.tmp 5)]),qn (.store 1 (.tmp 5) (.tmp 8))] false) (.seq (.stop (.ops [q 9 (.load1 (.tmp 5)),q 10 (.loadA 3 (.tmp 1)),q 11 (.callv (.tmp 9) [(.tmp 10)])] false)) (.seq (.ops [q 6 (.move (.const (.slice none 0 0)))] false) (.seq (.seq (.ops [q 7 (.alloc [(.int .i64 0)]),qn (.store 1 (.tmp 7) (.const (.int .i64 0)))] false) (.stop (.block 0 (.loop c51_1)))) (.seq (.ops [qm 25 6,q 26 (.load1 (.tmp 4)),q 27 (.append 3 40 (.tmp 25) (.tmp 26)),qm 2 27] false) (.ret))))))))
theorem c51_ok : FunOK Tryz.prog 51 28 [.tmp 2] c51:=⟨⟨Tryz.f51,Tryz.func51,rfl,by kernel_rfl,rfl,by kernel_rfl⟩⟩
def elK (f : Tree) (k : Nat) : List Tree:=zaO (zbC (fun n=>(zaB f).contains (n : Int)) k)
theorem elK_succ (f : Tree) (k : Nat) : elK f (k + 1) = if (zaB f).contains (k : Int) = true then elK f k ++ [zdX k] else elK f k:=by
 unfold elK
 rw [zcE]
 split <;> simp [zaO]
theorem elK_len (f : Tree) (k : Nat) : (elK f k).length≤k:=by rw [elK,zix]; exact zb0 _ _
theorem any_num (A : List Int) (n : Int) : (zaO A).any (fun g=>g.num == n) = A.contains n:=by
 induction A with
 | nil=>rfl
 | cons a r ih =>
  rw [show zaO (a :: r) = zdX a :: zaO r from rfl,List.any_cons,ih,List.contains_cons]
  congr 1
  rw [show (zdX a).num = a from rfl,Bool.eq_iff_iff,beq_iff_eq,beq_iff_eq]
  exact eq_comm
theorem zkD (f : Tree) (hw : f.wf zaE) (hsz : f.size≤60) : PCall Tryz.prog 51 [za7 f] (.lst 3 (zaL (elE f))):=by
 have hla:=zjw f
 have hlp:=zho f
 have hlP:=zbv (zaC f) []
 have hL:=el_look f hw [] [] (by simp; omega) (by simp; omega)
 rw [List.nil_append] at hL
 refine zag c51_ok (by simp) (by simp [zao,zap]) ?_ (by simp only [Pure]; exact zat _)
 (apply zac; focus (repeat' constructor))
 ((conv=>whnf);repeat(refine⟨rfl,?_⟩;conv=>whnf))
 refine zaA (zb1 (zbp 1 0 3 (by simp) rfl rfl) (zbp 2 0 3 (by simp) rfl rfl)) ?_
 (apply zac; focus (repeat' constructor))
 ((conv=>whnf);repeat(refine⟨rfl,?_⟩;conv=>whnf))
 have hE : elE f = elK f 64 ++ addT [] (zaC f):=rfl
 have hK:=elK_succ f
 have hKl:=elK_len f
 have hany:=any_num (zaB f)
 have hlT : (zaO (zaB f)).length≤60:=by simp; omega
 have hCo:=fun n : Nat=>zdu (zaO (zaB f)) (by omega) (fun g=>g.num == (n : Int)) 85 [.ipt [.sc (.int .i64 n)]] (by simp [zao,Pure]) fun a _=>el_num a n
 rw [hE]
 generalize zaO (zaB f) = Q at *
 generalize addT [] (zaC f) = P at *
 have hL2 : ACall Tryz.prog 82 [za7 f,.loc 1 0,.loc 2 0,.loc 3 0] [.row true (drow f),.row true [.own 4 0 0 0],.row true [.own 5 0 0 0],.row true [.fn (.func 82) [] [.loc 1 0,.loc 2 0,.loc 3 0]],.vec true 0 3 [],.vec true 0 3 []] (.tup [])
   [.row true (drow f),.row true [.own 4 Q.length 0 Q.length],.row true [.own 5 P.length 0 P.length],.row true [.fn (.func 82) [] [.loc 1 0,.loc 2 0,.loc 3 0]],.vec true Q.length 3 (zaL Q),.vec true P.length 3 (zaL P)]:=by
  refine zcj hL [.row true (drow f)] [] rfl (by simp [zaI,zae,zai,zaf _ (zap _)]) (zbF (by simp [zaI])) (by simp [renL,D.ren]) (by simp [D.ren,renL]) ?_ ?_
  ·simp [zaI,AObj.ren,renL,D.ren,zdo,zaL]
  ·simp only [zaI,List.map_cons,List.map_nil,AObj.ren,renL,D.ren,List.length_cons,List.length_nil,zh0]
   rfl
 (refine .inr (.inr (.inl ⟨rfl,_,_,hL2,?_⟩)); ((conv=>whnf);repeat(refine⟨rfl,?_⟩;conv=>whnf)))
 refine zaA (zej (fun i=>i == 1 || i == 2 || i == 4 || i == 5 || i == 6) (env':=[(3,.ipt [.lst 3 (zaL Q)]),(4,.ipt [.lst 3 (zaL P)]),(6,.sc (.slice none 0 0)),(7,.ipt [.sc (.int .i64 0)])]) (H':=[.row true (drow f),.row false [.lst 3 (zaL Q)],.row false [.lst 3 (zaL P)],.row true [.fn (.func 82) [] [.loc 1 0,.loc 2 0,.loc 3 0]],.vec false Q.length 3 (zaL Q),.vec false P.length 3 (zaL P),.row false [.sc (.int .i64 0)]]) ?_ ?_) ?_
 ·refine ⟨DeepM.loc _ _ _ _ _ rfl rfl (.cons _ _ _ _ (.own _ _ _ _ _ _ _ _ rfl rfl ?_) (.refl _)),DeepM.loc _ _ _ _ _ rfl rfl (.cons _ _ _ _ (.own _ _ _ _ _ _ _ _ rfl rfl ?_) (.refl _)),.refl _,DeepM.loc _ _ _ _ _ rfl rfl (.refl _),trivial⟩
  ·exact zah (zav (by simp))
  ·exact zah (zav (by simp))
 ·refine ⟨⟨.inl rfl,(fun h=>by cases h),.refl _⟩,⟨.inr ⟨rfl,rfl⟩,fun _=>rfl,.cons _ _ _ _ (.own _ _ _ _ _ _ _ _ rfl rfl ?_) (.refl _)⟩,⟨.inr ⟨rfl,rfl⟩,fun _=>rfl,.cons _ _ _ _ (.own _ _ _ _ _ _ _ _ rfl rfl ?_) (.refl _)⟩,⟨.inl rfl,(fun h=>by cases h),.refl _⟩,⟨.inr ⟨rfl,rfl⟩,fun _=>rfl,rfl,rfl,.refl _⟩,⟨.inr ⟨rfl,rfl⟩,fun _=>rfl,rfl,rfl,.refl _⟩,⟨.inr ⟨rfl,rfl⟩,fun _=>rfl,.refl _⟩,trivial⟩
  ·exact zah (zav (by simp))
  ·exact zah (zav (by simp))
 (apply zac; focus (repeat' constructor))
 ((conv=>whnf);repeat(refine⟨rfl,?_⟩;conv=>whnf))
 refine zaA (zcu 6 3 (by simp) rfl) ?_
 refine zaz [3,4] (fun k : Nat=>[(6,.own 7 (elK f k).length 0 (elK f k).length),(7,.ipt [.sc (.int .i64 k)])]) (fun k=>[.row true (drow f),.row false [.lst 3 (zaL Q)],.row false [.lst 3 (zaL P)],.row true [.fn (.func 82) [] [.loc 1 0,.loc 2 0,.loc 3 0]],.vec false Q.length 3 (zaL Q),.vec false P.length 3 (zaL P),.row false [.sc (.int .i64 0)],.vec true (elK f k).length 3 (zaL (elK f k))]) (fun k=>k≤64) (fun k=>64 - k) 0 ?_
 ((conv=>whnf);repeat(refine⟨rfl,?_⟩;conv=>whnf))
 refine ⟨by omega,by (repeat' (first | exact trivial | refine And.intro rfl ?_)),rfl,?_⟩
 rintro k hk
 have hkl:=hKl k
 have hkc:=hCo k
 have hka:=hany k
 have hks:=hK k
 ((conv=>whnf);repeat(refine⟨rfl,?_⟩;conv=>whnf))
 (apply zac; focus (repeat' constructor))
 ((conv=>whnf);repeat(refine⟨rfl,?_⟩;conv=>whnf))
 (refine zab (fun q0=>?_) (fun q0=>?_) <;> (rw [q0]; ((conv=>whnf);repeat(refine⟨rfl,?_⟩;conv=>whnf))))
 ·have q0 : k < 64:=by ((try simp only[oo,reduceCtorEq]at*)<;>omega)
  rw [hka] at hkc
  (refine .inl ⟨_,hkc,?_⟩; ((conv=>whnf);repeat(refine⟨rfl,?_⟩;conv=>whnf)))
  cases r : (zaB f).contains (k : Int)
  ·rw [r,if_neg (by decide)] at hks
   ((conv=>whnf);repeat(refine⟨rfl,?_⟩;conv=>whnf))
   (refine .inl ⟨by (unfold InR; rw [IntKind.wrap_i64]; omega),?_⟩; ((conv=>whnf);repeat(refine⟨rfl,?_⟩;conv=>whnf)))
   refine ⟨k + 1,by omega,by dsimp only; omega,?_⟩
   dsimp only
   rw [hks]
   refine zal 8 (by simp) rfl ⟨.refl _,by simp [zai],DeepM.loc _ _ _ _ _ rfl rfl (.refl _),by simp [zai,zae],.refl _,by simp [zai,zae,zaa _ (zat _)],.refl _,by simp [zai,zae,zaa _ (zat _)],trivial⟩ ?_
   (repeat' (first | exact trivial | exact rfl | exact DeepM.refl _ | exact DeepML.refl _ | exact DeepMLL.refl _ | refine And.intro ?_ ?_ | (simp [zai,zae,zak,-List.map_take,-List.map_drop]; done)))
   all_goals first | exact zad _ (zar _) | exact zaa _ (zat _) | exact zi5 _ _ | skip
  ·rw [r,if_pos rfl] at hks
   ((conv=>whnf);repeat(refine⟨rfl,?_⟩;conv=>whnf))
   (refine .inl ⟨_,(zpm 3 k),?_⟩; ((conv=>whnf);repeat(refine⟨rfl,?_⟩;conv=>whnf)))
   refine ⟨(by unfold zaj; simp only [ll]; omega),?_⟩
   ((conv=>whnf);repeat(refine⟨rfl,?_⟩;conv=>whnf))
   (refine .inl ⟨by (unfold InR; rw [IntKind.wrap_i64]; omega),?_⟩; ((conv=>whnf);repeat(refine⟨rfl,?_⟩;conv=>whnf)))
   refine ⟨k + 1,by omega,by dsimp only; omega,?_⟩
   dsimp only
   rw [hks]
   rw [show (elK f k ++ [zdX k]).length = (elK f k).length + 1 by simp]
   refine zal 8 (by simp) rfl ⟨.refl _,by simp [zai],DeepM.loc _ _ _ _ _ rfl rfl (.refl _),by simp [zai,zae],.refl _,by simp [zai,zae,zaa _ (zat _)],.refl _,by simp [zai,zae,zaa _ (zat _)],trivial⟩ ?_
   (repeat' (first | exact trivial | exact rfl | exact DeepM.refl _ | exact DeepML.refl _ | exact DeepMLL.refl _ | refine And.intro ?_ ?_ | (simp [zai,zae,zak,-List.map_take,-List.map_drop]; done)))
   all_goals first | exact zad _ (zar _) | exact zaa _ (zat _) | exact zi5 _ _ | skip
 ·have q0 : k = 64:=by have : ¬ k < 64:=by ((try simp only[oo,reduceCtorEq]at*)<;>omega)
                       omega
  subst q0
  simp only [List.length_nil] at hlP
  refine ⟨by unfold zaj; rw [zbS]; omega,?_⟩
  ((conv=>whnf);repeat(refine⟨rfl,?_⟩;conv=>whnf))
  refine .own _ _ _ _ _ _ _ _ rfl ?_
  rw [show zaL (elK f 64 ++ P) = zaL (elK f 64) ++ zaL P by simp [zaL],zav (l:=zaL (elK f 64)) (by simp)]
  exact za8 (by simp)
end
section
open Go.RowKit
theorem zjl {α : Type} {p : α→Bool} {a b : List α} {k : Nat} (h : idxF p a = (k : Int)) : idxF p (a ++ b) = (k : Int):=by
 obtain ⟨j,e,hj,h1,h2⟩:=zhP (p:=p) (l:=a) (by omega)
 have : j = k:=by omega
 subst this
 refine zeG (k:=j) (by simp; omega) (by rw [List.getElem_append_left hj]; exact h1) fun i hi=>?_
 rw [List.getElem_append_left (by omega)]
 exact h2 i hi
theorem ziu {α : Type} {p : α→Bool} {a b : List α} {k : Nat} (ha : ∀ x∈a,p x = false) (h : idxF p b = (k : Int)) : idxF p (a ++ b) = ((a.length + k : Nat) : Int):=by
 obtain ⟨j,e,hj,h1,h2⟩:=zhP (p:=p) (l:=b) (by omega)
 have : j = k:=by omega
 subst this
 refine zeG (k:=a.length + j) (by simp; omega) (by rw [List.getElem_append_right (by omega)]; simpa using h1) fun i hi=>?_
 by_cases q : i < a.length
 ·rw [List.getElem_append_left q]; exact ha _ (List.getElem_mem q)
 ·rw [List.getElem_append_right (by omega)]; exact h2 _ (by omega)
theorem eqT_atom (a b : Int) : eqT (zdX a) (zdX b) = (a == b):=by
 rw [Bool.eq_iff_iff,eqT_iff,beq_iff_eq]
 constructor
 ·intro h
  have : (zdX a).num = (zdX b).num:=by rw [h]
  exact this
 ·rintro rfl; rfl
theorem znq (n : Int) (A : List Int) : idxF (eqT (zdX n)) (zaO A) = idxF (fun a=>n == a) A:=by
 unfold idxF zaO
 rw [List.findIdx?_map,show eqT (zdX n) ∘ zdX = fun a=>n == a from funext fun a=>eqT_atom n a]
theorem pos_el {A : List Int} {P : List Tree} {g : Tree} (hT : Told A P g) (hw : g.wf zaE) (hk : g.kind = 3∨g.kind = 7∨g.kind = 8∨g.kind = 9) : idxF (eqT g) (zaO A ++ P) = (posE A P g : Int)∧posE A P g < A.length + P.length:=by
 by_cases k3 : g.kind = 3
 ·obtain ⟨k,h1,h2⟩:=zou (hT.atom k3)
  have e : posE A P g = k:=by unfold posE; rw [if_pos k3,h2]; rfl
  rw [e]
  refine ⟨zjl ?_,by omega⟩
  rw [zo0 hw k3,znq]
  exact h2
 ·obtain ⟨k,h1,h2⟩:=zmC (hT.part (by omega))
  have e : posE A P g = A.length + k:=by unfold posE; rw [if_neg k3,h2]; rfl
  rw [e]
  refine ⟨?_,by omega⟩
  rw [← zix A]
  refine ziu (fun x hx=>?_) h2
  obtain ⟨a,_,rfl⟩:=List.mem_map.1 hx
  rw [Bool.eq_false_iff]
  intro h
  rw [eqT_iff] at h
  exact k3 (h ▸ rfl)
def elD (E : List Tree) : D:=.ipt [.lst 3 (zaL E)]
def c54 : PC:=.seq (.ops [q 2 (.box (.tmp 0)),q 3 (.move (.const (.bool false)))] false) (.seq (.ops [q 4 (.loadA 3 (.tmp 1)),q 5 (.loadA 3 (.tmp 2)),q 6 (.call 55 [(.tmp 4),(.tmp 5)]),qm 3 6] false) (.ret))
theorem c54_ok : FunOK Tryz.prog 54 7 [.tmp 3] c54:=⟨⟨Tryz.f54,Tryz.func54,rfl,by kernel_rfl,rfl,by kernel_rfl⟩⟩
def c52 : PC:=.seq (.ops [q 3 (.box (.tmp 0)),q 5 (.move (.const (.bool false)))] false) (.seq (.ops [q 7 (.load1 (.tmp 2)),q 8 (.mkfn (.func 54) [] [(.tmp 3)]),q 9 (.call 53 [(.tmp 7),(.tmp 8)]),qm 6 9] false) (.seq (.ops [qm 10 1,qm 11 6,q 12 (.bin .shr (.tmp 10) (.tmp 11)),q 13 (.bin .rem (.tmp 12) (.const (.int .i64 2))),q 14 (.bin .eql (.tmp 13) (.const (.int .i64 1))),qm 5 14] false) (.ret)))
theorem c52_ok : FunOK Tryz.prog 52 15 [.tmp 5] c52:=⟨⟨Tryz.f52,Tryz.func52,rfl,by kernel_rfl,rfl,by kernel_rfl⟩⟩
def c56 : PC:=.seq (.ops [q 4 (.box (.tmp 0)),q 6 (.move (.const (.bool false)))] false) (.seq (.seq (.ops [q 7 (.faddr 0 (.tmp 4)),q 8 (.load1 (.tmp 7))] false) (.block 0 (.seq (.seq (.ops [q 10 (.bin .eql (.tmp 8) (.const (.int .i64 1))),qm 9 10] false) (.cond (.tmp 9) (.skip) (.ops [q 11 (.bin .eql (.tmp 8) (.const (.int .i64 2))),qm 9 11] false))) (.cond (.tmp 9) (.seq (.ops [q 12 (.faddr 0 (.tmp 4)),q 13 (.load1 (.tmp 12)),q 14 (.bin .eql (.tmp 13) (.const (.int .i64 1))),qm 6 14] false) (.ret)) (.seq (.ops [q 16 (.bin .eql (.tmp 8) (.const (.int .i64 4))),qm 15 16] false) (.cond (.tmp 15) (.seq (.ops [q 17 (.load1 (.tmp 2)),q 18 (.faddr 2 (.tmp 4)),qd 19 (.load1 (.tmp 18)) 2,qd 20 (.iaddr 3 (.tmp 19) (.const (.int .i64 0))) 6,qd 21 (.loadA 3 (.tmp 20)) 14,qm 22 1,qd 23 (.callv (.tmp 17) [(.tmp 21),(.tmp 22)]) 63,qd 24 (.un .not (.tmp 23)) 127,qw 6 24 255] true) (.ret)) (.seq (.ops [q 26 (.bin .eql (.tmp 8) (.const (.int .i64 5))),qm 25 26] false) (.cond (.tmp 25) (.seq (.ops [q 27 (.load1 (.tmp 2)),q 28 (.faddr 2 (.tmp 4)),qd 29 (.load1 (.tmp 28)) 2,qd 30 (.iaddr 3 (.tmp 29) (.const (.int .i64 0))) 6,qd 31 (.loadA 3 (.tmp 30)) 14,qm 32 1,qd 33 (.callv (.tmp 27) [(.tmp 31),(.tmp 32)]) 63,qw 34 33 127,⟨some 35,.load1 (.tmp 2),some (34,true),255⟩,⟨some 36,.faddr 2 (.tmp 4),some (34,true),255⟩,⟨some 37,.load1 (.tmp 36),some (34,true),767⟩,⟨some 38,.iaddr 3 (.tmp 37) (.const (.int .i64 1)),some (34,true),1791⟩,⟨some 39,.loadA 3 (.tmp 38),some (34,true),3839⟩,⟨some 40,.move (.tmp 1),some (34,true),255⟩,⟨some 41,.callv (.tmp 35) [(.tmp 39),(.tmp 40)],some (34,true),16383⟩,qd 42 (.pick (.tmp 34) (.tmp 41) (.const (.bool false))) 32767,qw 6 42 65535] true) (.ret)) (.seq (.ops [q 44 (.bin .eql (.tmp 8) (.const (.int .i64 6))),qm 43 44] false) (.cond (.tmp 43) (.seq (.ops [q 45 (.load1 (.tmp 2)),q 46 (.faddr 2 (.tmp 4)),qd 47 (.load1 (.tmp 46)) 2,qd 48 (.iaddr 3 (.tmp 47) (.const (.int .i64 0))) 6,qd 49 (.loadA 3 (.tmp 48)) 14,qm 50 1,qd 51 (.callv (.tmp 45) [(.tmp 49),(.tmp 50)]) 63,qw 52 51 127,⟨some 53,.load1 (.tmp 2),some (52,false),255⟩,⟨some 54,.faddr 2 (.tmp 4),some (52,false),255⟩,⟨some 55,.load1 (.tmp 54),some (52,false),767⟩,⟨some 56,.iaddr 3 (.tmp 55) (.const (.int .i64 1)),some (52,false),1791⟩,⟨some 57,.loadA 3 (.tmp 56),some (52,false),3839⟩,⟨some 58,.move (.tmp 1),some (52,false),255⟩,⟨some 59,.callv (.tmp 53) [(.tmp 57),(.tmp 58)],some (52,false),16383⟩,qd 60 (.pick (.tmp 52) (.const (.bool true)) (.tmp 59)) 32767,qw 6 60 65535] true) (.ret)) (.seq (.ops [q 62 (.bin .eql (.tmp 8) (.const (.int .i64 8))),qm 61 62] false) (.cond (.tmp 61) (.seq (.ops [q 63 (.load1 (.tmp 2)),q 64 (.faddr 2 (.tmp 4)),qd 65 (.load1 (.tmp 64)) 2,qd 66 (.iaddr 3 (.tmp 65) (.const (.int .i64 1))) 6,qd 67 (.loadA 3 (.tmp 66)) 14,qm 68 1,qd 69 (.callv (.tmp 63) [(.tmp 67),(.tmp 68)]) 63,qw 70 69 127,⟨some 71,.load1 (.tmp 2),some (70,false),255⟩,⟨some 72,.faddr 2 (.tmp 4),some (70,false),255⟩,⟨some 73,.load1 (.tmp 72),some (70,false),767⟩,⟨some 74,.iaddr 3 (.tmp 73) (.const (.int .i64 0)),some (70,false),1791⟩,⟨some 75,.loadA 3 (.tmp 74),some (70,false),3839⟩,⟨some 76,.move (.tmp 1),some (70,false),255⟩,⟨some 77,.callv (.tmp 71) [(.tmp 75),(.tmp 76)],some (70,false),16383⟩,⟨some 78,.move (.tmp 77),some (70,false),32767⟩,⟨some 79,.load1 (.tmp 3),some (78,true),65535⟩,⟨some 80,.loadA 3 (.tmp 4),some (78,true),65535⟩,⟨some 81,.move (.tmp 1),some (78,true),65535⟩,⟨some 82,.callv (.tmp 79) [(.tmp 80),(.tmp 81)],some (78,true),524287⟩,⟨some 83,.pick (.tmp 78) (.tmp 82) (.const (.bool false)),some (70,false),1048575⟩,qd 84 (.pick (.tmp 70) (.const (.bool true)) (.tmp 83)) 2097151,qw 6 84 4194303] true) (.ret)) (.seq (.ops [q 86 (.bin .eql (.tmp 8) (.const (.int .i64 9))),qm 85 86] false) (.cond (.tmp 85) (.seq (.ops [q 87 (.load1 (.tmp 2)),q 88 (.faddr 2 (.tmp 4)),qd 89 (.load1 (.tmp 88)) 2,qd 90 (.iaddr 3 (.tmp 89) (.const (.int .i64 1))) 6,qd 91 (.loadA 3 (.tmp 90)) 14,qm 92 1,qd 93 (.callv (.tmp 87) [(.tmp 91),(.tmp 92)]) 63,qw 94 93 127,⟨some 95,.load1 (.tmp 2),some (94,true),255⟩,⟨some 96,.faddr 2 (.tmp 4),some (94,true),255⟩,⟨some 97,.load1 (.tmp 96),some (94,true),767⟩,⟨some 98,.iaddr 3 (.tmp 97) (.const (.int .i64 0)),some (94,true),1791⟩,⟨some 99,.loadA 3 (.tmp 98),some (94,true),3839⟩,⟨some 100,.move (.tmp 1),some (94,true),255⟩,⟨some 101,.callv (.tmp 95) [(.tmp 99),(.tmp 100)],some (94,true),16383⟩,⟨some 102,.move (.tmp 101),some (94,true),32767⟩,⟨some 103,.load1 (.tmp 3),some (102,false),65535⟩,⟨some 104,.loadA 3 (.tmp 4),some (102,false),65535⟩,⟨some 105,.move (.tmp 1),some (102,false),65535⟩,⟨some 106,.callv (.tmp 103) [(.tmp 104),(.tmp 105)],some (102,false),524287⟩,⟨some 107,.pick (.tmp 102) (.const (.bool true)) (.tmp 106),some (94,true),1048575⟩,qd 108 (.pick (.tmp 94) (.tmp 107) (.const (.bool false))) 2097151,qw 6 108 4194303] true) (.ret)) (.skip))))))))))))))) (.seq (.ops [q 109 (.load1 (.tmp 3)),q 110 (.loadA 3 (.tmp 4)),qm 111 1,q 112 (.callv (.tmp 109) [(.tmp 110),(.tmp 111)]),qm 6 112] false) (.ret)))
theorem c56_ok : FunOK Tryz.prog 56 113 [.tmp 6] c56:=⟨⟨Tryz.f56,Tryz.func56,rfl,by kernel_rfl,rfl,by kernel_rfl⟩⟩
def chD (E : List Tree) : D:=.ipt [.fn (.func 52) [] [elD E]]
theorem zbj (E : List Tree) : Pure (chD E):=by simp [chD,elD,Pure,zao,zat]
theorem tab_same (f : Tree) (hf : Small f) (g : Tree) : PCall Tryz.prog 54 [za7 g,.ipt (drow f)] (.sc (.bool (eqT f g))):=by
 refine zag c54_ok (by simp) (by simp [zao,Pure,zap,zar]) ?_ (by simp [Pure])
 (apply zac; focus (repeat' constructor))
 ((conv=>whnf);repeat(refine⟨rfl,?_⟩;conv=>whnf))
 (refine .inl ⟨_,(zh3 f g hf),?_⟩; ((conv=>whnf);repeat(refine⟨rfl,?_⟩;conv=>whnf)))
 exact .refl _
theorem zmX (A : List Int) (P : List Tree) (hf : A.length + P.length≤10) (g : Tree) (hs : Small g) (hT : Told A P g) (hw : g.wf zaE) (hk : g.kind = 3∨g.kind = 7∨g.kind = 8∨g.kind = 9) (s : Nat) :
  PCall Tryz.prog 52 [za7 g,.sc (.int .i64 s),elD (zaO A ++ P)] (.sc (.bool (chE A P s g))):=by
 obtain ⟨h1,h2⟩:=pos_el hT hw hk
 refine zag c52_ok (by simp) (by simp [zao,Pure,elD,zap,zat]) ?_ (by simp [Pure])
 have hi:=zgC (zaO A ++ P) (by simp; omega) (eqT g) 54 [.ipt (drow g)] (by simp [zao,Pure,zar]) fun a _=>tab_same g hs a
 rw [h1] at hi
 have e : chE A P s g = s.testBit (posE A P g):=rfl
 rw [e,← znM s (posE A P g) (by omega)]
 unfold elD
 (apply zac; focus (repeat' constructor))
 ((conv=>whnf);repeat(refine⟨rfl,?_⟩;conv=>whnf))
 (refine .inr (.inl ⟨_,_,(by (repeat' (first | exact Deep.refl _ | exact Deep.none _ | exact zaF _ | exact DeepL.nil | exact DeepLL.nil | refine Deep.agg _ _ ?_ | refine Deep.tup _ _ ?_ | refine Deep.own _ _ _ _ _ _ _ _ rfl ?_ | refine Deep.loc _ _ _ _ _ rfl ?_ | refine Deep.ifc _ _ _ ?_ | refine Deep.fn _ _ _ _ _ ?_ ?_ | refine DeepL.cons _ _ _ _ ?_ ?_ | refine DeepLL.cons _ _ _ _ ?_ ?_ | exact zaq _))),hi,rfl,?_⟩); ((conv=>whnf);repeat(refine⟨rfl,?_⟩;conv=>whnf)))
 refine ⟨by omega,?_⟩
 ((conv=>whnf);repeat(refine⟨rfl,?_⟩;conv=>whnf))
 refine ⟨by omega,?_⟩
 ((conv=>whnf);repeat(refine⟨rfl,?_⟩;conv=>whnf))
 exact .refl _
def isF (E : List Tree) (m : Nat) : D:=.fn (.func 56) [] [.loc m 0,chD E]
theorem tab_is (A : List Int) (P : List Tree) (hI : TabI A P) (s : Nat) : ∀ g : Tree,g.wf pKids→Told A P g →
  ACall Tryz.prog 56 [za7 g,.sc (.int .i64 s),.loc 0 0,chD (zaO A ++ P)] [.row true [isF (zaO A ++ P) 0]] (.sc (.bool (zaS (chE A P s) g))) [.row true [isF (zaO A ++ P) 0]]:=by
 intro f
 induction f using Tree.ind with
 | h f ih =>
  intro hwf hT
  have hs:=zd9 f (wf_p hwf)
  have hsz:=hs.width
  have hK:=zks hwf
  have hE:=zkL (chE A P s) f
  have hch:=fun hk=>zmX A P hI.few f hs hT (wf_p hwf) hk s
  have hcp:=zbj (zaO A ++ P)
  refine zcm c56_ok (by simp) (by simp) ?_ trivial
  have ha : ∀ j,j < f.width→(f.kids.map (zaS (chE A P s))).getD j false = zaS (chE A P s) (f.kid j):=fun j hj=>zkU _ hj
  have hR : ∀ j,(hj : j < f.width)→ARead Tryz.prog 56 [za7 (f.kid j),.sc (.int .i64 s),.loc 0 0,chD (zaO A ++ P)] [.row true [isF (zaO A ++ P) 0],.row true (drow f)] (.sc (.bool (zaS (chE A P s) (f.kid j)))) [0]:=fun j hj =>
   zl4 (ih j hj (zbB hwf hj) (hT.kid hj)) [0] rfl (by simp) (by simp [zae,zai,zaf _ (zap _),zaf _ hcp]) (by simp [zbg,AObj.under,isF,zae,zai,zaf _ hcp]) (by simp [renL,D.ren,zbE _ hcp]) (by simp [D.ren]) (fun i o ho=>by
    match i,ho with
    | 0,ho=>cases ho; simp [AObj.ren,isF,renL,D.ren,zbE _ hcp]
    | i + 1,ho=>simp at ho) 0 (by simp) rfl (by simp) (by simp)
  have hbu : ∀ o∈[AObj.row true [isF (zaO A ++ P) 0]],o.under 1:=fun o ho=>by rw [List.mem_singleton] at ho; subst ho; simp [AObj.under,isF,zae,zai,zaf _ hcp]
  have fin : ∀ {b : Bool},b = zeN f.kind (chE A P s f) (f.kids.map (zaS (chE A P s)))→endD (.sc (.bool (zaS (chE A P s) f))) [.row true [isF (zaO A ++ P) 0]] (.sc (.bool b)) [.row true [isF (zaO A ++ P) 0],.row true (drow f)]:=fun h=>by
   rw [hE,h]
   exact ⟨.refl _,zaK [_] [_] hbu⟩
  unfold isF at *
  (apply zac; focus (repeat' constructor))
  ((conv=>whnf);repeat(refine⟨rfl,?_⟩;conv=>whnf))
  (refine zab (fun h1=>?_) (fun h1=>?_) <;> (rw [h1]; ((conv=>whnf);repeat(refine⟨rfl,?_⟩;conv=>whnf))))
  ·have h1 : f.kind = 1:=by simpa using h1
   refine fin ?_; rw [h1]; rfl
  (refine zab (fun h2=>?_) (fun h2=>?_) <;> (rw [h2]; ((conv=>whnf);repeat(refine⟨rfl,?_⟩;conv=>whnf))))
  ·have h2 : f.kind = 2:=by simpa using h2
   rw [h2]
   refine fin ?_; rw [h2]; rfl
  (refine zab (fun h4=>?_) (fun h4=>?_) <;> (rw [h4]; ((conv=>whnf);repeat(refine⟨rfl,?_⟩;conv=>whnf))))
  ·have h4 : f.kind = 4:=by simpa using h4
   have w0 : 0 < f.width:=by omega
   have e0:=ha 0 w0
   refine ⟨by omega,_,zaZ w0,?_⟩; ((conv=>whnf);repeat(refine⟨rfl,?_⟩;conv=>whnf))
   (refine .inr (.inr (.inr (.inr (.inr (.inr ⟨_,_,(hR 0 w0),?_⟩))))); ((conv=>whnf);repeat(refine⟨rfl,?_⟩;conv=>whnf)))
   refine fin ?_; rw [h4,← e0]; rfl
  (refine zab (fun h5=>?_) (fun h5=>?_) <;> (rw [h5]; ((conv=>whnf);repeat(refine⟨rfl,?_⟩;conv=>whnf))))
  ·have h5 : f.kind = 5:=by simpa using h5
   have w0 : 0 < f.width:=by omega
   have w1 : 1 < f.width:=by omega
   have e0:=ha 0 w0
   have e1:=ha 1 w1
   have r0:=hR 0 w0
   have r1:=hR 1 w1
   rw [h5] at fin
   unfold zeN at fin
   rw [← e0] at r0
   rw [← e1] at r1
   generalize (f.kids.map (zaS (chE A P s))).getD 0 false = b0 at *
   generalize (f.kids.map (zaS (chE A P s))).getD 1 false = b1 at *
   refine ⟨by omega,_,zaZ w0,?_⟩; ((conv=>whnf);repeat(refine⟨rfl,?_⟩;conv=>whnf))
   (refine .inr (.inr (.inr (.inr (.inr (.inr ⟨_,_,r0,?_⟩))))); ((conv=>whnf);repeat(refine⟨rfl,?_⟩;conv=>whnf)))
   cases b0
   ·((conv=>whnf);repeat(refine⟨rfl,?_⟩;conv=>whnf))
    refine fin ?_; simp
   ·((conv=>whnf);repeat(refine⟨rfl,?_⟩;conv=>whnf))
    refine ⟨by omega,_,zaZ w1,?_⟩; ((conv=>whnf);repeat(refine⟨rfl,?_⟩;conv=>whnf))
    (refine .inr (.inr (.inr (.inr (.inr (.inr ⟨_,_,r1,?_⟩))))); ((conv=>whnf);repeat(refine⟨rfl,?_⟩;conv=>whnf)))
    refine fin ?_; simp
  (refine zab (fun h6=>?_) (fun h6=>?_) <;> (rw [h6]; ((conv=>whnf);repeat(refine⟨rfl,?_⟩;conv=>whnf))))
  ·have h6 : f.kind = 6:=by simpa using h6
   have w0 : 0 < f.width:=by omega
   have w1 : 1 < f.width:=by omega
   have e0:=ha 0 w0
   have e1:=ha 1 w1
   have r0:=hR 0 w0
   have r1:=hR 1 w1
   rw [h6] at fin
   unfold zeN at fin
   rw [← e0] at r0
   rw [← e1] at r1
   generalize (f.kids.map (zaS (chE A P s))).getD 0 false = b0 at *
   generalize (f.kids.map (zaS (chE A P s))).getD 1 false = b1 at *
   refine ⟨by omega,_,zaZ w0,?_⟩; ((conv=>whnf);repeat(refine⟨rfl,?_⟩;conv=>whnf))
   (refine .inr (.inr (.inr (.inr (.inr (.inr ⟨_,_,r0,?_⟩))))); ((conv=>whnf);repeat(refine⟨rfl,?_⟩;conv=>whnf)))
   cases b0
   ·((conv=>whnf);repeat(refine⟨rfl,?_⟩;conv=>whnf))
    refine ⟨by omega,_,zaZ w1,?_⟩; ((conv=>whnf);repeat(refine⟨rfl,?_⟩;conv=>whnf))
    (refine .inr (.inr (.inr (.inr (.inr (.inr ⟨_,_,r1,?_⟩))))); ((conv=>whnf);repeat(refine⟨rfl,?_⟩;conv=>whnf)))
    refine fin ?_; simp
   ·((conv=>whnf);repeat(refine⟨rfl,?_⟩;conv=>whnf))
    refine fin ?_; simp
  (refine zab (fun h8=>?_) (fun h8=>?_) <;> (rw [h8]; ((conv=>whnf);repeat(refine⟨rfl,?_⟩;conv=>whnf))))
  ·have h8 : f.kind = 8:=by simpa using h8
   have w0 : 0 < f.width:=by omega
   have w1 : 1 < f.width:=by omega
   have e0:=ha 0 w0
   have e1:=ha 1 w1
   have r0:=hR 0 w0
   have r1:=hR 1 w1
   rw [h8] at fin
   unfold zeN at fin
   rw [← e0] at r0
   rw [← e1] at r1
   generalize (f.kids.map (zaS (chE A P s))).getD 0 false = b0 at *
   generalize (f.kids.map (zaS (chE A P s))).getD 1 false = b1 at *
   refine ⟨by omega,_,zaZ w1,?_⟩; ((conv=>whnf);repeat(refine⟨rfl,?_⟩;conv=>whnf))
   (refine .inr (.inr (.inr (.inr (.inr (.inr ⟨_,_,r1,?_⟩))))); ((conv=>whnf);repeat(refine⟨rfl,?_⟩;conv=>whnf)))
   cases b1
   ·((conv=>whnf);repeat(refine⟨rfl,?_⟩;conv=>whnf))
    refine ⟨by omega,_,zaZ w0,?_⟩; ((conv=>whnf);repeat(refine⟨rfl,?_⟩;conv=>whnf))
    (refine .inr (.inr (.inr (.inr (.inr (.inr ⟨_,_,r0,?_⟩))))); ((conv=>whnf);repeat(refine⟨rfl,?_⟩;conv=>whnf)))
    cases b0
    ·((conv=>whnf);repeat(refine⟨rfl,?_⟩;conv=>whnf))
     refine fin ?_; simp
    ·((conv=>whnf);repeat(refine⟨rfl,?_⟩;conv=>whnf))
     (refine .inl ⟨_,(hch (by omega)),?_⟩; ((conv=>whnf);repeat(refine⟨rfl,?_⟩;conv=>whnf)))
     refine fin ?_; simp
   ·((conv=>whnf);repeat(refine⟨rfl,?_⟩;conv=>whnf))
    refine fin ?_; simp
  (refine zab (fun h9=>?_) (fun h9=>?_) <;> (rw [h9]; ((conv=>whnf);repeat(refine⟨rfl,?_⟩;conv=>whnf))))
  ·have h9 : f.kind = 9:=by simpa using h9
   have w0 : 0 < f.width:=by omega
   have w1 : 1 < f.width:=by omega
   have e0:=ha 0 w0
   have e1:=ha 1 w1
   have r0:=hR 0 w0
   have r1:=hR 1 w1
   rw [h9] at fin
   unfold zeN at fin
   rw [← e0] at r0
   rw [← e1] at r1
   generalize (f.kids.map (zaS (chE A P s))).getD 0 false = b0 at *
   generalize (f.kids.map (zaS (chE A P s))).getD 1 false = b1 at *
   refine ⟨by omega,_,zaZ w1,?_⟩; ((conv=>whnf);repeat(refine⟨rfl,?_⟩;conv=>whnf))
   (refine .inr (.inr (.inr (.inr (.inr (.inr ⟨_,_,r1,?_⟩))))); ((conv=>whnf);repeat(refine⟨rfl,?_⟩;conv=>whnf)))
   cases b1
   ·((conv=>whnf);repeat(refine⟨rfl,?_⟩;conv=>whnf))
    refine fin ?_; simp
   ·((conv=>whnf);repeat(refine⟨rfl,?_⟩;conv=>whnf))
    refine ⟨by omega,_,zaZ w0,?_⟩; ((conv=>whnf);repeat(refine⟨rfl,?_⟩;conv=>whnf))
    (refine .inr (.inr (.inr (.inr (.inr (.inr ⟨_,_,r0,?_⟩))))); ((conv=>whnf);repeat(refine⟨rfl,?_⟩;conv=>whnf)))
    cases b0
    ·((conv=>whnf);repeat(refine⟨rfl,?_⟩;conv=>whnf))
     (refine .inl ⟨_,(hch (by omega)),?_⟩; ((conv=>whnf);repeat(refine⟨rfl,?_⟩;conv=>whnf)))
     refine fin ?_; simp
    ·((conv=>whnf);repeat(refine⟨rfl,?_⟩;conv=>whnf))
     refine fin ?_; simp
  have h3 : f.kind = 3∨f.kind = 7:=by
   simp only [beq_eq_false_iff_ne] at h1 h2 h4 h5 h6 h8 h9
   omega
  (refine .inl ⟨_,(hch (by omega)),?_⟩; ((conv=>whnf);repeat(refine⟨rfl,?_⟩;conv=>whnf)))
  refine fin ?_; rcases h3 with h3 | h3 <;> rw [h3] <;> rfl
end
section
open Go.RowKit
def curG {α : Type} (N : Nat) (T : Nat→List α) (k : Nat) (c : List α) : List (List α):=(List.range N).map fun i=>if i < k then T i else if i = k then c else []
@[simp] theorem curG_len {α : Type} (N : Nat) (T : Nat→List α) (k : Nat) (c : List α) : (curG N T k c).length = N:=by simp [curG]
theorem curG_at {α : Type} {N : Nat} {T : Nat→List α} {k : Nat} {c : List α} (h : k < N) : (curG N T k c).getD k [] = c:=by
 rw [List.getD_eq_getElem?_getD,List.getElem?_eq_getElem (by simpa using h)]; simp [curG]
theorem curG_set {α : Type} {N : Nat} {T : Nat→List α} {k : Nat} {c c' : List α} (h : k < N) : (curG N T k c).set k c' = curG N T k c':=by
 refine List.ext_getElem? fun i=>?_
 rw [List.getElem?_set]
 by_cases e : k = i
 ·subst e
  rw [if_pos rfl,if_pos (by simpa using h),List.getElem?_eq_getElem (by simpa using h)]
  simp [curG]
 ·rw [if_neg e]
  by_cases hi : i < N
  ·rw [List.getElem?_eq_getElem (by simpa using hi),List.getElem?_eq_getElem (by simpa using hi)]
   simp only [curG,List.getElem_map,List.getElem_range]
   congr 1
   by_cases q : i < k
   ·rw [if_pos q,if_pos q]
   ·rw [if_neg q,if_neg q,if_neg (fun z=>e z.symm),if_neg (fun z=>e z.symm)]
  ·rw [List.getElem?_eq_none (by simp; omega),List.getElem?_eq_none (by simp; omega)]
theorem zop {α : Type} {N : Nat} {T : Nat→List α} {k : Nat} {c : List α} (hc : c = T k) : curG N T k c = curG N T (k + 1) []:=by
 subst hc
 unfold curG
 refine List.map_congr_left fun i _=>?_
 by_cases q : i < k
 ·rw [if_pos q,if_pos (by omega)]
 ·rw [if_neg q]
  by_cases e : i = k
  ·subst e; rw [if_pos rfl,if_pos (by omega)]
  ·rw [if_neg e,if_neg (by omega)]; split <;> rfl
theorem zpi {α : Type} (N : Nat) (T : Nat→List α) : curG N T 0 [] = List.replicate N []:=by
 refine List.ext_getElem? fun i=>?_
 by_cases h : i < N
 ·rw [List.getElem?_eq_getElem (by simpa using h),List.getElem?_eq_getElem (by simpa using h)]
  simp [curG]
 ·rw [List.getElem?_eq_none (by simp; omega),List.getElem?_eq_none (by simp; omega)]
theorem zoz {α : Type} (N : Nat) (T : Nat→List α) (c : List α) : curG N T N c = (List.range N).map T:=by
 unfold curG
 exact List.map_congr_left fun i hi=>if_pos (List.mem_range.1 hi)
def elL (A : List Int) (P : List Tree) : List Tree:=zaO A ++ P
@[simp] theorem zcH (A : List Int) (P : List Tree) : (elL A P).length = A.length + P.length:=by simp [elL]
theorem zjp {A : List Int} {P : List Tree} {i : Nat} (h : i < A.length) : (elL A P).getD i default = zdX (A.getD i 0):=by
 unfold elL zaO
 rw [List.getD_eq_getElem?_getD,List.getElem?_append_left (by simpa using h),List.getElem?_map,List.getElem?_eq_getElem h,List.getD_eq_getElem?_getD,List.getElem?_eq_getElem h]
 rfl
theorem zjy {A : List Int} {P : List Tree} {i : Nat} (h : A.length≤i) : (elL A P).getD i default = P.getD (i - A.length) default:=by
 unfold elL
 rw [List.getD_eq_getElem?_getD,List.getElem?_append_right (by simpa using h),List.getD_eq_getElem?_getD]
 simp
theorem TabI.el {A : List Int} {P : List Tree} (hI : TabI A P) {i : Nat} (h : i < A.length + P.length) : ((elL A P).getD i default).wf pKids∧Told A P ((elL A P).getD i default)∧(((elL A P).getD i default).kind = 3↔i < A.length)∧(((elL A P).getD i default).kind = 3∨((elL A P).getD i default).kind = 7∨((elL A P).getD i default).kind = 8∨((elL A P).getD i default).kind = 9):=by
 by_cases q : i < A.length
 ·rw [zjp q]
  have hr:=hI.atoms _ (zaM q)
  have hmem:=zaM q
  generalize A.getD i 0 = n at *
  refine ⟨zhn ?_ (by simp),⟨?_,?_⟩,⟨fun _=>q,fun _=>rfl⟩,.inl rfl⟩
  ·unfold zbb
   have e1 : (Tree.node 3 n []).kind = 3:=rfl
   have e2 : (Tree.node 3 n []).num = n:=rfl
   have e3 : (Tree.node 3 n []).width = 0:=rfl
   rw [e1,e2,e3]
   simp [pKids,zaE]
   omega
  ·intro x hx
   rw [show zaB (zdX n) = [n] from by simp [zdX,mk0,zaB,zax]] at hx
   rw [List.mem_singleton] at hx
   subst hx
   exact hmem
  ·intro x hx
   rw [show zaC (zdX n) = [] from by simp [zdX,mk0,zaC,zau]] at hx
   cases hx
 ·rw [zjy (by omega)]
  have hg:=zhU (P:=P) (k:=i - A.length) (by omega)
  obtain ⟨h1,h2⟩:=hI.wf _ hg
  exact ⟨h1,hI.told _ hg,⟨fun h3=>by omega,fun h3=>absurd h3 q⟩,.inr h2⟩
noncomputable def rk (A : List Int) (P : List Tree) (s i : Nat) : Bool:=zaS (chE A P s) (zhk ((elL A P).getD i default))
noncomputable def zcb (A : List Int) (P : List Tree) (s k : Nat) : List Bool:=(List.range k).map (rk A P s)
theorem znj (A : List Int) (P : List Tree) (s k : Nat) : zcb A P s (k + 1) = zcb A P s k ++ [rk A P s k]:=by simp [zcb,List.range_succ]
@[simp] theorem zn9 (A : List Int) (P : List Tree) (s k : Nat) : (zcb A P s k).length = k:=by simp [zcb]
noncomputable def rOk (A : List Int) (P : List Tree) (s t k : Nat) : Bool:=(List.range k).all fun i=>decide (i < A.length) || (rk A P t i == s.testBit i)
theorem zjO (A : List Int) (P : List Tree) (s t k : Nat) : rOk A P s t (k + 1) = (rOk A P s t k && (decide (k < A.length) || (rk A P t k == s.testBit k))):=by
 unfold rOk
 rw [List.range_succ,List.all_append]
 simp
theorem rOk_all (A : List Int) (P : List Tree) {s t : Nat} (hs : s < 2 ^ (A.length + P.length)) : rOk A P s t (A.length + P.length) = (zga A P t == s / 2 ^ A.length):=by
 rw [kept_iff A P s t hs]
 unfold rOk
 rw [Bool.eq_iff_iff,List.all_eq_true,List.all_eq_true]
 have hk : ∀ i,rk A P t (A.length + i) = hK A P t i:=fun i=>by unfold rk hK; rw [zjy (by omega),Nat.add_sub_cancel_left]
 constructor
 ·intro h i hi
  have hi:=List.mem_range.1 hi
  have:=h (A.length + i) (List.mem_range.2 (by omega))
  rw [hk,decide_eq_false (show ¬ A.length + i < A.length by omega),Bool.false_or] at this
  exact this
 ·intro h i hi
  have hi:=List.mem_range.1 hi
  by_cases q : i < A.length
  ·simp [q]
  ·have:=h (i - A.length) (List.mem_range.2 (by omega))
   rw [← hk,show A.length + (i - A.length) = i by omega] at this
   rw [this]
   simp
theorem zmu {A : List Int} {P : List Tree} {s t k m : Nat} (h : rOk A P s t k = false) (hm : k≤m) : rOk A P s t m = false:=by
 induction m with
 | zero=>rw [show k = 0 by omega] at h; exact h
 | succ m ih =>
  by_cases e : k = m + 1
  ·subst e; exact h
  ·rw [zjO,ih (by omega),Bool.false_and]
def zeZ (A : List Int) (s : Nat) (is : Bool) (k : Nat) : Int:=zdk A s is (min k A.length)
theorem zfh {A : List Int} {s : Nat} {is : Bool} {k : Nat} (h : k < A.length) : zeZ A s is (k + 1) = if (s.testBit k == is) = true then zcW .or .u64 (zeZ A s is k) (2 ^ (A.getD k 0).toNat) else zeZ A s is k:=by
 unfold zeZ
 rw [Nat.min_eq_left (by omega),Nat.min_eq_left (by omega)]
 rfl
theorem zfx {A : List Int} {s : Nat} {is : Bool} {k : Nat} (h : A.length≤k) : zeZ A s is (k + 1) = zeZ A s is k:=by
 unfold zeZ
 rw [Nat.min_eq_right (by omega),Nat.min_eq_right (by omega)]
theorem zgh {A : List Int} {P : List Tree} {s : Nat} {is : Bool} : zeZ A s is (A.length + P.length) = zdk A s is A.length:=by
 unfold zeZ
 rw [Nat.min_eq_right (by omega)]
noncomputable def zcl (A : List Int) (P : List Tree) (k : Nat) : List (List Int):=zcG A P (A.length + P.length) (k - A.length)
theorem zna {A : List Int} {P : List Tree} {k : Nat} (h : k < A.length) : zcl A P (k + 1) = zcl A P k:=by
 unfold zcl
 rw [show k + 1 - A.length = 0 by omega,show k - A.length = 0 by omega]
theorem zm2 {A : List Int} {P : List Tree} {k : Nat} (h : A.length≤k) (hk : k < A.length + P.length) : zcl A P (k + 1) = if ((elL A P).getD k default).kind = 7 then zcl A P k else zcl A P k ++ [setE A P (A.length + P.length) ((elL A P).getD k default)]:=by
 unfold zcl
 rw [show k + 1 - A.length = k - A.length + 1 by omega,zij A P _ (show k - A.length < P.length by omega),zjy h]
theorem znu (A : List Int) (P : List Tree) (k : Nat) : (zcl A P k).length≤k:=Nat.le_trans (zfk ..) (Nat.sub_le ..)
def zdn (b : Bool) : List D:=[.sc (.bool b)]
@[simp] theorem zh4 {m : Nat} (b : Bool) : zae m (zdn b):=by simp [zdn,zae,zai]
theorem zbu (L : List (List Bool)) : zbd (L.map fun l=>[D.lst 1 (l.map zdn)]):=zas _ (fun l=>by simp only [zao,Pure,and_true]; exact zas _ (fun b=>by simp [zdn,zao,Pure]) l) L
noncomputable def nxR (A : List Int) (P : List Tree) (s k : Nat) : List Int:=zbC (fun t=>rOk A P s t (A.length + P.length)) k
theorem zmi (A : List Int) (P : List Tree) (s k : Nat) : nxR A P s (k + 1) = if rOk A P s k (A.length + P.length) = true then nxR A P s k ++ [(k : Int)] else nxR A P s k:=zcE _ _
theorem znJ (A : List Int) (P : List Tree) (s k : Nat) : (nxR A P s k).length≤k:=zb0 _ _
theorem nxR_all {A : List Int} {P : List Tree} {s : Nat} (hs : s < 2 ^ (A.length + P.length)) : nxR A P s (2 ^ (A.length + P.length)) = zir A P (A.length + P.length) s:=by
 unfold nxR zir
 congr 1
 funext t
 exact rOk_all A P hs
theorem znG {A : List Int} {P : List Tree} {N n z t : Nat} (hz : z = t) (ht : t < N) : (((List.range N).map fun s=>zcb A P s n).map fun l=>[D.lst 1 (l.map zdn)])[z]? = some [D.lst 1 ((zcb A P t n).map zdn)]:=by
 subst hz
 rw [List.getElem?_map,List.getElem?_map,List.getElem?_range ht]; rfl
theorem rkc_at {A : List Int} {P : List Tree} {t n z i : Nat} (hz : z = i) (hi : i < n) : ((zcb A P t n).map zdn)[z]? = some [D.sc (.bool (rk A P t i))]:=by
 subst hz
 unfold zcb
 rw [List.getElem?_map,List.getElem?_map,List.getElem?_range hi]; rfl
end
end Go.Proofs.YtojegakfidinaaaGreat
