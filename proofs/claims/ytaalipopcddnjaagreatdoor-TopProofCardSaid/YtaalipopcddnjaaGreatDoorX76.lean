/-
  watchtop.TopProof returns true for every process, rule and bounds, and each argument reads afterwards as it read before. The condition: the variables unicode/utf8.acceptRanges and unicode/utf8.first hold what the program's text lays (the walk reads neither).
-/
import Derived.Test.YtaalipopcddnjaaGreatDoorX71
import Derived.Test.YtaalipopcddnjaaGreatDoorX74
import Derived.Test.YtaalipopcddnjaaGreatDoorX75
import Derived.Test.YtaalipopcddnjaaGreatDoorRows
import Derived.Test.YtaalipopcddnjaaGreatDoorTie
import Derived.Test.YtaalipopcddnjaaGreatDoorCards
import Derived.Test.YtaalipopcddnjaaGreatDoorX70
namespace Go.Proofs.YtaalipopcddnjaaGreatDoor
set_option linter.unusedSimpArgs false
set_option linter.unusedVariables false
set_option maxRecDepth 100000
set_option linter.unusedSectionVars false
open Go.RowKit
section
open Go.RowKit Go.ChangeShapes Go.WideShapes Go.ChangeAt
section
variable{P:ah}(hP:P.Fits){tok st:Int}{name:aM}{sort:Int}{x:cc}{k a b c:Int}{f g:Tree}(hf:Small f)
variable{s l:af}
theorem zvf{B:Bool}{E:Int}(hJ:ar aj 5 [cH P,cQ name sort x k a b c f g,ab tok,ab st] (.aJ [jc B s l,ab E]))(hq:¬(E=0/\B=false/\sort≠4)) :
  ar aj 3 [cH P,cQ name sort x k a b c f g,ab tok,ab st] (tc true):=by
 have hS:=MT;unfold tc at hS;refine bz fZ ?_;unfold cH ah.cells cQ jF cm jf bx jc aL at *;refine sR ?_;refine sC hS ?_;refine sC hJ ?_;by_cases hE:E=0
 ·subst hE;refine sW ?_;cases B
  ·have h4:sort=4:=Classical.byContradiction λz=>hq ⟨rfl,rfl,z⟩;refine sW ?_;rw[gG h4];refine sW ?_;exact .refl _
  refine sW ?_;exact .refl _
 rw[show(E != 0)=true by simpa using hE];refine sW ?_;exact .refl _
include hP hf in
theorem zvK(hJ:ar aj 5 [cH P,cQ name sort x k a b c f g,ab tok,ab st] (.aJ [jc false s l,ab 0]))(h4:sort≠4)(hr:gW sort x k a b c f=0)(hp:OD P (cz sort x k a b c f) s l)(ko:60000<s.length+l.length)(Dl:s.length<=1000000000/\l.length<=1000000000) :
  ar aj 3 [cH P,cQ name sort x k a b c f g,ab tok,ab st] (tc true):=by
 have hS:=MT;have hM:=HJ name sort x k a b c f g hf;obtain⟨n,hn,hz,hs⟩:=ah.YF (P.gL<|s++l)<|s.length+l.length;have E1:P.mS s l n=2:=by
  unfold ah.mS;rw[aa<|by have:=hp.steps;omega,aa<|by have:=hp.some_;omega,ae ko]
 have Jw:=znl P hP false s l zo n hn hz hs (cz sort x k a b c f) (OF _ _ _ _ _ _ _ hf) 2 (by rw[E1];rfl) zc;unfold oe at hM;rw[ae hr,hr] at hM;generalize cz sort x k a b c f=T at *;clear hp hz hs E1 hr;refine bz fZ ?_;unfold tc cH ah.cells cQ jF cm jf bn bx jc aL at *;refine sR ?_;refine sC hS ?_;refine sC hJ ?_;rw[dz h4];refine sW ?_;refine sC hM ?_;refine sC Jw ?_;rw[aS,aS];refine sI ?_;rw[show decide (((s.length:Int)+l.length)>60000)=true from gb zo];exact .refl _
include hP hf in
theorem zzZ(hJ:ar aj 5 [cH P,cQ name sort x k a b c f g,ab tok,ab st] (.aJ [jc false s l,ab 0]))(h4:sort≠4)(hr:gW sort x k a b c f=0)(hp:OD P (cz sort x k a b c f) s l)
  (ko:s.length+l.length<=60000) (Mh:∀j,j<s.length+l.length->P.gL (s++l) j=0) (E1:P.mS s l (s.length+l.length)=0) :
  ar aj 3 [cH P,cQ name sort x k a b c f g,ab tok,ab st] (tc true):=by
 have hS:=MT;have hM:=HJ name sort x k a b c f g hf;have FH:=N8 hr;have df:=((qo _ _).1 FH).2.2;have hV:nL P s l:=⟨hp.steps,ko,hp.some_,Mh⟩;have pW:=Je (L:=P.aC) (l:=s)<|OZ hp.steps;have oi:=Je (L:=P.aC) (l:=l)<|OZ hp.steps;have wY:=λi=>FQ (s:=dd P.aC s) (l:=dd P.aC l) pW oi i;have BA:1<=(dd P.aC l).length:=by rw[Mi];exact hp.some_
 have cJ:dU (dd P.aC s) (dd P.aC l) (cz sort x k a b c f) 0=false:=by
  have:=OQ BA wY _ df 0;rw[AM zo] at this;cases q:dU (dd P.aC s) (dd P.aC l) (cz sort x k a b c f) 0
  ·rfl
  exact absurd (this.2 q) hp.not
 have Jw:=ZK P hP false s l ko _ (aI _) Mh (.inl rfl) (cz sort x k a b c f) (OF _ _ _ _ _ _ _ hf) E1 FH;have B9:P.H9 s l<|cz sort x k a b c f:=by unfold ah.H9;rw[hp.fair,cJ];rfl
 rw[B9] at Jw;have hW:=zyf P hP false s l hV;have hC:=D3 (dd P.aC s)<|dd P.aC l;unfold oe at hM;rw[ae hr,hr] at hM;have zIv:sort=1\/sort=2\/sort=3:=by
  unfold gW at hr;by_cases q1:sort=1
  ·exact .inl q1
  rw[aa q1] at hr;by_cases q2:sort=2
  ·exact .inr (.inl q2)
  rw[aa q2] at hr;by_cases q3:sort=3
  ·exact .inr (.inr q3)
  rw[aa q3] at hr;cases hr
 have h1:sort=1->mV (dd P.aC s) (dd P.aC l)=0->ar aj 10 [iS x,kV (dd P.aC s)<|dd P.aC l] (.aJ [aF false,ab 0]):=λq hw=>by
  have y8:cz sort x k a b c f=gI x:=(by unfold cz;rw[ae q]);have hx:fo x=0:=by
   unfold gW at hr;rw[ae q] at hr;unfold qt at hr;split at hr
   ·assumption
   exact hr
  have TH:PW x (dd P.aC s)<|dd P.aC l:=⟨hx,hw,pW,oi⟩;have hm:=zsc x _ _ TH;rw[y8] at df;have JK:=zwr TH df wY;have Ay:=hp.not;rw[y8] at Ay;cases z:D7 x (dd P.aC s)<|dd P.aC l
  ·rw[z] at hm;exact hm
  exact absurd (JK.1 z) Ay
 have h2:sort=2->mV (dd P.aC s) (dd P.aC l)=0->ar aj 11 [oF k a b c,kV (dd P.aC s)<|dd P.aC l] (.aJ [aF false,ab 0]):=λq hw=>by
  have y8:cz sort x k a b c f=rb k a b c:=(by unfold cz;rw[aa zo,ae q]);have hx:kZ k a b c=0:=by
   unfold gW at hr;rw[aa zo,ae q] at hr;unfold CV at hr;split at hr
   ·assumption
   exact hr
  have Xe:TW k a b c (dd P.aC s)<|dd P.aC l:=⟨hx,hw,pW,oi⟩;have hm:=zuc k a b c _ _ Xe;rw[y8] at df;have JK:=ztS Xe df wY;have Ay:=hp.not;rw[y8] at Ay;cases z:De k a b c (dd P.aC s)<|dd P.aC l
  ·rw[z] at hm;exact hm
  exact absurd (JK.1 z) Ay
 have h3:sort=3->mV (dd P.aC s) (dd P.aC l)=0->∃tr:Nat->Bool,tr 0=false/\ar aj 12 [bn f,kV (dd P.aC s)<|dd P.aC l] (.aJ [bI ((dd P.aC s).length+(dd P.aC l).length) tr,ab 0]):=λq hw=>by
  have y8:cz sort x k a b c f=f:=(by unfold cz;rw[aa zo,aa zo]);rw[y8] at cJ FH;exact⟨_,cJ,zqo f hf _ _ pW oi FH hw⟩
 clear hp Mh E1 cJ B9 FH df hr hV wY pW oi;generalize cz sort x k a b c f=T at *;generalize dd P.aC s=ws at *;generalize dd P.aC l=wl at *;generalize mV ws wl=wc at *;refine bz fZ ?_;unfold tc cH ah.cells cQ jF cm jf oF iS cm bn bx jc aL kV rU at *;refine sR ?_;refine sC hS ?_;refine sC hJ ?_;rw[dz h4];refine sW ?_;refine sC hM ?_;refine sC Jw ?_;refine sC hW ?_;refine sC hC ?_;refine sS (λq=>?_) λq=>?_
 ·exact .refl _
 have q:wc=0:=sO;rcases zIv with r|r|r
 ·rw[gG r];refine sW ?_;refine sC (h1 r q) ?_;exact .refl _
 ·rw[dz<|show sort≠1 by omega];refine sW ?_;rw[gG r];refine sW ?_;refine sC (h2 r q) ?_;exact .refl _
 rw[dz<|show sort≠1 by omega];refine sW ?_;rw[dz<|show sort≠2 by omega];refine sW ?_;obtain⟨tr,t0,hH⟩:=h3 r q;refine sC hH ?_;refine sL (uY (i:=0) zo) ?_;rw[t0];exact .refl _
end
namespace topProof
theorem law:∀Ds,OfAs aj [25,37,3,3] Ds->ar aj 3 Ds (tc true)
 |[d1,d2,d3,d4],h=>by
  obtain⟨P,rfl,hP⟩:=zzn h.1;obtain⟨name,sort,x,k,a,b,c,f,g,rfl,iu,hf,hg⟩:=zzG h.2.1;obtain⟨tok,rfl,_⟩:=PH Tryz.underlying3 h.2.2.1;obtain⟨st,rfl,_⟩:=PH Tryz.underlying3 h.2.2.2.1;obtain⟨s,l,hJ,hA⟩:=zBk hP iu hf hg tok st sort x k a b c;generalize jE P tok st name sort x k a b c f g=E at *;generalize jB P tok st name sort x k a b c f g=B at *;by_cases hq:E=0/\B=false/\sort≠4
  ·obtain⟨rfl,rfl,h4⟩:=hq;obtain⟨hr,zN1⟩:=hA.raw rfl rfl h4;have hp:=zN1.proof ((qo _ _).1<|N8 hr).2.2;by_cases ko:s.length+l.length<=60000
   ·obtain⟨w1,w2⟩:=hA.way rfl rfl h4 ko;exact zzZ hP hf hJ h4 hr hp ko w1 w2
   exact zvK hP hf hJ h4 hr hp zo hA.room
  exact zvf hJ hq
theorem types:FZ aj [25,37,3,22,23,9,27,29,32,35,126,182,30,33]:=by kernel_rfl
theorem laidOut:laidOutB aj:=by kernel_rfl
theorem readable:(Tryz.f3.params.toList.all λt=>Tryz.prog.readableRec t&&decide (t<Tryz.prog.types.size))=true:=by kernel_rfl
theorem own:ownKnob Tryz.prog.godebug=none:=by kernel_rfl
theorem fok{W:aU}(_h:laidMetH aj Rows.topProofRow.laid W):FOK (py W) W:=⟨λb h=>h,λg cs hg=>absurd hg<|by simp[za],λg t s hg=>absurd hg<|by simp[UK]⟩
theorem lifted(os:Os)(started:os.Started)(H:Type)(enc:aY×aH->H) :
  ReturnsInHanded {} Tryz.checked os 3 .any (λw args=>(Rows.topProofSpec.pre enc aj Tryz.f3 Rows.topProofRow.domain false w args/\laidMetH aj Rows.topProofRow.laid w)/\sizedMet enc aj Tryz.f3 (OpenSpec.ofChange Rows.topProofSpec) false w args)
   (Rows.topProofSpec.post enc aj Tryz.f3 false true false false):=by
 refine returnsInHanded_of_change_and (C:=Tryz.checked) (X:=λw _=>laidMetH aj Rows.topProofRow.laid w) (λ_ _ _ hh h=>h.of_heap hh) own started (by kernel_rfl) Tryz.func3
  (ChangeSpec.witness_at (enc:=enc) (C:=Tryz.checked) (os:=os) (X:=λw _=>laidMetH aj Rows.topProofRow.laid w) false (World.laidAll aj os Rows.topProofRow.laid) #[.agg #[.slice none 0 0,.slice none 0 0],.agg #[.string ⟨#[]⟩,.int .i64 0,.int .i64 0,.int .i64 0,.int .i64 0,.int .i64 0,.int .i64 0,.int .i64 0,.int .i64 0,.int .i64 0,.int .i64 0,.int .i64 0,.int .i64 0,.int .i64 0,.int .i64 0,.slice none 0 0,.int .i64 0,.int .i64 0,.slice none 0 0],.int .i64 0,.int .i64 0] 8 (World.laidAll_os _ _ _) (by kernel_rfl) (by kernel_rfl) (by kernel_rfl) (by kernel_rfl) (by kernel_rfl)<|show laidMet _ _ _ from laidMet_laidAll _ (by kernel_rfl)<|by kernel_rfl) ?_
 intro W base args ds gs before YU hW _ gT hL _;have Av:∀(j:Nat) t v,Tryz.f3.params[j]? = some t->args[j]? = some v->Value.okWide aj W .any base t v:=YU;have YL:=hW;obtain⟨p,q,J7,hV,_,Vb,dO⟩:=hW;have hA:DataW.TrodAll enc aj W 0 (λ_=>true) true Tryz.f3.params.toList args.toList ds p:=J7;have nR:Tryz.f3.params.toList=[25,37,3,3]:=by kernel_rfl
 obtain⟨Ds,hD,hR⟩:=zvH types (base:=base) _ _ _ _ (λt ht=>by rw[nR] at ht;revert t;decide) (λj t v h1 h2=>Av j t v (by simpa using h1)<|by simpa using h2) hA λn hn=>by
  have:=kv.1 gT n<|Q7 _ _ _ _ (Kl _ _ _ _ hA).symm n hn;simpa using this
 rw[nR] at hD;have hC:=(law Ds hD).run jI (py W) W args.toList (fok hL) hR;rw[show args.toList.toArray=args from rfl] at hC;refine hC.mono λe W' ⟨v,F',he,_,hv,hx⟩=>?_;have lS:v=.bool true:=by simpa only[rep,tc] using hv
 subst he lS;exact⟨_,rfl,zxh YL rfl (by kernel_rfl) Tryz.underlying4 laidOut (λt ht=>by
   have:=kv.1 readable t ht;simp only[dL,c6] at this;exact this) (λds h=>by rw[nR] at h;match ds,h with|[_,_,_,_],_=>rfl) (zlE hx) (ok_one (by kernel_rfl) rfl (okWide_bool_mk Tryz.underlying4 _))⟩
theorem over:Rows.topProofRow.holds Tryz.pinned (OpenSpec.ofChange Rows.topProofSpec) :=
 OpenClaim.holds_of_wide 3 Tryz.f3 rfl rfl rfl rfl rfl rfl rfl ⟨rfl,rfl,rfl,rfl,rfl⟩ rfl rfl rfl rfl rfl (by kernel_rfl) Tryz.func3 (by kernel_rfl)
  (tk<|by kernel_rfl) (by unfold Func.isWrapper;first|(rw[ae<|by decide +kernel];kernel_rfl)|(rw[aa<|by decide +kernel];exact⟨rfl,rfl⟩))
  (λos started H enc _=>lifted os started H enc)
theorem proved:Rows.TopProofCardSaid :=
 Claim7.holds_tied_plain_at .later [] [.data, .pinned] true (true, "d5b3f9b1dac6635594a1ebfc38b52b4d486e8506e84f1145b28787d3f730c0e3") false
  over (λ_ h=>by cases h) (by kernel_rfl) (λ_ h=>by cases h) topProof_row_tie rfl ⟨rfl,rfl⟩ (by kernel_rfl) rfl
  (λf fn hf D6=>by
   obtain rfl : f = 3 := Option.some.inj ((show Tryz.prog.funcNamed "watchway/watchtop.TopProof" = some 3 by kernel_rfl).symm.trans hf) |>.symm
   obtain rfl:fn=Tryz.f3:=(oV<|Tryz.func3.symm.trans D6).symm;refine⟨by kernel_rfl,λj t ht=>?_⟩;have hm:t∈Tryz.f3.params.toList:=by
    rw[Array.mem_toList_iff];exact Array.mem_of_getElem? ht
   rw[show Tryz.f3.params.toList=[25,37,3,3] by kernel_rfl] at hm;have:=kv.1 (show([25,37,3,3]:List aY).all (λt=>!Tryz.prog.wantsStandIn t)=true by kernel_rfl) t hm;have h2:Tryz.prog.wantsStandIn t=false:=(by simpa using this);exact h2)
  (by kernel_rfl)
end topProof
end
end Go.Proofs.YtaalipopcddnjaaGreatDoor
