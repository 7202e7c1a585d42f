/-
  watchlaw.JudgeSays returns true for every process, rule and bounds, and each argument reads afterwards as it read before. No conditions.
-/
import Derived.Test.YtolilnhippapaaaGreatX71
import Derived.Test.YtolilnhippapaaaGreatX75
import Derived.Test.YtolilnhippapaaaGreatX74
import Derived.Test.YtolilnhippapaaaGreatRows
import Derived.Test.YtolilnhippapaaaGreatX70
namespace Go.Proofs.YtolilnhippapaaaGreat
set_option linter.unusedSimpArgs false
set_option linter.unusedVariables false
set_option maxRecDepth 100000
set_option linter.unusedSectionVars false
open Go.RowKit
section
open Go.RowKit Go.ChangeShapes Go.WideShapes Go.ChangeAt
section
variable{P:af}(hP:P.Fits){name:aX}{sort:Int}{x:cC}{k a b c:Int}{f g:Tree}
include hP in
theorem zxr{tok st E:Int}{B is kn:Bool}{s l:ah}(hJ:ar ai 4 [cm P,cK name sort x k a b c f g,aa tok,aa st] (.aI [oy B s l,aa E])){rE:Int}{T:Tree}(hA:uz P tok st sort rE T E B s l)
  (hR:ar ai 5 [cm P,cK name sort x k a b c f g,aa tok,aa st]<|kr is kn E) (hk:E=0->kn->is=B) :
  ar ai 3 [cm P,cK name sort x k a b c f g,aa tok,aa st] (EP true):=by
 obtain⟨r1,r2⟩:=hA.room;have hF:E=0->B=false->sort≠4->s.length+l.length<=60000->∃G,ar ai 6 [cm P,oy B s l] (.aI [G,aa 0]):=λa1 a2 a3 a4=>by
  obtain⟨b1,b2⟩:=hA.way a1 a2 a3 a4;have:=zoP P hP B s l zo zo (s.length+l.length) (aT _) b1 (.inl rfl);rw[b2] at this;exact⟨_,this⟩
 have VT:=hA.bad;have xL:=hA.fx;clear hA hP;refine bK fZ ?_;unfold cm af.cells cK jC cc iN aN oy aO kr at *;by_cases hE:E=0
 ·subst hE;have hk:=hk rfl;have xL:=xL rfl;have hF:=hF rfl;clear VT;refine sR ?_;refine sC hJ ?_;refine sC hR ?_;have hB:kn=true->(!(B==is))=false:=λq=>by rw[hk q];simp
  cases kn
  ·refine sW ?_;by_cases h4:sort=4
   ·obtain⟨rfl,rfl⟩:=xL (.inr h4);cases B
    ·refine sW ?_;rw[gI h4];refine sW ?_;rw[gm,bU];refine sI ?_;exact .refl _
    refine sW ?_;rw[gm,bU];refine sI ?_;exact .refl _
   cases B
   ·refine sW ?_;rw[dr h4];refine sW ?_;rw[aK,aK];refine sI ?_;refine sS (λq=>?_) λq=>?_
    ·exact .refl _
    obtain⟨G,hG⟩:=hF rfl h4 (sO);refine sC hG ?_;exact .refl _
   obtain⟨rfl,rfl⟩:=xL (.inl rfl);refine sW ?_;rw[gm,bU];refine sI ?_;exact .refl _
  refine sW ?_;rw[hB rfl];refine sW ?_;by_cases h4:sort=4
  ·obtain⟨rfl,rfl⟩:=xL (.inr h4);cases B
   ·refine sW ?_;rw[gI h4];refine sW ?_;rw[gm,bU];refine sI ?_;exact .refl _
   refine sW ?_;rw[gm,bU];refine sI ?_;exact .refl _
  cases B
  ·refine sW ?_;rw[dr h4];refine sW ?_;rw[aK,aK];refine sI ?_;refine sS (λq=>?_) λq=>?_
   ·exact .refl _
   obtain⟨G,hG⟩:=hF rfl h4 (sO);refine sC hG ?_;exact .refl _
  obtain⟨rfl,rfl⟩:=xL (.inl rfl);refine sW ?_;rw[gm,bU];refine sI ?_;exact .refl _
 obtain⟨rfl,rfl,rfl⟩:=VT hE;refine sR ?_;refine sC hJ ?_;refine sC hR ?_;refine sS (λq=>?_) λq=>?_
 ·rw[show(E==E)=true from beq_self_eq_true _];refine sW ?_;rw[gm,bU];refine sI ?_;exact .refl _
 exact absurd (sO) hE
end
namespace judgeSays
theorem law:∀Ds,OfAs ai [25,37,3,3] Ds->ar ai 3 Ds (EP true)
 |[d1,d2,d3,d4],h=>by
  obtain⟨P,rfl,hP⟩:=Y3 h.1;obtain⟨name,sort,x,k,a,b,c,f,g,rfl,gp,hf,hg⟩:=zwH h.2.1;obtain⟨tok,rfl,_⟩:=Vc Tryz.underlying3 h.2.2.1;obtain⟨st,rfl,_⟩:=Vc Tryz.underlying3 h.2.2.2.1;obtain⟨s,l,hJ,hA⟩:=zyK hP gp hf hg tok st sort x k a b c;obtain⟨is,kn,hR,hk⟩:=zor hP gp hf hg tok st sort x k a b c;exact zxr hP hJ hA hR hk
theorem types:Fq ai [25,37,3,22,23,9,27,29,32,35,103,145,30,33]:=by kernel_rfl
theorem laidOut:laidOutB ai:=by kernel_rfl
theorem readable:(Tryz.f3.params.toList.all λt=>Tryz.prog.readableRec t&&decide (t<Tryz.prog.types.size))=true:=by kernel_rfl
theorem own:ownKnob Tryz.prog.godebug=none:=by kernel_rfl
theorem lifted(os:Os)(started:os.Started)(H:Type)(enc:bl×aP->H) :
  ReturnsInHanded {} Tryz.checked os 3 .any (Rows.judgeSaysSpec.pre6 enc ai Tryz.f3 Rows.judgeSaysRow.domain false) (Rows.judgeSaysSpec.post enc ai Tryz.f3 false true false false):=by
 refine returnsInHanded_of_change_sized (C:=Tryz.checked) own started (by kernel_rfl) Tryz.func3
  (ChangeSpec.witness6 (enc:=enc) (C:=Tryz.checked) false ⟨#[],#[.agg #[.slice none 0 0,.slice none 0 0],.agg #[.string ⟨#[]⟩,.int .i64 0,.int .i64 0,.int .i64 0,.int .i64 0,.int .i64 0,.int .i64 0,.int .i64 0,.int .i64 0,.int .i64 0,.int .i64 0,.int .i64 0,.int .i64 0,.int .i64 0,.int .i64 0,.slice none 0 0,.int .i64 0,.int .i64 0,.slice none 0 0],.int .i64 0,.int .i64 0],[]⟩ 8 (by kernel_rfl) (by kernel_rfl) (by kernel_rfl)<|by kernel_rfl) ?_
 intro W base args ds gs before zJc hW _ fT _;have BI:∀(j:Nat) t v,Tryz.f3.params[j]? = some t->args[j]? = some v->Value.okWide ai W .any base t v:=zJc;have BC:=hW;obtain⟨p,q,JS,hV,_,JM,fm⟩:=hW;have hA:DataW.TrodAll enc ai W 0 (λ_=>true) true Tryz.f3.params.toList args.toList ds p:=JS;have rR:Tryz.f3.params.toList=[25,37,3,3]:=by kernel_rfl
 obtain⟨Ds,hD,hR⟩:=zvk types (base:=base) _ _ _ _ (λt ht=>by rw[rR] at ht;revert t;decide) (λj t v h1 h2=>BI j t v (by simpa using h1)<|by simpa using h2) hA λn hn=>by
  have:=ki.1 fT n<|SR _ _ _ _ (KE _ _ _ _ hA).symm n hn;simpa using this
 rw[rR] at hD;have hC:=(law Ds hD).run jP (rK W) W args.toList ⟨λb h=>h,λg cs hg=>absurd hg<|by simp[AU],λg t s hg=>absurd hg<|by simp[Vx]⟩ hR;rw[show args.toList.toArray=args from rfl] at hC;refine hC.mono λe W' ⟨v,F',he,_,hv,hx⟩=>?_;have lH:v=.bool true:=by simpa only[rep,EP] using hv
 subst he lH;exact⟨_,rfl,zuw BC rfl (by kernel_rfl) Tryz.underlying4 laidOut (λt ht=>by
   have:=ki.1 readable t ht;simp only[fY,ja] at this;exact this) (λds h=>by rw[rR] at h;match ds,h with|[_,_,_,_],_=>rfl) (zkr hx) (ok_one (by kernel_rfl) rfl (okWide_bool_mk Tryz.underlying4 _))⟩
theorem over:Rows.judgeSaysRow.holds Tryz.pinned (OpenSpec.ofChange Rows.judgeSaysSpec) :=
 OpenClaim.holds_of_wide 3 Tryz.f3 rfl rfl rfl rfl rfl rfl rfl ⟨rfl,rfl,rfl,rfl,rfl⟩ rfl rfl rfl rfl rfl (by kernel_rfl) Tryz.func3 (by kernel_rfl)
  (qL<|by kernel_rfl) (by unfold Func.isWrapper;first|(rw[ae<|by decide +kernel];kernel_rfl)|(rw[ab<|by decide +kernel];exact⟨rfl,rfl⟩))
  (λos started H enc _=>lifted os started H enc)
theorem proved:Rows.JudgeSaysSaid:=over
end judgeSays
end
end Go.Proofs.YtolilnhippapaaaGreat
