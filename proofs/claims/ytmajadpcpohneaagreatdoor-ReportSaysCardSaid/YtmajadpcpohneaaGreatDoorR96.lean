import Derived.Test.YtmajadpcpohneaaGreatDoorR95
import Derived.Test.YtmajadpcpohneaaGreatDoorRows
import Derived.Test.YtmajadpcpohneaaGreatDoorTie
import Derived.Test.YtmajadpcpohneaaGreatDoorCards
import Derived.Lib.LaidTab
import Derived.OpenShut
import Derived.FnData
import Derived.LaidLaws
import Derived.LaidHandle
import Derived.Lay
import Derived.Stop.Joined
import Derived.Stop.LaidErr
namespace Go.Proofs.YtmajadpcpohneaaGreatDoor
set_option linter.unusedSimpArgs false
set_option linter.unusedVariables false
set_option maxRecDepth 100000
set_option maxHeartbeats 8000000
set_option linter.unusedSectionVars false
open Go.RowKit
section
open Go.RowKit Go.ChangeShapes Go.WideShapes Go.ChangeAt
theorem zxx{d:D}(h:OfA aj 26 d):∃l,d=p' l/\∀r∈l,r.OK:=by
 unfold OfA BP at h;rw[Tryz.underlying26] at h;obtain⟨xs,e,_,hx⟩:=of_slice Tryz.underlying26 h;obtain⟨l,rfl,hl⟩:=OG (f:=kj.cells) (ok:=kj.OK) (λcs h=>by
  obtain⟨name,sort,x,k,a,b,c,f,g,rfl,h1,h2,h3⟩:=zAV h;exact⟨⟨name,sort,x,k,a,b,c,f,g⟩,rfl,h1,h2,h3⟩) hx
 rw[show Tryz.prog.cellsOf 69=19 by kernel_rfl] at e;cases e;exact⟨l,rfl,hl⟩
theorem O8(P:af)(l:List kj)(tok st:Int){a b:aB}{kn:Bool}{e:Int}(hA:ao aj 4 [b7 P,p' l,aa tok,aa st] (.aJ [.sc (.string a),aa e]))
  (hB:ao aj 5 [b7 P,p' l,aa tok,aa st] (.aJ [.sc (.string b),ay kn,aa e])) (h:kn->b=a) :
  ao aj 3 [b7 P,p' l,aa tok,aa st] (D1 true):=by
 refine bt ?_;refine sC hA ?_;refine sC hB ?_;refine sS (λh1=>?_) λh1=>?_
 ·exfalso;exact sO
 cases kn
 ·refine sW ?_;exact .refl _
 rw[h rfl];refine sW ?_;exact cf<|by simp[D1,dZ]
namespace reportSays
theorem law:∀Ds,OfAs aj [25,26,3,3] Ds->ao aj 3 Ds (D1 true)
 |[d1,d2,d3,d4],h=>by
  obtain⟨P,rfl,hP⟩:=Z7 h.1;obtain⟨l,rfl,hl⟩:=zxx h.2.1;obtain⟨tok,rfl,_⟩:=Rk Tryz.underlying3 h.2.2.1;obtain⟨st,rfl,_⟩:=Rk Tryz.underlying3 h.2.2.2.1;by_cases he:P.c7 tok st=0
  ·by_cases DN:l.length<=20
   ·obtain⟨b,kn,hB,h⟩:=zwh hP tok st l he DN hl;exact O8 P l tok st (zvk hP tok st l he DN hl) hB h
   exact O8 P l tok st (zvM hP tok st l he zo) (zxT hP tok st l he zo) λ_=>rfl
  exact O8 P l tok st (zxX hP tok st l he) (zvY hP tok st l he) λ_=>rfl
theorem types:Hu aj [25,26,3,22,23,69,77,149,9,59,61,64,67,62,65]:=by kernel_rfl
theorem laidOut:laidOutB aj:=by kernel_rfl
theorem readable:(Tryz.f3.params.toList.all λt=>Tryz.prog.readableRec t&&decide (t<Tryz.prog.types.size))=true:=by kernel_rfl
theorem own:ownKnob Tryz.prog.godebug=none:=by kernel_rfl
theorem fok{W:bl}(h:laidMetH aj Rows.reportSaysRow.laid W):FOK (ri W) W:=by
 have h1 : laidMet aj [("math/bits.deBruijn32tab", Rows.laid_math_bits_deBruijn32tab), ("math/bits.deBruijn64tab", Rows.laid_math_bits_deBruijn64tab), ("internal/strconv.uint64pow10", Lib.tabData .u64 Lib.pow10Tab)] W := h
 have hg : Tryz.prog.globalNamed "internal/strconv.uint64pow10" = some 0 := by kernel_rfl
 have ht:=Lib.tabIs_of_head (n:=20) hg (t:=((Tryz.prog.globals[0]?).map (·.type)).getD 0) (e:=(match Tryz.prog.underlying (((Tryz.prog.globals[0]?).map (·.type)).getD 0) with|some (.array _ e)=>e|_=>0)) zk zk zk zk zk h1.tail.tail;have hc:=λi hi=>ht.cell hg i hi;refine⟨λb h=>h,λg cs hm=>?_⟩;have uT:g=0/\cs=Lib.pow10Tab.map λz=>.sc (.int .u64 z):=by
  simp only[Ci,cV,Prod.mk.injEq] at hm;exact hm
 obtain⟨rfl,rfl⟩:=uT;refine⟨World.block_lt_of_cell? W ⟨0,0,none⟩<|hc 0<|by rw[Lib.pow10Tab_length];decide,rU _ _ λk c hk=>?_,?_⟩
 ·rw[fx] at hk;obtain⟨z,hz,rfl⟩:=Option.map_eq_some_iff.1 hk;have:=hc k<|nY hz;rw[a8,hz] at this;exact⟨_,by rw[lp];exact this,rfl,by simp only[rep];rfl⟩
 unfold Lib.TabIs World.var? at ht;rw[hg] at ht;simp only[zK] at ht;split at ht
 ·rename_i cs t f e;exact⟨cs,t,f,e,by rw[Cu ht];simp⟩
 cases ht
theorem lifted(os:Os)(started:os.Started)(H:Type)(enc:bp×aW->H) :
  ReturnsInHanded {} Tryz.checked os 3 .any (λw args=>(Rows.reportSaysSpec.pre enc aj Tryz.f3 Rows.reportSaysRow.domain false w args/\laidMetH aj Rows.reportSaysRow.laid w)/\sizedMet enc aj Tryz.f3 (OpenSpec.ofChange Rows.reportSaysSpec) false w args)
   (Rows.reportSaysSpec.post enc aj Tryz.f3 false true false false):=by
 refine returnsInHanded_of_change_and (C:=Tryz.checked) (X:=λw _=>laidMetH aj Rows.reportSaysRow.laid w) (λ_ _ _ hh h=>h.of_heap hh) own started zk Tryz.func3
  (ChangeSpec.witness_at (enc:=enc) (C:=Tryz.checked) (os:=os) (X:=λw _=>laidMetH aj Rows.reportSaysRow.laid w) false (World.laidAll aj os Rows.reportSaysRow.laid) #[.agg #[.slice none 0 0,.slice none 0 0],.slice none 0 0,.int .i64 0,.int .i64 0] 8 (World.laidAll_os _ _ _) zk zk zk zk zk<|show laidMet _ _ _ from laidMet_laidAll _ zk zk) ?_
 intro W base args ds gs before zMt hW _ eJ hL _;have Bn:∀(j:Nat) t v,Tryz.f3.params[j]? = some t->args[j]? = some v->Value.okWide aj W .any base t v:=zMt;have Ba:=hW;obtain⟨p,q,On,hV,_,Gp,fE⟩:=hW;have hA:DataW.TrodAll enc aj W 0 (λ_=>true) true Tryz.f3.params.toList args.toList ds p:=On;have tC:Tryz.f3.params.toList=[25,26,3,3]:=by kernel_rfl
 obtain⟨Ds,hD,hR⟩:=zvN types (base:=base) _ _ _ _ (λt ht=>by rw[tC] at ht;revert t;decide) (λj t v h1 h2=>Bn j t v (by simpa using h1)<|by simpa using h2) hA λn hn=>by
  have:=kb.1 eJ n<|X0 _ _ _ _ (O' _ _ _ _ hA).symm n hn;simpa using this
 rw[tC] at hD;have hC:=(law Ds hD).run jX (ri W) W args.toList (fok hL) hR;rw[show args.toList.toArray=args from rfl] at hC;refine hC.mono λe W' ⟨v,F',he,_,hv,hx⟩=>?_;have lW:v=.bool true:=by simpa only[rep,D1] using hv
 subst he lW;exact⟨_,rfl,zxh Ba rfl zk Tryz.underlying4 laidOut (λt ht=>by
   have:=kb.1 readable t ht;simp only[gr,ja] at this;exact this) (λds h=>by rw[tC] at h;match ds,h with|[_,_,_,_],_=>rfl) (zmN hx) (ok_one zk rfl (okWide_bool_mk Tryz.underlying4 _))⟩
end reportSays
end
end Go.Proofs.YtmajadpcpohneaaGreatDoor
