/- The law's function, called with a world, a run, numbers as they are handed in: it says true, and turns nothing that was there. No condition. -/
import Derived.Test.YtfheibkikpefkaaGreatDoorFE
import Derived.Test.YtfheibkikpefkaaGreatDoorZF
import Derived.Test.YtfheibkikpefkaaGreatDoorKnW
import Derived.Test.YtfheibkikpefkaaGreatDoorCmZ
import Derived.Carry
import Derived.Test.YtfheibkikpefkaaGreatDoorRows
import Derived.Test.YtfheibkikpefkaaGreatDoorTie
import Derived.Test.YtfheibkikpefkaaGreatDoorCards
import Derived.ProofKit
import Derived.LaidMore
import Derived.Stop.Joined
import Derived.SevenTiedAt
set_option linter.unusedVariables false
set_option linter.unusedSimpArgs false
namespace Go.CM.Tt
open Go.CM
def aKy:PT:= .struct [.int .i64,.int .i64,.slice (.int .i64),.slice (.int .i64)]
theorem aPf {h:Heap} {vs:List CV} {d:Dat} (r:Rep h aKy vs d):∃x:RunD,Rp.R h vs x:=by
 obtain⟨vss,rfl,hl,hr⟩:=dL r
 match vss,hl with
 |[c0,c1,c2,c3],_=>
  obtain⟨_,r0⟩:=hr 0 _ c0 rfl rfl;obtain⟨x0,rfl⟩:=cO r0;obtain⟨_,r1⟩:=hr 1 _ c1 rfl rfl;obtain⟨x1,rfl⟩:=cO r1;obtain⟨_,r2⟩:=hr 2 _ c2 rfl rfl;obtain⟨v2,x2,rfl,s2⟩:=mJ r2;obtain⟨_,r3⟩:=hr 3 _ c3 rfl rfl;obtain⟨v3,x3,rfl,s3⟩:=mJ r3;exact⟨⟨x0,x1,x2,x3⟩,v2,v3,rfl,s2,s3⟩
end Go.CM.Tt
namespace Go.Proofs.YtfheibkikpefkaaGreatDoor
open Go Go.CM Go.CM.Tt
noncomputable section
set_option maxRecDepth 100000
theorem aBj {H:Type} {enc:TypeId×Value->H} {P:Program} {w:World} {base:Nat} {spare:Nat->Bool} {held:Bool} {t0 t1 t2 t3 t4 t5:TypeId} {args:Array Value} {ds:List (DataW H)} {ps:List MemPlace} (h:DataW.TrodAll enc P w base spare held [t0,t1,t2,t3,t4,t5] args.toList ds ps):
  ∃v0 v1 v2 v3 v4 v5 d0 d1 d2 d3 d4 d5 p0 p1 p2 p3 p4 p5,args= #[v0,v1,v2,v3,v4,v5]/\ds=[d0,d1,d2,d3,d4,d5]/\DataW.Trod enc P w base spare held t0 v0 d0 p0/\DataW.Trod enc P w base spare held t1 v1 d1 p1/\DataW.Trod enc P w base spare held t2 v2 d2 p2/\DataW.Trod enc P w base spare held t3 v3 d3 p3/\DataW.Trod enc P w base spare held t4 v4 d4 p4/\DataW.Trod enc P w base spare held t5 v5 d5 p5:=by
 obtain⟨v0,vs0,d0,ds0,p0,q0,hargs,rfl,rfl,h0,r0⟩:=ChangeShapes.trodAll_cons h;obtain⟨v1,vs1,d1,ds1,p1,q1,rfl,rfl,rfl,h1,r1⟩:=ChangeShapes.trodAll_cons r0;obtain⟨v2,vs2,d2,ds2,p2,q2,rfl,rfl,rfl,h2,r2⟩:=ChangeShapes.trodAll_cons r1;obtain⟨v3,vs3,d3,ds3,p3,q3,rfl,rfl,rfl,h3,r3⟩:=ChangeShapes.trodAll_cons r2;obtain⟨v4,vs4,d4,ds4,p4,q4,rfl,rfl,rfl,h4,r4⟩:=ChangeShapes.trodAll_cons r3;obtain⟨v5,vs5,d5,ds5,p5,q5,rfl,rfl,rfl,h5,r5⟩:=ChangeShapes.trodAll_cons r4;obtain⟨rfl,rfl,rfl⟩:=ChangeShapes.trodAll_nil r5;exact⟨v0,v1,v2,v3,v4,v5,d0,d1,d2,d3,d4,d5,p0,p1,p2,p3,p4,p5,by cases args;simp_all,rfl,h0,h1,h2,h3,h4,h5⟩
theorem law_runs {H:Type} {enc:TypeId×Value->H} {W:World} {v0 v1:Value} {d0 d1:DataW H} {p0 p1:List MemPlace} (t0:DataW.Trod enc Tryz.prog W 0 (λ_=>true) true 31 v0 d0 p0)
  (t1:DataW.Trod enc Tryz.prog W 0 (λ_=>true) true 45 v1 d1 p1) (n no f d:Int) (h1:qU<=W.heap.size) (h2:sS W rows (uE qU)):
  Calls Tryz.prog 6 #[v0,v1,.int .i64 n,.int .i64 no,.int .i64 f,.int .i64 d] W λe w'=>∃x,e= .returned x/\VR (uE qU) (.bool true) x/\Keep (λ_=>False) W w':=by
 obtain⟨bs,vss,hl,hH,hv⟩:=aIh (rows:=rows) [(zL,v0),(aKy,v1)] (λit hit=>by
  simp only[List.mem_cons,List.not_mem_nil,or_false]at hit;rcases hit with rfl|rfl
  ·exact⟨_,_,_,zN 10 zL 31 (by kernel_rfl),t0⟩
  ·exact⟨_,_,_,zN 10 aKy 45 (by kernel_rfl),t1⟩) h1 (λr hr=>aWv.rows r hr) h2
 match vss,hl with
 |[a,b],_=>
  obtain⟨r0,o0,_,q0⟩:=hv 0 _ a rfl rfl;obtain⟨r1,o1,_,q1⟩:=hv 1 _ b rfl rfl;obtain⟨w,hw⟩:=aHz q0;obtain⟨u,hu⟩:=aPf q1;obtain⟨arr0,rfl,g0⟩:=aNe r0 o0 (by have:a.length=12:=Rp.len hw;omega);obtain⟨arr1,rfl,g1⟩:=aNe r1 o1 (by have:b.length=4:=Rp.len hu;omega);have hrun:CM.W E1 (.call (.fn 6 [] []) [.agg a,.agg b,.int .i64 n,.int .i64 no,.int .i64 f,.int .i64 d]) .leaf (heapOf E1.globs E1.rows (bs.map (·.cs))) (λr=>∃h',r= .val (.bool true) h'):=aQt n no f d hw hu (aWj _) (aMf _);have hxs:VRs (aBs E1.globs bs) [.agg a,.agg b,.int .i64 n,.int .i64 no,.int .i64 f,.int .i64 d] [.agg arr0,.agg arr1,.int .i64 n,.int .i64 no,.int .i64 f,.int .i64 d]:=VRs.cons g0 (VRs.cons g1 (VRs.cons (.int _ _) (VRs.cons (.int _ _) (VRs.cons (.int _ _) (VRs.cons (.int _ _) (VRs.nil _))))));exact aKk aWv hrun rfl hH hxs
end
end Go.Proofs.YtfheibkikpefkaaGreatDoor

namespace Go.Proofs.YtfheibkikpefkaaGreatDoor
open Go Go.ChangeShapes Go.WideShapes Go.ChangeAt Go.WideMaps Go.WideElems Go.RowKit
set_option maxRecDepth 100000
noncomputable section
abbrev aCo:List (String×DataW Unit):=[("unicode.White_Space",Rows.laid_unicode_White_Space),("strings.asciiSpace",Rows.laid_strings_asciiSpace)]
theorem own:ownKnob Tryz.prog.godebug=none:=by kernel_rfl
theorem gA:Tryz.prog.globalNamed "strings.asciiSpace" =some 0:=by kernel_rfl
theorem aMn (os:Os) (args:Array Value):laidMetH Tryz.prog aCo ((World.doorLaid Tryz.prog 400 os).forCall (λ_ _=>0) ⟨#[],args,[]⟩).memory:=
 laidMetH_of_parts3 (fuel:=8) (laidMet_of_run' 8 (by kernel_rfl) (by kernel_rfl)) (by kernel_rfl) (by kernel_rfl)
theorem aPs {W:World} (h:laidMetH Tryz.prog aCo W):1<=W.heap.size/\CM.sS W rows (CM.uE 1):=by
 rw[MakeChecks.laidMetH_plain _ _ _ (by kernel_rfl)]at h;obtain⟨ps,⟨g0,t0,cs0,f0,p0,q0,hg0,ht0,hv0,hd0,⟨g1,t1,cs1,f1,p1,q1,hg1,ht1,hv1,hd1,_,_⟩,_⟩,_,_⟩:=h;have tA:∃t e,(Tryz.prog.globals[0]?).map (·.type)=some t/\Tryz.prog.underlying t=some (.array ascii.length e)/\Tryz.prog.underlying e=some (.int .u8)/\Tryz.prog.cellsOf e=1/\Tryz.prog.cellsOf t=ascii.length:=⟨286,5,by kernel_rfl,by kernel_rfl,by kernel_rfl,by kernel_rfl,by kernel_rfl⟩;obtain⟨t,e,k1,k2,k3,k4,k5⟩:=tA;obtain rfl:=Option.some.inj (gA.symm.trans hg1);obtain rfl:=Option.some.inj (k1.symm.trans ht1);have eD:(Rows.laid_strings_asciiSpace:DataW Unit)= .agg (ascii.map λn=> .lit (.int .u8 n)):=by kernel_rfl
 rw[eD]at hd1;have hR:=CM.vE (ρ:=CM.uE 1) gA hv1 k2 k3 k4 k5 hd1;obtain⟨arr,ty,fz,hw,_⟩:=hR _ (List.mem_singleton.2 rfl);exact⟨(Array.getElem?_eq_some_iff.1 hw).1,hR⟩
theorem aUm (os:Os) (started:os.Started) (H:Type) (enc:TypeId×Value->H):
  ReturnsInHanded {} Tryz.checked os 6 .any (λw args=>(Rows.expandCallsSpec.pre enc Tryz.prog Tryz.f6 [] false w args/\laidMetH Tryz.prog aCo w)/\sizedMet enc Tryz.prog Tryz.f6 (OpenSpec.ofChange Rows.expandCallsSpec) false w args)
   (Rows.expandCallsSpec.post enc Tryz.prog Tryz.f6 false true false false):=by
 refine returnsInHanded_of_change_and (C:=Tryz.checked) (X:=λw _=>laidMetH Tryz.prog aCo w) (λ_ _ _ hh h=>h.of_heap hh) own started (by kernel_rfl) Tryz.func6
  (ChangeSpec.witness_shaped (enc:=enc) (C:=Tryz.checked) (os:=os) (X:=λw _=>laidMetH Tryz.prog aCo w) false (World.doorLaid Tryz.prog 400 os) #[.agg #[.int .i64 0,.slice none 0 0,.slice none 0 0,.slice none 0 0,.slice none 0 0,.slice none 0 0,.slice none 0 0,.slice none 0 0,.slice none 0 0,.slice none 0 0,.slice none 0 0,.slice none 0 0],.agg #[.int .i64 0,.int .i64 0,.slice none 0 0,.slice none 0 0],.int .i64 0,.int .i64 0,.int .i64 0,.int .i64 0] 8 rfl (World.shaped_of_RefB (by kernel_rfl) (by kernel_rfl)) (by kernel_rfl) (by kernel_rfl) (by kernel_rfl) (aMn os _)) ?_
 intro W base args ds gs before hval0 hW _ _ hL _;have hval:∀(j:Nat) t v,Tryz.f6.params[j]? =some t->args[j]? =some v->Value.okWide Tryz.prog W .any base t v:=hval0;obtain⟨h1,h2⟩:=aPs hL;have hW':=hW;obtain⟨p,q,hA0,_,_,_,_⟩:=hW;have hp:Tryz.f6.params= #[31,45,3,3,3,2]:=by kernel_rfl
 have hA:DataW.TrodAll enc Tryz.prog W 0 (λ_=>true) true [31,45,3,3,3,2] args.toList ds p:=by
  have:Tryz.f6.params.toList=[31,45,3,3,3,2]:=by rw[hp]
  rw[<-this];exact hA0
 rw[hp]at hval;obtain⟨v0,v1,v2,v3,v4,v5,d0,d1,d2,d3,d4,d5,p0,p1,p2,p3,p4,p5,rfl,hds,t0,t1,t2,t3,t4,t5⟩:=aBj hA;obtain⟨n,rfl,_,_,_⟩:=open_int Tryz.underlying3 (hval 2 _ _ rfl rfl) t2;obtain⟨no,rfl,_,_,_⟩:=open_int Tryz.underlying3 (hval 3 _ _ rfl rfl) t3;obtain⟨f,rfl,_,_,_⟩:=open_int Tryz.underlying3 (hval 4 _ _ rfl rfl) t4;obtain⟨d,rfl,_,_,_⟩:=open_int Tryz.underlying2 (hval 5 _ _ rfl rfl) t5;refine(law_runs t0 t1 n no f d h1 h2).mono λe W' ⟨x,he,hx,hk⟩=> ?_;subst he;rw[hx.inv_bool];exact⟨_,rfl,CM.aBw (by kernel_rfl) (by kernel_rfl) hW' rfl (t:=4) (by kernel_rfl) (by kernel_rfl) (by kernel_rfl) (by rw[hds];rfl) hk⟩
theorem rJ:Rows.ExpandCallsSaid:=
 OpenClaim.holds_of_wide 6 Tryz.f6 rfl rfl rfl rfl rfl rfl rfl ⟨rfl,rfl,rfl,rfl,rfl⟩ rfl rfl rfl rfl rfl (by kernel_rfl) Tryz.func6 (by kernel_rfl)
  (of_decide_eq_true (by kernel_rfl)) (by unfold Func.isWrapper;first|(rw[if_pos (by decide+kernel)];kernel_rfl)|(rw[if_neg (by decide+kernel)];exact⟨rfl,rfl⟩))
  (λos started H enc _=>aUm os started H enc)
theorem card_holds:Rows.ExpandCallsCardSaid:=
 Claim7.holds_tied_plain_at .later [] [.listed,.data] true (true,"c8f94666a5f3d2b3fde7e08b283b1d587a63280c17a705c9cb1419d8e1d10d8d") false
  rJ (λ_ h=>by cases h) (by kernel_rfl) (λ_ h=>by cases h) expandCalls_row_tie rfl ⟨rfl,rfl⟩ (by kernel_rfl) rfl
  (λf fn hf hfn=>by
   obtain rfl:f=6:=Option.some.inj ((show Tryz.prog.funcNamed "timetable/timetablelaw10.ExpandCalls" =some 6 by kernel_rfl).symm.trans hf) |>.symm
   obtain rfl:fn=Tryz.f6:=(Option.some.inj (Tryz.func6.symm.trans hfn)).symm
   exact⟨by kernel_rfl,λj t ht=>by
    have hp:Tryz.f6.params= #[31,45,3,3,3,2]:=by kernel_rfl
    rw[hp]at ht;have hm:t∈[31,45,3,3,3,2]:=by simpa using Array.mem_of_getElem? ht
    have hall:([31,45,3,3,3,2].all λu=> !Tryz.prog.wantsStandIn u)=true:=by kernel_rfl
    exact(show Tryz.prog.wantsStandIn t=false by simpa using List.all_eq_true.1 hall t hm)⟩)
  (by kernel_rfl)
#print axioms card_holds
end
end Go.Proofs.YtfheibkikpefkaaGreatDoor
