/- ExpandFarther: the chapter's example comes out as it tells: the tied card holds. No condition of its own. -/
import Derived.Test.YtfheibkikpefkaaGreatDoorCmZ
import Derived.Test.YtfheibkikpefkaaGreatDoorEZ
import Derived.Carry
import Derived.Test.YtfheibkikpefkaaGreatDoorRows
import Derived.Test.YtfheibkikpefkaaGreatDoorTie
import Derived.Test.YtfheibkikpefkaaGreatDoorCards
import Derived.ProofKit
import Derived.LaidMore
import Derived.Stop.Joined
import Derived.SevenTiedAt
set_option linter.unusedVariables false
set_option linter.unusedSimpArgs false
namespace Go.Proofs.YtfheibkikpefkaaGreatDoor
open Go Go.ChangeShapes Go.WideShapes Go.ChangeAt Go.WideMaps Go.WideElems Go.RowKit
set_option maxRecDepth 100000
noncomputable section
abbrev laidL:List (String×DataW Unit):=[("unicode.White_Space",Rows.laid_unicode_White_Space),("strings.asciiSpace",Rows.laid_strings_asciiSpace)]
theorem own:ownKnob Tryz.prog.godebug=none:=by kernel_rfl
theorem gA:Tryz.prog.globalNamed "strings.asciiSpace" =some 0:=by kernel_rfl
theorem door_met (os:Os) (args:Array Value):laidMetH Tryz.prog laidL ((World.doorLaid Tryz.prog 400 os).forCall (λ_ _=>0) ⟨#[],args,[]⟩).memory:=
 laidMetH_of_parts3 (fuel:=8) (laidMet_of_run' 8 (by kernel_rfl) (by kernel_rfl)) (by kernel_rfl) (by kernel_rfl)
theorem of_laid {W:World} (h:laidMetH Tryz.prog laidL W):1<=W.heap.size/\CM.RowsAt W rows (CM.rho0 1):=by
 rw[MakeChecks.laidMetH_plain _ _ _ (by kernel_rfl)]at h;obtain⟨ps,⟨g0,t0,cs0,f0,p0,q0,hg0,ht0,hv0,hd0,⟨g1,t1,cs1,f1,p1,q1,hg1,ht1,hv1,hd1,_,_⟩,_⟩,_,_⟩:=h;have tA:∃t e,(Tryz.prog.globals[0]?).map (·.type)=some t/\Tryz.prog.underlying t=some (.array ascii.length e)/\Tryz.prog.underlying e=some (.int .u8)/\Tryz.prog.cellsOf e=1/\Tryz.prog.cellsOf t=ascii.length:=⟨286,5,by kernel_rfl,by kernel_rfl,by kernel_rfl,by kernel_rfl,by kernel_rfl⟩;obtain⟨t,e,k1,k2,k3,k4,k5⟩:=tA;obtain rfl:=Option.some.inj (gA.symm.trans hg1);obtain rfl:=Option.some.inj (k1.symm.trans ht1);have eD:(Rows.laid_strings_asciiSpace:DataW Unit)= .agg (ascii.map λn=> .lit (.int .u8 n)):=by kernel_rfl
 rw[eD]at hd1;have hR:=CM.rowsAt_of_trod (ρ:=CM.rho0 1) gA hv1 k2 k3 k4 k5 hd1;obtain⟨arr,ty,fz,hw,_⟩:=hR _ (List.mem_singleton.2 rfl);exact⟨(Array.getElem?_eq_some_iff.1 hw).1,hR⟩
theorem lifted (os:Os) (started:os.Started) (H:Type) (enc:TypeId×Value->H):
  ReturnsInHanded {} Tryz.checked os 5 .any (λw args=>(Rows.expandFartherSpec.pre enc Tryz.prog Tryz.f5 [] false w args/\laidMetH Tryz.prog laidL w)/\sizedMet enc Tryz.prog Tryz.f5 (OpenSpec.ofChange Rows.expandFartherSpec) false w args)
   (Rows.expandFartherSpec.post enc Tryz.prog Tryz.f5 false true false false):=by
 refine returnsInHanded_of_change_and (C:=Tryz.checked) (X:=λw _=>laidMetH Tryz.prog laidL w) (λ_ _ _ hh h=>h.of_heap hh) own started (by kernel_rfl) Tryz.func5
  (ChangeSpec.witness_shaped (enc:=enc) (C:=Tryz.checked) (os:=os) (X:=λw _=>laidMetH Tryz.prog laidL w) false (World.doorLaid Tryz.prog 400 os) #[.agg #[.int .i64 0,.slice none 0 0,.slice none 0 0,.slice none 0 0,.slice none 0 0,.slice none 0 0,.slice none 0 0,.slice none 0 0,.slice none 0 0,.slice none 0 0,.slice none 0 0,.slice none 0 0],.int .i64 0] 8 rfl (World.shaped_of_RefB (by kernel_rfl) (by kernel_rfl)) (by kernel_rfl) (by kernel_rfl) (by kernel_rfl) (door_met os _)) ?_
 intro W base args ds gs before hval0 hW _ _ hL _;have hval:∀(j:Nat) t v,Tryz.f5.params[j]? =some t->args[j]? =some v->Value.okWide Tryz.prog W .any base t v:=hval0;obtain⟨h1,h2⟩:=of_laid hL;have hW':=hW;obtain⟨p,q,hA0,_,_,_,_⟩:=hW;have hp:Tryz.f5.params= #[31,2]:=by kernel_rfl
 have hA:DataW.TrodAll enc Tryz.prog W 0 (λ_=>true) true [31,2] args.toList ds p:=by
  have:Tryz.f5.params.toList=[31,2]:=by rw[hp]
  rw[<-this];exact hA0
 rw[hp]at hval;obtain⟨v0,v1,d0,d1,p0,p1,rfl,hds,_,t0,t1⟩:=trodAll_two hA;obtain⟨n,rfl,_,_,_⟩:=open_int Tryz.underlying2 (hval 1 _ _ rfl rfl) t1;refine(law_runs t0 n h1 h2).mono λe W' ⟨x,he,hx,hk⟩=> ?_;subst he;rw[hx.inv_bool];exact⟨_,rfl,CM.post_inputs (by kernel_rfl) (by kernel_rfl) hW' rfl (t:=4) (by kernel_rfl) (by kernel_rfl) (by kernel_rfl) (by rw[hds];rfl) hk⟩
theorem expandFarther_holds:Rows.ExpandFartherSaid:=
 OpenClaim.holds_of_wide 5 Tryz.f5 rfl rfl rfl rfl rfl rfl rfl ⟨rfl,rfl,rfl,rfl,rfl⟩ rfl rfl rfl rfl rfl (by kernel_rfl) Tryz.func5 (by kernel_rfl)
  (of_decide_eq_true (by kernel_rfl)) (by unfold Func.isWrapper;first|(rw[if_pos (by decide+kernel)];kernel_rfl)|(rw[if_neg (by decide+kernel)];exact⟨rfl,rfl⟩))
  (λos started H enc _=>lifted os started H enc)
theorem card_holds:Rows.ExpandFartherCardSaid:=
 Claim7.holds_tied_plain_at .later [] [.listed,.data] true (true,"c8f94666a5f3d2b3fde7e08b283b1d587a63280c17a705c9cb1419d8e1d10d8d") false
  expandFarther_holds (λ_ h=>by cases h) (by kernel_rfl) (λ_ h=>by cases h) expandFarther_row_tie rfl ⟨rfl,rfl⟩ (by kernel_rfl) rfl
  (λf fn hf hfn=>by
   obtain rfl:f=5:=Option.some.inj ((show Tryz.prog.funcNamed "timetable/timetablelaw10.ExpandFarther" =some 5 by kernel_rfl).symm.trans hf) |>.symm
   obtain rfl:fn=Tryz.f5:=(Option.some.inj (Tryz.func5.symm.trans hfn)).symm
   exact⟨by kernel_rfl,λj t ht=>by
    have hp:Tryz.f5.params= #[31,2]:=by kernel_rfl
    rw[hp]at ht;have hm:t∈[31,2]:=by simpa using Array.mem_of_getElem? ht
    have hall:([31,2].all λu=> !Tryz.prog.wantsStandIn u)=true:=by kernel_rfl
    exact(show Tryz.prog.wantsStandIn t=false by simpa using List.all_eq_true.1 hall t hm)⟩)
  (by kernel_rfl)
#print axioms card_holds
end
end Go.Proofs.YtfheibkikpefkaaGreatDoor
