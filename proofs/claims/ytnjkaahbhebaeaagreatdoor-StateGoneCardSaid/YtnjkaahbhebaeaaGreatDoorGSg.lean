/- The law's function, called with a state as it is handed in: it says true, and turns nothing that was there. No condition. -/
import Derived.Test.YtnjkaahbhebaeaaGreatDoorGU
import Derived.Test.YtnjkaahbhebaeaaGreatDoorZF
import Derived.Test.YtnjkaahbhebaeaaGreatDoorKnW
import Derived.Test.YtnjkaahbhebaeaaGreatDoorCmZ
import Derived.Carry
import Derived.Test.YtnjkaahbhebaeaaGreatDoorRows
import Derived.Test.YtnjkaahbhebaeaaGreatDoorTie
import Derived.Test.YtnjkaahbhebaeaaGreatDoorCards
import Derived.ProofKit
import Derived.LaidMore
import Derived.Stop.Joined
import Derived.SevenTiedAt
set_option linter.unusedVariables false
set_option linter.unusedSimpArgs false
set_option maxRecDepth 100000
namespace Go.CM.Tt
open Go.CM
def ptLate:PT:= .struct [.int .i64,.int .i64,.int .i64,.int .i64]
theorem rep_late {h:Heap} {vs:List CV} {d:Dat} (r:Rep h ptLate vs d):∃x:LateD,Rp.R h vs x:=by
 obtain⟨vss,rfl,hl,hr⟩:=rep_struct r
 match vss,hl with
 |[c0,c1,c2,c3],_=>
  obtain⟨_,r0⟩:=hr 0 _ c0 rfl rfl
  obtain⟨x0,rfl⟩:=rep_int r0
  obtain⟨_,r1⟩:=hr 1 _ c1 rfl rfl
  obtain⟨x1,rfl⟩:=rep_int r1
  obtain⟨_,r2⟩:=hr 2 _ c2 rfl rfl
  obtain⟨x2,rfl⟩:=rep_int r2
  obtain⟨_,r3⟩:=hr 3 _ c3 rfl rfl
  obtain⟨x3,rfl⟩:=rep_int r3
  exact⟨⟨x0,x1,x2,x3⟩,rfl⟩
def ptID:PT:= .struct [.int .i64,.int .i64]
def ptState:PT:= .struct [ptWorld,.slice ptLate,.slice ptID]
end Go.CM.Tt
namespace Go.Proofs.YtnjkaahbhebaeaaGreatDoor
open Go Go.CM Go.CM.Tt
noncomputable section
set_option maxRecDepth 100000
theorem rep_id {h:Heap} {vs:List CV} {d:Dat} (r:Rep h ptID vs d):∃x:Int×Int,Rp.R h vs x:=by
 obtain⟨vss,rfl,hl,hr⟩:=rep_struct r
 match vss,hl with
 |[c0,c1],_=>
  obtain⟨_,r0⟩:=hr 0 _ c0 rfl rfl
  obtain⟨x0,rfl⟩:=rep_int r0
  obtain⟨_,r1⟩:=hr 1 _ c1 rfl rfl
  obtain⟨x1,rfl⟩:=rep_int r1
  exact⟨(x0,x1),rfl⟩
theorem rep_state {h:Heap} {vs:List CV} {d:Dat} (r:Rep h ptState vs d):∃x:StateD,Rp.R h vs x:=by
 obtain⟨vss,rfl,hl,hr⟩:=rep_struct r
 match vss,hl with
 |[c0,c1,c2],_=>
  obtain⟨_,r0⟩:=hr 0 _ c0 rfl rfl
  obtain⟨w,hw⟩:=rep_world r0
  obtain⟨_,r1⟩:=hr 1 _ c1 rfl rfl
  obtain⟨v1,x1,rfl,s1⟩:=rep_sl (α:=LateD) rfl (λvs d r=>rep_late r) r1
  obtain⟨_,r2⟩:=hr 2 _ c2 rfl rfl
  obtain⟨v2,x2,rfl,s2⟩:=rep_sl (α:=Int×Int) rfl (λvs d r=>rep_id r) r2
  obtain⟨a1,a2,a3,a4,a5,a6,a7,a8,a9,a10,a11,rfl,h2⟩:=id hw
  exact⟨⟨w,x1,x2⟩,a1,a2,a3,a4,a5,a6,a7,a8,a9,a10,a11,v1,v2,rfl,hw,s1,s2⟩
theorem law_runs {H:Type} {enc:TypeId×Value->H} {W:World} {v0:Value} {d0:DataW H} {p0:List MemPlace} (t0:DataW.Trod enc Tryz.prog W 0 (λ_=>true) true 79 v0 d0 p0) (n:Int) (h1:nglob<=W.heap.size) (h2:RowsAt W rows (rho0 nglob)):
  Calls Tryz.prog 6 #[v0,.int .i64 n] W λe w'=>∃x,e= .returned x/\VR (rho0 nglob) (.bool true) x/\Keep (λ_=>False) W w':=by
 obtain⟨bs,vss,hl,hH,hv⟩:=open_args (rows:=rows) [(ptState,v0)] (λit hit=>by
  simp only[List.mem_cons,List.not_mem_nil,or_false]at hit
  rcases hit with rfl
  exact⟨_,_,_,ptB_ok 10 ptState 79 (by kernel_rfl),t0⟩) h1 (λr hr=>envW1.rows r hr) h2
 match vss,hl with
 |[a],_=>
  obtain⟨r0,o0,_,q0⟩:=hv 0 _ a rfl rfl
  obtain⟨s,hs⟩:=rep_state q0
  obtain⟨arr0,rfl,g0⟩:=agg_of r0 o0 (by have:a.length=14:=Rp.len hs;omega)
  have hrun:CM.W E1 (.call (.fn 6 [] []) [.agg a,.int .i64 n]) .leaf (heapOf E1.globs E1.rows (bs.map (·.cs))) (λr=>∃h',r= .val (.bool true) h'):=stateGone_w n hs (rh_of _) (fresh_of _)
  have hxs:VRs (rhoA E1.globs bs) [.agg a,.int .i64 n] [.agg arr0,.int .i64 n]:=VRs.cons g0 (VRs.cons (.int _ _) (VRs.nil _))
  exact run_args envW1 hrun rfl hH hxs
end
end Go.Proofs.YtnjkaahbhebaeaaGreatDoor

namespace Go.Proofs.YtnjkaahbhebaeaaGreatDoor
open Go Go.ChangeShapes Go.WideShapes Go.ChangeAt Go.WideMaps Go.WideElems Go.RowKit
set_option maxRecDepth 100000
noncomputable section
abbrev laidL:List (String×DataW Unit):=[("unicode.White_Space",Rows.laid_unicode_White_Space),("strings.asciiSpace",Rows.laid_strings_asciiSpace)]
theorem own:ownKnob Tryz.prog.godebug=none:=by kernel_rfl
theorem gA:Tryz.prog.globalNamed "strings.asciiSpace" =some 0:=by kernel_rfl
theorem door_met (os:Os) (args:Array Value):laidMetH Tryz.prog laidL ((World.doorLaid Tryz.prog 400 os).forCall (λ_ _=>0) ⟨#[],args,[]⟩).memory:=
 laidMetH_of_parts3 (fuel:=8) (laidMet_of_run' 8 (by kernel_rfl) (by kernel_rfl)) (by kernel_rfl) (by kernel_rfl)
theorem of_laid {W:World} (h:laidMetH Tryz.prog laidL W):1<=W.heap.size/\CM.RowsAt W rows (CM.rho0 1):=by
 rw[MakeChecks.laidMetH_plain _ _ _ (by kernel_rfl)]at h
 obtain⟨ps,⟨g0,t0,cs0,f0,p0,q0,hg0,ht0,hv0,hd0,⟨g1,t1,cs1,f1,p1,q1,hg1,ht1,hv1,hd1,_,_⟩,_⟩,_,_⟩:=h
 have tA:∃t e,(Tryz.prog.globals[0]?).map (·.type)=some t/\Tryz.prog.underlying t=some (.array ascii.length e)/\Tryz.prog.underlying e=some (.int .u8)/\Tryz.prog.cellsOf e=1/\Tryz.prog.cellsOf t=ascii.length:=⟨372,5,by kernel_rfl,by kernel_rfl,by kernel_rfl,by kernel_rfl,by kernel_rfl⟩
 obtain⟨t,e,k1,k2,k3,k4,k5⟩:=tA
 obtain rfl:=Option.some.inj (gA.symm.trans hg1)
 obtain rfl:=Option.some.inj (k1.symm.trans ht1)
 have eD:(Rows.laid_strings_asciiSpace:DataW Unit)= .agg (ascii.map λn=> .lit (.int .u8 n)):=by kernel_rfl
 rw[eD]at hd1
 have hR:=CM.rowsAt_of_trod (ρ:=CM.rho0 1) gA hv1 k2 k3 k4 k5 hd1
 obtain⟨arr,ty,fz,hw,_⟩:=hR _ (List.mem_singleton.2 rfl)
 exact⟨(Array.getElem?_eq_some_iff.1 hw).1,hR⟩
theorem lifted (os:Os) (started:os.Started) (H:Type) (enc:TypeId×Value->H):
  ReturnsInHanded {} Tryz.checked os 6 .any (λw args=>(Rows.stateGoneSpec.pre enc Tryz.prog Tryz.f6 [] false w args/\laidMetH Tryz.prog laidL w)/\sizedMet enc Tryz.prog Tryz.f6 (OpenSpec.ofChange Rows.stateGoneSpec) false w args)
   (Rows.stateGoneSpec.post enc Tryz.prog Tryz.f6 false true false false):=by
 refine returnsInHanded_of_change_and (C:=Tryz.checked) (X:=λw _=>laidMetH Tryz.prog laidL w) (λ_ _ _ hh h=>h.of_heap hh) own started (by kernel_rfl) Tryz.func6
  (ChangeSpec.witness_shaped (enc:=enc) (C:=Tryz.checked) (os:=os) (X:=λw _=>laidMetH Tryz.prog laidL w) false (World.doorLaid Tryz.prog 400 os) #[.agg #[.int .i64 0,.slice none 0 0,.slice none 0 0,.slice none 0 0,.slice none 0 0,.slice none 0 0,.slice none 0 0,.slice none 0 0,.slice none 0 0,.slice none 0 0,.slice none 0 0,.slice none 0 0,.slice none 0 0,.slice none 0 0],.int .i64 0] 8 rfl (World.shaped_of_RefB (by kernel_rfl) (by kernel_rfl)) (by kernel_rfl) (by kernel_rfl) (by kernel_rfl) (door_met os _)) ?_
 intro W base args ds gs before hval0 hW _ _ hL _
 have hval:∀(j:Nat) t v,Tryz.f6.params[j]? =some t->args[j]? =some v->Value.okWide Tryz.prog W .any base t v:=hval0
 obtain⟨h1,h2⟩:=of_laid hL
 have hW':=hW
 obtain⟨p,q,hA0,_,_,_,_⟩:=hW
 have hp:Tryz.f6.params= #[79,3]:=by kernel_rfl
 have hA:DataW.TrodAll enc Tryz.prog W 0 (λ_=>true) true [79,3] args.toList ds p:=by
  have:Tryz.f6.params.toList=[79,3]:=by rw[hp]
  rw[<-this];exact hA0
 rw[hp]at hval
 obtain⟨v0,v1,d0,d1,p0,p1,rfl,hds,_,t0,t1⟩:=trodAll_two hA
 obtain⟨n,rfl,_,_,_⟩:=open_int Tryz.underlying3 (hval 1 _ _ rfl rfl) t1
 refine(law_runs t0 n h1 h2).mono λe W' ⟨x,he,hx,hk⟩=> ?_
 subst he
 rw[hx.inv_bool]
 exact⟨_,rfl,CM.post_inputs (by kernel_rfl) (by kernel_rfl) hW' rfl (t:=4) (by kernel_rfl) (by kernel_rfl) (by kernel_rfl) (by rw[hds];rfl) hk⟩
end
end Go.Proofs.YtnjkaahbhebaeaaGreatDoor
