/- The law's function, called with a world, a number as they are handed in: it says true, and turns nothing that was there. No condition. -/
import Derived.Test.YtfheibkikpefkaaGreatDoorEO
import Derived.Test.YtfheibkikpefkaaGreatDoorZF
import Derived.Test.YtfheibkikpefkaaGreatDoorKnW
set_option linter.unusedVariables false
set_option linter.unusedSimpArgs false
namespace Go.Proofs.YtfheibkikpefkaaGreatDoor
open Go Go.CM Go.CM.Tt
noncomputable section
set_option maxRecDepth 100000
theorem law_runs {H:Type} {enc:TypeId×Value->H} {W:World} {v0:Value} {d0:DataW H} {p0:List MemPlace} (t0:DataW.Trod enc Tryz.prog W 0 (λ_=>true) true 31 v0 d0 p0) (n:Int) (h1:nglob<=W.heap.size) (h2:RowsAt W rows (rho0 nglob)):
  Calls Tryz.prog 4 #[v0,.int .i64 n] W λe w'=>∃x,e= .returned x/\VR (rho0 nglob) (.bool true) x/\Keep (λ_=>False) W w':=by
 obtain⟨bs,vss,hl,hH,hv⟩:=open_args (rows:=rows) [(ptWorld,v0)] (λit hit=>by
  simp only[List.mem_cons,List.not_mem_nil,or_false]at hit;rcases hit with rfl
  exact⟨_,_,_,ptB_ok 10 ptWorld 31 (by kernel_rfl),t0⟩) h1 (λr hr=>envW1.rows r hr) h2
 match vss,hl with
 |[a],_=>
  obtain⟨r0,o0,_,q0⟩:=hv 0 _ a rfl rfl;obtain⟨w,hw⟩:=rep_world q0;obtain⟨arr0,rfl,g0⟩:=agg_of r0 o0 (by have:a.length=12:=Rp.len hw;omega);have hrun:CM.W E1 (.call (.fn 4 [] []) [.agg a,.int .i64 n]) .leaf (heapOf E1.globs E1.rows (bs.map (·.cs))) (λr=>∃h',r= .val (.bool true) h'):=moves_w n hw (rh_of _) (fresh_of _);have hxs:VRs (rhoA E1.globs bs) [.agg a,.int .i64 n] [.agg arr0,.int .i64 n]:=VRs.cons g0 (VRs.cons (.int _ _) (VRs.nil _));exact run_args envW1 hrun rfl hH hxs
end
end Go.Proofs.YtfheibkikpefkaaGreatDoor
