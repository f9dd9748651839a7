/- The law's function, called with arguments as they are handed in. No condition. -/
import Derived.Test.YtdcegklfbhfddaaXPa
import Derived.Test.YtdcegklfbhfddaaXNm
import Derived.Test.YtdcegklfbhfddaaKnLW
namespace Go.Proofs.Ytdcegklfbhfddaa
set_option linter.unusedVariables false
set_option linter.unusedSimpArgs false
open Go Go.CM
noncomputable section
set_option maxRecDepth 100000

theorem fresh_of (blks : List (List CV)) : Fresh (heapOf 0 rows blks) := fun k hk => by
  rw [heapOf_next] at hk
  cases hg : (heapOf 0 rows blks).get k with
  | none => rfl
  | some b =>
    rcases heapOf_get hg with ⟨n, cs, rfl, hn, _⟩ | ⟨cs, hm, _⟩
    · have := (List.getElem?_eq_some_iff.1 hn).1
      omega
    · cases hm

theorem win_of {H : Type} {enc : TypeId × Value → H} {W : World} {v : Value} {d : DataW H} {ps : List MemPlace} (h : DataW.Trod enc Try.prog W 0 (fun _ => true) true 27 v d ps) : ∃ w : Int × Int, ∀ ρ, VR ρ (.agg (winC w)) v := by
  obtain ⟨fuel, h⟩ := h
  obtain ⟨vs, bs, dd, o⟩ := open_pt (ptB_ok 10 ptWin 27 (by kernel_rfl)) fuel _ _ h 0
  have hpl : Placed (rhoA 0 bs) 0 bs := fun n b hb => by
    show (if 0 + n < 0 then some (0 + n, 0) else (bs[0 + n - 0]?).map fun b => (b.blk, b.off)) = _
    rw [if_neg (by omega), show 0 + n - 0 = n by omega, hb]; rfl
  obtain ⟨hv, hvr⟩ := o.vr _ hpl
  have hlaid : Laid (heapOf 0 rows (bs.map (·.cs))) 0 bs := fun n b hb => by
    have hn := (List.getElem?_eq_some_iff.1 hb).1
    refine ⟨?_, heapOf_at (by rw [List.getElem?_map, hb]; rfl)⟩
    rw [heapOf_next, List.length_map]
    omega
  obtain ⟨w, rfl⟩ := rep_win (o.rep _ hlaid)
  have hva : ∃ arr, v = .agg arr := by
    have hl := hv.1
    cases v with
    | agg arr => exact ⟨arr, rfl⟩
    | _ => simp [Value.cells, winC] at hl
  obtain ⟨arr, rfl⟩ := hva
  exact ⟨w, fun ρ => VRs.agg (VRs.plain (by rfl) hv) o.one⟩

theorem law_runs {H : Type} {enc : TypeId × Value → H} {W : World} {v u : Value} {d e : DataW H} {ps qs : List MemPlace} (h : DataW.Trod enc Try.prog W 0 (fun _ => true) true 25 v d ps) (p t : Int) (hu : DataW.Trod enc Try.prog W 0 (fun _ => true) true 27 u e qs) (b : Bool) :
    Calls Try.prog 3 #[v, .int .i64 p, .int .i64 t, u, .bool b] W fun e w' => ∃ x, e = .returned x ∧ VR (rho0 0) (.bool true) x ∧ Keep (fun _ => False) W w' := by
  obtain ⟨w, hw⟩ := win_of hu
  obtain ⟨fuel, h⟩ := h
  obtain ⟨vs, bs, dd, o⟩ := open_pt (ptB_ok 10 ptNet 25 (by kernel_rfl)) fuel _ _ h 0
  have hpl : Placed (rhoA 0 bs) 0 bs := fun n b hb => by
    show (if 0 + n < 0 then some (0 + n, 0) else (bs[0 + n - 0]?).map fun b => (b.blk, b.off)) = _
    rw [if_neg (by omega), show 0 + n - 0 = n by omega, hb]; rfl
  obtain ⟨hv, hvr⟩ := o.vr _ hpl
  have hH : HR (rhoA 0 bs) (heapOf 0 rows (bs.map (·.cs))) W := by
    refine hr_args (Nat.zero_le _) (fun r hr => by cases hr) (fun r hr => by cases hr) (fun b hb => ?_)
    obtain ⟨arr, ty, fz, k1, k2, k3⟩ := o.ok b hb
    exact ⟨arr, ty, fz, k1, k2, hvr b hb arr ty fz k1, k3⟩
  have hlaid : Laid (heapOf 0 rows (bs.map (·.cs))) 0 bs := fun n b hb => by
    have hn := (List.getElem?_eq_some_iff.1 hb).1
    refine ⟨?_, heapOf_at (by rw [List.getElem?_map, hb]; rfl)⟩
    rw [heapOf_next, List.length_map]
    omega
  obtain ⟨hz, vc, vl, cl, l, rfl, sc, sl⟩ := rep_net (o.rep _ hlaid)
  have hva : ∃ arr, v = .agg arr := by
    have hl := hv.1
    cases v with
    | agg arr => exact ⟨arr, rfl⟩
    | _ => simp [Value.cells] at hl
  obtain ⟨arr, rfl⟩ := hva
  have hag : VR (rhoA 0 bs) (.agg [.int .i64 hz, vc, vl]) (.agg arr) := VRs.agg hv o.one
  have hrun : CM.W E1 (.call (.fn 3 [] []) [.agg [.int .i64 hz, vc, vl], .int .i64 p, .int .i64 t, .agg (winC w), .bool b]) .leaf (heapOf E1.globs E1.rows (bs.map (·.cs))) (fun r => ∃ h', r = .val (.bool true) h') := lawMore_w (fresh_of _) sc sl p t w b
  have hxs : VRs (rhoA E1.globs bs) [.agg [.int .i64 hz, vc, vl], .int .i64 p, .int .i64 t, .agg (winC w), .bool b] [.agg arr, .int .i64 p, .int .i64 t, u, .bool b] := VRs.cons hag (VRs.cons (.int _ _) (VRs.cons (.int _ _) (VRs.cons (hw _) (VRs.cons (.bool _) (VRs.nil _)))))
  exact run_args envW1 hrun rfl hH hxs
end
end Go.Proofs.Ytdcegklfbhfddaa
