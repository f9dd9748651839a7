/- The law's function, called with a sheet as it is handed in: it says true, and turns nothing that was there. No condition. -/
import Derived.Test.YtmgpjfnlciapkaaDoorZD
import Derived.Test.YtmgpjfnlciapkaaDoorZF
import Derived.Test.YtmgpjfnlciapkaaDoorKnW
import Derived.Test.YtmgpjfnlciapkaaDoorXLi
namespace Go.Proofs.YtmgpjfnlciapkaaDoor
set_option linter.unusedVariables false
set_option linter.unusedSimpArgs false
open Go Go.CM Go.CM.Tt
noncomputable section
set_option maxRecDepth 100000

theorem row_low : ∀ r ∈ rows, r.1 < nglob := by
  intro r hr
  have hr : r ∈ [(0, ascii.map (CM.CV.int .u8))] := hr
  rw [List.mem_singleton] at hr
  rw [hr]
  decide
theorem fresh_of (blks : List (List CV)) : Fresh (heapOf nglob rows blks) := fun k hk => by
  rw [heapOf_next] at hk
  cases hg : (heapOf nglob rows blks).get k with
  | none => rfl
  | some b =>
    rcases heapOf_get hg with ⟨n, cs, rfl, hn, _⟩ | ⟨cs, hm, _⟩
    · have := (List.getElem?_eq_some_iff.1 hn).1
      omega
    · have := row_low _ hm
      simp only at this
      omega
theorem rh_of (blks : List (List CV)) : RH (heapOf nglob rows blks) := ⟨rows_at (by decide) (by kernel_rfl), fun r hr => by
  rw [heapOf_next]
  have := row_low r hr
  omega⟩

/-- A sheet that is handed in. -/
theorem open_sheet {H : Type} {enc : TypeId × Value → H} {W : World} {v : Value} {d : DataW H} {ps : List MemPlace} (h : DataW.Trod enc Tryd.prog W 0 (fun _ => true) true 29 v d ps) (h1 : nglob ≤ W.heap.size) (h2 : RowsAt W rows (rho0 nglob)) :
    ∃ (bs : List ArgB) (vs : List CV) (arr : Array Value) (x : SheetD), v = .agg arr ∧ HR (rhoA nglob bs) (heapOf nglob rows (bs.map (·.cs))) W ∧ VR (rhoA nglob bs) (.agg vs) (.agg arr) ∧ Rp.R (heapOf nglob rows (bs.map (·.cs))) vs x := by
  obtain ⟨fuel, h⟩ := h
  obtain ⟨vs, bs, dd, o⟩ := open_pt (ptB_ok 10 ptSheet 29 (by kernel_rfl)) fuel _ _ h nglob
  have hpl : Placed (rhoA nglob bs) nglob bs := fun n b hb => by
    show (if nglob + n < nglob then some (nglob + n, 0) else (bs[nglob + n - nglob]?).map fun b => (b.blk, b.off)) = _
    rw [if_neg (by omega), show nglob + n - nglob = n by omega, hb]; rfl
  obtain ⟨hv, hvr⟩ := o.vr _ hpl
  have hH : HR (rhoA nglob bs) (heapOf nglob rows (bs.map (·.cs))) W := by
    refine hr_args h1 (fun r hr => envW1.rows r hr) h2 (fun b hb => ?_)
    obtain ⟨arr, ty, fz, k1, k2, k3⟩ := o.ok b hb
    exact ⟨arr, ty, fz, k1, k2, hvr b hb arr ty fz k1, k3⟩
  have hlaid : Laid (heapOf nglob rows (bs.map (·.cs))) nglob bs := fun n b hb => by
    have hn := (List.getElem?_eq_some_iff.1 hb).1
    refine ⟨?_, heapOf_at (by rw [List.getElem?_map, hb]; rfl)⟩
    rw [heapOf_next, List.length_map]
    omega
  obtain ⟨x, hx⟩ := rep_sheet (o.rep _ hlaid)
  have hva : ∃ arr, v = .agg arr := by
    have hl := hv.1
    have hlen : vs.length = 7 := Rp.len hx
    cases v with
    | agg arr => exact ⟨arr, rfl⟩
    | _ => simp [Value.cells, hlen] at hl
  obtain ⟨arr, rfl⟩ := hva
  exact ⟨bs, vs, arr, x, rfl, hH, VRs.agg hv o.one, hx⟩

theorem law_runs {H : Type} {enc : TypeId × Value → H} {W : World} {v : Value} {d : DataW H} {ps : List MemPlace} (h : DataW.Trod enc Tryd.prog W 0 (fun _ => true) true 29 v d ps) (kind at' : Int) (h1 : nglob ≤ W.heap.size) (h2 : RowsAt W rows (rho0 nglob)) :
    Calls Tryd.prog 3 #[v, .int .i64 kind, .int .i64 at'] W fun e w' => ∃ x, e = .returned x ∧ VR (rho0 nglob) (.bool true) x ∧ Keep (fun _ => False) W w' := by
  obtain ⟨bs, vs, arr, x, rfl, hH, hag, hx⟩ := open_sheet h h1 h2
  have hrun : CM.W E1 (.call (.fn 3 [] []) [.agg vs, .int .i64 kind, .int .i64 at']) .leaf (heapOf E1.globs E1.rows (bs.map (·.cs))) (fun r => ∃ h', r = .val (.bool true) h') := less_w hx (rh_of _) (fresh_of _) kind at'
  have hxs : VRs (rhoA E1.globs bs) [.agg vs, .int .i64 kind, .int .i64 at'] [.agg arr, .int .i64 kind, .int .i64 at'] := VRs.cons hag (VRs.cons (.int _ _) (VRs.cons (.int _ _) (VRs.nil _)))
  exact run_args envW1 hrun rfl hH hxs
end
end Go.Proofs.YtmgpjfnlciapkaaDoor
