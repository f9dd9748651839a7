/- IndexNames: the chapter's example comes out as it tells: the tied card holds. No condition of its own. -/
import Derived.Test.YtnjlkanpldfdlabGreatDoorKnI
import Derived.Test.YtnjlkanpldfdlabGreatDoorRows
import Derived.Test.YtnjlkanpldfdlabGreatDoorTie
import Derived.Test.YtnjlkanpldfdlabGreatDoorCards
import Derived.ProofKit
import Derived.LaidMore
import Derived.Stop.Joined
import Derived.SevenTiedAt
namespace Go.Proofs.YtnjlkanpldfdlabGreatDoor
set_option linter.unusedVariables false
set_option linter.unusedSimpArgs false
open Go Go.ChangeShapes Go.WideShapes Go.ChangeAt Go.WideMaps Go.WideElems Go.RowKit
set_option maxRecDepth 100000

noncomputable section
abbrev laidL : List (String × DataW Unit) := [("unicode.White_Space", Rows.laid_unicode_White_Space), ("strings.asciiSpace", Rows.laid_strings_asciiSpace)]
theorem own : ownKnob Tryz.prog.godebug = none := by kernel_rfl
theorem gA : Tryz.prog.globalNamed "strings.asciiSpace" = some 0 := by kernel_rfl
theorem door_met (os : Os) (args : Array Value) : laidMetH Tryz.prog laidL ((World.doorLaid Tryz.prog 400 os).forCall (fun _ _ => 0) ⟨#[], args, []⟩).memory :=
  laidMetH_of_parts3 (fuel := 8) (laidMet_of_run' 8 (by kernel_rfl) (by kernel_rfl)) (by kernel_rfl) (by kernel_rfl)

theorem of_laid {W : World} (h : laidMetH Tryz.prog laidL W) : 1 ≤ W.heap.size ∧ CM.RowsAt W rows (CM.rho0 1) := by
  rw [MakeChecks.laidMetH_plain _ _ _ (by kernel_rfl)] at h
  obtain ⟨ps, ⟨g0, t0, cs0, f0, p0, q0, hg0, ht0, hv0, hd0, ⟨g1, t1, cs1, f1, p1, q1, hg1, ht1, hv1, hd1, _, _⟩, _⟩, _, _⟩ := h
  have tA : ∃ t e, (Tryz.prog.globals[0]?).map (·.type) = some t ∧ Tryz.prog.underlying t = some (.array ascii.length e) ∧ Tryz.prog.underlying e = some (.int .u8) ∧ Tryz.prog.cellsOf e = 1 ∧ Tryz.prog.cellsOf t = ascii.length := ⟨511, 5, by kernel_rfl, by kernel_rfl, by kernel_rfl, by kernel_rfl, by kernel_rfl⟩
  obtain ⟨t, e, k1, k2, k3, k4, k5⟩ := tA
  obtain rfl := Option.some.inj (gA.symm.trans hg1)
  obtain rfl := Option.some.inj (k1.symm.trans ht1)
  have eD : (Rows.laid_strings_asciiSpace : DataW Unit) = .agg (ascii.map fun n => .lit (.int .u8 n)) := by kernel_rfl
  rw [eD] at hd1
  have hR := CM.rowsAt_of_trod (ρ := CM.rho0 1) gA hv1 k2 k3 k4 k5 hd1
  obtain ⟨arr, ty, fz, hw, _⟩ := hR _ (List.mem_singleton.2 rfl)
  exact ⟨(Array.getElem?_eq_some_iff.1 hw).1, hR⟩

theorem lifted (os : Os) (started : os.Started) (H : Type) (enc : TypeId × Value → H) :
    ReturnsInHanded {} Tryz.checked os 3 .any (fun w args => (Rows.indexNamesSpec.pre enc Tryz.prog Tryz.f3 [] false w args ∧ laidMetH Tryz.prog laidL w) ∧ sizedMet enc Tryz.prog Tryz.f3 (OpenSpec.ofChange Rows.indexNamesSpec) false w args)
      (Rows.indexNamesSpec.post enc Tryz.prog Tryz.f3 false true false false) := by
  refine returnsInHanded_of_change_and (C := Tryz.checked) (X := fun w _ => laidMetH Tryz.prog laidL w) (fun _ _ _ hh h => h.of_heap hh) own started (by kernel_rfl) Tryz.func3
    (ChangeSpec.witness_shaped (enc := enc) (C := Tryz.checked) (os := os) (X := fun w _ => laidMetH Tryz.prog laidL w) false (World.doorLaid Tryz.prog 400 os) #[] 8 rfl (World.shaped_of_RefB (by kernel_rfl) (by kernel_rfl)) (by kernel_rfl) (by kernel_rfl) (by kernel_rfl) (door_met os _)) ?_
  intro W base args ds gs before _ hW _ _ hL _
  obtain ⟨h1, h2⟩ := of_laid hL
  have hargs : args = #[] := by
    obtain ⟨p, q, hA, _⟩ := hW
    have hp : Tryz.f3.params.toList = [] := by kernel_rfl
    rw [hp] at hA
    generalize he : args.toList = l at hA
    cases l <;> cases ds <;> simp [DataW.TrodAll] at hA
    exact Array.toList_eq_nil_iff.1 he
  subst hargs
  refine (CM.closed_call (envW ok95) runs h1 h2).mono fun e W' ⟨he, hk⟩ => ?_
  subst he
  exact ⟨_, rfl, CM.post_closed hW (by kernel_rfl) rfl (t := 4) (by kernel_rfl) (by kernel_rfl) (by kernel_rfl) rfl hk⟩

end
end Go.Proofs.YtnjlkanpldfdlabGreatDoor
