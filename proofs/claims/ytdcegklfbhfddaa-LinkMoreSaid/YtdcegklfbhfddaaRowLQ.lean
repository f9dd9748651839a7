/- LinkMore: a window more in which it is closed lets no link be begun earlier, one more in which a door is open none later: the law holds. No condition of its own. -/
import Derived.Test.YtdcegklfbhfddaaXPb
import Derived.Test.YtdcegklfbhfddaaRows
import Derived.ProofKit
import Derived.LaidMore
import Derived.Stop.Joined
namespace Go.Proofs.Ytdcegklfbhfddaa
set_option linter.unusedVariables false
set_option linter.unusedSimpArgs false
open Go Go.ChangeShapes Go.WideShapes Go.ChangeAt Go.WideMaps Go.WideElems Go.RowKit
set_option maxRecDepth 100000

noncomputable section
theorem own : ownKnob Try.prog.godebug = none := by kernel_rfl
theorem lifted (os : Os) (started : os.Started) (H : Type) (enc : TypeId × Value → H) :
    ReturnsInHanded {} Try.checked os 3 .any (Rows.linkMoreSpec.pre6 enc Try.prog Try.f3 [] false) (Rows.linkMoreSpec.post enc Try.prog Try.f3 false true false false) := by
  refine returnsInHanded_of_change (C := Try.checked) own started (by kernel_rfl) Try.func3
    (ChangeSpec.witness6 (enc := enc) (C := Try.checked) false ⟨#[], #[.agg #[.int .i64 0, .slice none 0 0, .slice none 0 0], .int .i64 0, .int .i64 0, .agg #[.int .i64 0, .int .i64 0], .bool false], []⟩ 8 (by kernel_rfl) (by kernel_rfl) (by kernel_rfl) (by kernel_rfl)) ?_
  intro W base args ds gs before hval0 hW _ _
  have hval : ∀ (j : Nat) t v, Try.f3.params[j]? = some t → args[j]? = some v → Value.okWide Try.prog W .any base t v := hval0
  have hW' := hW
  obtain ⟨p, q, hA0, _, _, _, _⟩ := hW
  have hp : Try.f3.params = #[25, 3, 2, 27, 4] := by kernel_rfl
  have hA : DataW.TrodAll enc Try.prog W 0 (fun _ => true) true [25, 3, 2, 27, 4] args.toList ds p := by
    have : Try.f3.params.toList = [25, 3, 2, 27, 4] := by rw [hp]
    rw [← this]; exact hA0
  rw [hp] at hval
  obtain ⟨v0, vs0, d0, ds0, p0, q0, ha0, rfl, _, t0, r0⟩ := trodAll_cons hA
  obtain ⟨v1, vs1, d1, ds1, p1, q1, rfl, rfl, _, t1, r1⟩ := trodAll_cons r0
  obtain ⟨v2, vs2, d2, ds2, p2, q2, rfl, rfl, _, t2, r2⟩ := trodAll_cons r1
  obtain ⟨v3, vs3, d3, ds3, p3, q3, rfl, rfl, _, t3, r3⟩ := trodAll_cons r2
  obtain ⟨v4, vs4, d4, ds4, p4, q4, rfl, rfl, _, t4, r4⟩ := trodAll_cons r3
  obtain ⟨rfl, rfl, _⟩ := trodAll_nil r4
  obtain rfl : args = #[v0, v1, v2, v3, v4] := by cases args; simp_all
  obtain ⟨a, rfl, _, _, _⟩ := open_int Try.underlying3 (hval 1 _ _ rfl rfl) t1
  obtain ⟨b, rfl, _, _, _⟩ := open_int Try.underlying2 (hval 2 _ _ rfl rfl) t2
  obtain ⟨c, rfl, _⟩ := open_bool Try.underlying4 (hval 4 _ _ rfl rfl) t4
  refine (law_runs t0 a b t3 c).mono fun e W' ⟨x, he, hx, hk⟩ => ?_
  subst he
  rw [hx.inv_bool]
  exact ⟨_, rfl, CM.post_inputs (by kernel_rfl) (by kernel_rfl) hW' rfl (t := 4) (by kernel_rfl) (by kernel_rfl) (by kernel_rfl) rfl hk⟩

theorem linkMore_holds : Rows.LinkMoreSaid :=
  OpenClaim.holds_of_wide 3 Try.f3 rfl rfl rfl rfl rfl rfl rfl ⟨rfl, rfl, rfl, rfl, rfl⟩ rfl rfl rfl rfl rfl (by kernel_rfl) Try.func3 (by kernel_rfl)
    (of_decide_eq_true (by kernel_rfl)) (by unfold Func.isWrapper; first | (rw [if_pos (by decide +kernel)]; kernel_rfl) | (rw [if_neg (by decide +kernel)]; exact ⟨rfl, rfl⟩))
    (fun os started H enc _ => lifted os started H enc)
#print axioms linkMore_holds
end
end Go.Proofs.Ytdcegklfbhfddaa
