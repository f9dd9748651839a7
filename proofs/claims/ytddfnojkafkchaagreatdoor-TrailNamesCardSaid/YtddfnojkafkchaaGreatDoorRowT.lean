/- TrailNames: the chapter's example comes out as it tells: the tied card holds. No condition of its own. -/
import Derived.Test.YtddfnojkafkchaaGreatDoorRowTb
import Derived.Test.YtddfnojkafkchaaGreatDoorRowTg0
import Derived.Test.YtddfnojkafkchaaGreatDoorRowTg1
import Derived.Test.YtddfnojkafkchaaGreatDoorRowTg2
import Derived.Test.YtddfnojkafkchaaGreatDoorRows
import Derived.Test.YtddfnojkafkchaaGreatDoorTie
import Derived.Test.YtddfnojkafkchaaGreatDoorCards
import Derived.ProofKit
import Derived.LaidMore
import Derived.Stop.Joined
import Derived.SevenTiedAt
namespace Go.Proofs.YtddfnojkafkchaaGreatDoor
set_option linter.unusedVariables false
set_option linter.unusedSimpArgs false
open Go Go.ChangeShapes Go.WideShapes Go.ChangeAt Go.WideMaps Go.WideElems Go.RowKit
set_option maxRecDepth 100000

noncomputable section
theorem card_holds : Rows.TrailNamesCardSaid :=
  Claim7.holds_tied_plain_at .later [] [.data, .listed, .data] true (true, "d1d9b228b6471e7f28ca4dbdc7814efbd6a47cb152f7f4d8268337887bd21276") true
    trailNames_holds (fun _ h => by cases h) cf0 (fun _ h => by cases h) trailNames_row_tie rfl ⟨rfl, rfl⟩ cf1 rfl
    (fun f fn hf hfn => by
      obtain rfl : f = 3 := Option.some.inj (cf2.symm.trans hf) |>.symm
      obtain rfl : fn = Tryz.f3 := (Option.some.inj (Tryz.func3.symm.trans hfn)).symm
      exact ⟨cf3, fun j t ht => by
        have hp : Tryz.f3.params = #[] := by kernel_rfl
        rw [hp] at ht
        simp at ht⟩)
    cf4
#print axioms card_holds
end
end Go.Proofs.YtddfnojkafkchaaGreatDoor
