/- IndexNames: the chapter's example comes out as it tells: the tied card holds. No condition of its own. -/
import Derived.Test.YtnjlkanpldfdlabGreatDoorRowIa
import Derived.Test.YtnjlkanpldfdlabGreatDoorRowIf0
import Derived.Test.YtnjlkanpldfdlabGreatDoorRowIf1
import Derived.Test.YtnjlkanpldfdlabGreatDoorRowIf2
import Derived.Test.YtnjlkanpldfdlabGreatDoorRowIf3
import Derived.Test.YtnjlkanpldfdlabGreatDoorRowIf4
import Derived.Test.YtnjlkanpldfdlabGreatDoorRowIf5
import Derived.Test.YtnjlkanpldfdlabGreatDoorRowIf6
import Derived.Test.YtnjlkanpldfdlabGreatDoorRowIf7
import Derived.Test.YtnjlkanpldfdlabGreatDoorRows
import Derived.Test.YtnjlkanpldfdlabGreatDoorTie
import Derived.Test.YtnjlkanpldfdlabGreatDoorCards
import Derived.ProofKit
import Derived.LaidMore
import Derived.Stop.Joined
import Derived.SevenTiedAt
namespace Go.Proofs.YtnjlkanpldfdlabGreatDoor
set_option linter.unusedVariables false
set_option linter.unusedSimpArgs false
open Go Go.ChangeShapes Go.WideShapes Go.ChangeAt Go.WideMaps Go.WideElems Go.RowKit
set_option maxRecDepth 100000

noncomputable section
theorem joined : joinedFacts Tryz.prog 3 Tryz.f3 Rows.indexNamesSpec Rows.indexNamesRow = true := by
  unfold joinedFacts
  simp only [Bool.and_eq_true]
  exact ⟨⟨⟨⟨⟨⟨⟨⟨⟨⟨⟨⟨⟨⟨⟨⟨⟨⟨⟨⟨⟨⟨⟨⟨⟨⟨⟨⟨⟨⟨⟨jf0, jf1⟩, jf2⟩, jf3⟩, jf4⟩, jf5⟩, jf6⟩, jf7⟩, jf8⟩, jf9⟩, jf10⟩, jf11⟩, jf12⟩, jf13⟩, jf14⟩, jf15⟩, jf16⟩, jf17⟩, jf18⟩, jf19⟩, jf20⟩, jf21⟩, jf22⟩, jf23⟩, jf24⟩, jf25⟩, jf26⟩, jf27⟩, jf28⟩, jf29⟩, jf30⟩, jf31⟩
theorem indexNames_holds : Rows.IndexNamesSaid :=
  OpenClaim.holds_of_wide 3 Tryz.f3 rfl rfl rfl rfl rfl rfl rfl ⟨rfl, rfl, rfl, rfl, rfl⟩ rfl rfl rfl rfl rfl (by kernel_rfl) Tryz.func3 joined
    (of_decide_eq_true (by kernel_rfl)) (by unfold Func.isWrapper; first | (rw [if_pos (by decide +kernel)]; kernel_rfl) | (rw [if_neg (by decide +kernel)]; exact ⟨rfl, rfl⟩))
    (fun os started H enc _ => lifted os started H enc)

end
end Go.Proofs.YtnjlkanpldfdlabGreatDoor
