/- IndexNames: the chapter's example comes out as it tells: the tied card holds. No condition of its own. -/
import Derived.Test.YtnjlkanpldfdlabGreatDoorRowIb
import Derived.Test.YtnjlkanpldfdlabGreatDoorRowIg0
import Derived.Test.YtnjlkanpldfdlabGreatDoorRowIg1
import Derived.Test.YtnjlkanpldfdlabGreatDoorRowIg2
import Derived.Test.YtnjlkanpldfdlabGreatDoorRows
import Derived.Test.YtnjlkanpldfdlabGreatDoorTie
import Derived.Test.YtnjlkanpldfdlabGreatDoorCards
import Derived.ProofKit
import Derived.LaidMore
import Derived.Stop.Joined
import Derived.SevenTiedAt
namespace Go.Proofs.YtnjlkanpldfdlabGreatDoor
set_option linter.unusedVariables false
set_option linter.unusedSimpArgs false
open Go Go.ChangeShapes Go.WideShapes Go.ChangeAt Go.WideMaps Go.WideElems Go.RowKit
set_option maxRecDepth 100000

noncomputable section
theorem card_holds : Rows.IndexNamesCardSaid :=
  Claim7.holds_tied_plain_at .later [] [.listed, .data] true (true, "642b7a559c0655f9eb8df3afd3b891f0bc2ffe05ab4721630e87256c5baa6081") true
    indexNames_holds (fun _ h => by cases h) cf0 (fun _ h => by cases h) indexNames_row_tie rfl ⟨rfl, rfl⟩ cf1 rfl
    (fun f fn hf hfn => by
      obtain rfl : f = 3 := Option.some.inj (cf2.symm.trans hf) |>.symm
      obtain rfl : fn = Tryz.f3 := (Option.some.inj (Tryz.func3.symm.trans hfn)).symm
      exact ⟨cf3, fun j t ht => by
        have hp : Tryz.f3.params = #[] := by kernel_rfl
        rw [hp] at ht
        simp at ht⟩)
    cf4
#print axioms card_holds
end
end Go.Proofs.YtnjlkanpldfdlabGreatDoor
