/- StateGone, for every state and number that are handed in: the tied card holds. No condition of its own. -/
import Derived.Test.YtnjkaahbhebaeaaGreatDoorGSg
import Derived.Test.YtnjkaahbhebaeaaGreatDoorRF1SG
import Derived.Test.YtnjkaahbhebaeaaGreatDoorRF2SG
import Derived.Test.YtnjkaahbhebaeaaGreatDoorRF3SG
import Derived.Carry
import Derived.Test.YtnjkaahbhebaeaaGreatDoorRows
import Derived.Test.YtnjkaahbhebaeaaGreatDoorTie
import Derived.Test.YtnjkaahbhebaeaaGreatDoorCards
import Derived.ProofKit
import Derived.LaidMore
import Derived.Stop.Joined
import Derived.SevenTiedAt
import Derived.Test.YtnjkaahbhebaeaaGreatDoorRF4SG
set_option linter.unusedVariables false
set_option linter.unusedSimpArgs false
namespace Go.Proofs.YtnjkaahbhebaeaaGreatDoor
open Go Go.ChangeShapes Go.WideShapes Go.ChangeAt Go.WideMaps Go.WideElems Go.RowKit
set_option maxRecDepth 100000
noncomputable section
theorem joined:joinedFacts Tryz.prog 6 Tryz.f6 Rows.stateGoneSpec Rows.stateGoneRow=true:=by
 unfold joinedFacts
 simp only[Bool.and_eq_true]
 exact⟨⟨⟨⟨⟨⟨⟨⟨⟨⟨⟨⟨⟨⟨⟨⟨⟨⟨⟨⟨⟨⟨⟨⟨⟨⟨⟨⟨⟨⟨⟨jf0,jf1⟩,jf2⟩,jf3⟩,jf4⟩,jf5⟩,jf6⟩,jf7⟩,jf8⟩,jf9⟩,jf10⟩,jf11⟩,jf12⟩,jf13⟩,jf14⟩,jf15⟩,jf16⟩,jf17⟩,jf18⟩,jf19⟩,jf20⟩,jf21⟩,jf22⟩,jf23⟩,jf24⟩,jf25⟩,jf26⟩,jf27⟩,jf28⟩,jf29⟩,jf30⟩,jf31⟩
theorem stateGone_holds:Rows.StateGoneSaid:=
 OpenClaim.holds_of_wide 6 Tryz.f6 rfl rfl rfl rfl rfl rfl rfl ⟨rfl,rfl,rfl,rfl,rfl⟩ rfl rfl rfl rfl rfl (by kernel_rfl) Tryz.func6 joined
  (of_decide_eq_true (by kernel_rfl)) (by unfold Func.isWrapper;first|(rw[if_pos (by decide+kernel)];kernel_rfl)|(rw[if_neg (by decide+kernel)];exact⟨rfl,rfl⟩))
  (λos started H enc _=>lifted os started H enc)
end
end Go.Proofs.YtnjkaahbhebaeaaGreatDoor

namespace Go.Proofs.YtnjkaahbhebaeaaGreatDoor
open Go Go.ChangeShapes Go.WideShapes Go.ChangeAt Go.WideMaps Go.WideElems Go.RowKit
set_option maxRecDepth 100000
noncomputable section
theorem card_holds:Rows.StateGoneCardSaid:=
 Claim7.holds_tied_plain_at .later [] [.listed,.data] true (true,"a2ee8ca2ff0692cb9d9c9e74d36470ddb9de0f9759f0cc331b3d5163bf5e61d1") false
  stateGone_holds (λ_ h=>by cases h) cf0 (λ_ h=>by cases h) stateGone_row_tie rfl ⟨rfl,rfl⟩ cf1 rfl
  (λf fn hf hfn=>by
   obtain rfl:f=6:=Option.some.inj (cf2.symm.trans hf) |>.symm
   obtain rfl:fn=Tryz.f6:=(Option.some.inj (Tryz.func6.symm.trans hfn)).symm
   exact⟨cf3,λj t ht=>by
    have hp:Tryz.f6.params= #[79,3]:=by kernel_rfl
    rw[hp]at ht
    have hm:t∈[79,3]:=by simpa using Array.mem_of_getElem? ht
    have hall:([79,3].all λu=> !Tryz.prog.wantsStandIn u)=true:=by kernel_rfl
    exact(show Tryz.prog.wantsStandIn t=false by simpa using List.all_eq_true.1 hall t hm)⟩)
  (by kernel_rfl)
#print axioms card_holds
end
end Go.Proofs.YtnjkaahbhebaeaaGreatDoor
