import Derived.Test.YtihdbjilolmfiaaGreatDoorRows
import Derived.Test.YtihdbjilolmfiaaGreatDoorCards
import Derived.Test.YtihdbjilolmfiaaGreatDoorTie
import Derived.JoinedCond
import Derived.SevenTiedAt
/- The closed facts of the row of FracField. -/
namespace Go.Proofs.YtihdbjilolmfiaaGreatDoor
namespace fracField
theorem and2 {a b : Bool} (h1 : a = true) (h2 : b = true) : (a && b) = true := by rw [h1, h2]; rfl
set_option maxRecDepth 100000 in
set_option maxHeartbeats 4000000 in
theorem joined : joinedFacts Tryz.prog 8 Tryz.f8 (OpenSpec.ofChange Rows.fracFieldSpec).bare Rows.fracFieldRow = true := by
 unfold joinedFacts
 refine and2 (and2 (and2 (and2 (and2 (and2 (and2 (and2 (and2 (and2 (and2 (and2 (and2 (and2 (and2 (and2 (and2 (and2 (and2 (and2 (and2 (and2 (and2 (and2 (and2 (and2 (and2 (and2 (and2 (and2 (and2 ?_ ?_) ?_) ?_) ?_) ?_) ?_) ?_) ?_) ?_) ?_) ?_) ?_) ?_) ?_) ?_) ?_) ?_) ?_) ?_) ?_) ?_) ?_) ?_) ?_) ?_) ?_) ?_) ?_) ?_) ?_) ?_
 all_goals (as_aux_lemma => kernel_rfl)
theorem wfText : Rows.fracFieldRow.wfByText (OpenSpec.ofChange Rows.fracFieldSpec) = true := by kernel_rfl
theorem mainFact : Tryz.pinned.checked.prog.mainIs = some (Rows.fracFieldCard.stood.harness.1, Rows.fracFieldCard.stood.harness.2.toList) := by kernel_rfl
theorem goesFact : false = Rows.fracFieldRow.goesBy Tryz.pinned.checked.prog := by kernel_rfl
end fracField
end Go.Proofs.YtihdbjilolmfiaaGreatDoor
