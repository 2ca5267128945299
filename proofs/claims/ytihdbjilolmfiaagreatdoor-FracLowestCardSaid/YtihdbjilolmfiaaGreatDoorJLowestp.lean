import Derived.Test.YtihdbjilolmfiaaGreatDoorRows
import Derived.Test.YtihdbjilolmfiaaGreatDoorCards
import Derived.Test.YtihdbjilolmfiaaGreatDoorTie
import Derived.JoinedCond
import Derived.SevenTiedAt
/- The closed facts of the row of FracLowest. -/
namespace Go.Proofs.YtihdbjilolmfiaaGreatDoor
namespace fracLowest
theorem and2 {a b : Bool} (h1 : a = true) (h2 : b = true) : (a && b) = true := by rw [h1, h2]; rfl
set_option maxRecDepth 100000 in
set_option maxHeartbeats 4000000 in
theorem joined : joinedFacts Tryz.prog 10 Tryz.f10 (OpenSpec.ofChange Rows.fracLowestSpec).bare Rows.fracLowestRow = true := by
 unfold joinedFacts
 refine and2 (and2 (and2 (and2 (and2 (and2 (and2 (and2 (and2 (and2 (and2 (and2 (and2 (and2 (and2 (and2 (and2 (and2 (and2 (and2 (and2 (and2 (and2 (and2 (and2 (and2 (and2 (and2 (and2 (and2 (and2 ?_ ?_) ?_) ?_) ?_) ?_) ?_) ?_) ?_) ?_) ?_) ?_) ?_) ?_) ?_) ?_) ?_) ?_) ?_) ?_) ?_) ?_) ?_) ?_) ?_) ?_) ?_) ?_) ?_) ?_) ?_) ?_
 all_goals (as_aux_lemma => kernel_rfl)
theorem wfText : Rows.fracLowestRow.wfByText (OpenSpec.ofChange Rows.fracLowestSpec) = true := by kernel_rfl
theorem mainFact : Tryz.pinned.checked.prog.mainIs = some (Rows.fracLowestCard.stood.harness.1, Rows.fracLowestCard.stood.harness.2.toList) := by kernel_rfl
theorem goesFact : false = Rows.fracLowestRow.goesBy Tryz.pinned.checked.prog := by kernel_rfl
end fracLowest
end Go.Proofs.YtihdbjilolmfiaaGreatDoor
