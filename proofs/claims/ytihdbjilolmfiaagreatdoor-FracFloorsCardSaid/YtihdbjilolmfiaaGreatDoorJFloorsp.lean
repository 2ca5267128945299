import Derived.Test.YtihdbjilolmfiaaGreatDoorRows
import Derived.Test.YtihdbjilolmfiaaGreatDoorCards
import Derived.Test.YtihdbjilolmfiaaGreatDoorTie
import Derived.JoinedCond
import Derived.SevenTiedAt
/- The closed facts of the row of FracFloors. -/
namespace Go.Proofs.YtihdbjilolmfiaaGreatDoor
namespace fracFloors
theorem and2 {a b : Bool} (h1 : a = true) (h2 : b = true) : (a && b) = true := by rw [h1, h2]; rfl
set_option maxRecDepth 100000 in
set_option maxHeartbeats 4000000 in
theorem joined : joinedFacts Tryz.prog 11 Tryz.f11 (OpenSpec.ofChange Rows.fracFloorsSpec).bare Rows.fracFloorsRow = true := by
 unfold joinedFacts
 refine and2 (and2 (and2 (and2 (and2 (and2 (and2 (and2 (and2 (and2 (and2 (and2 (and2 (and2 (and2 (and2 (and2 (and2 (and2 (and2 (and2 (and2 (and2 (and2 (and2 (and2 (and2 (and2 (and2 (and2 (and2 ?_ ?_) ?_) ?_) ?_) ?_) ?_) ?_) ?_) ?_) ?_) ?_) ?_) ?_) ?_) ?_) ?_) ?_) ?_) ?_) ?_) ?_) ?_) ?_) ?_) ?_) ?_) ?_) ?_) ?_) ?_) ?_
 all_goals (as_aux_lemma => kernel_rfl)
theorem wfText : Rows.fracFloorsRow.wfByText (OpenSpec.ofChange Rows.fracFloorsSpec) = true := by kernel_rfl
theorem mainFact : Tryz.pinned.checked.prog.mainIs = some (Rows.fracFloorsCard.stood.harness.1, Rows.fracFloorsCard.stood.harness.2.toList) := by kernel_rfl
theorem goesFact : false = Rows.fracFloorsRow.goesBy Tryz.pinned.checked.prog := by kernel_rfl
end fracFloors
end Go.Proofs.YtihdbjilolmfiaaGreatDoor
