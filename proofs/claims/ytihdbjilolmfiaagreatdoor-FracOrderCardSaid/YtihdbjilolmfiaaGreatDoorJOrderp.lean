import Derived.Test.YtihdbjilolmfiaaGreatDoorRows
import Derived.Test.YtihdbjilolmfiaaGreatDoorCards
import Derived.Test.YtihdbjilolmfiaaGreatDoorTie
import Derived.JoinedCond
import Derived.SevenTiedAt
/- The closed facts of the row of FracOrder. -/
namespace Go.Proofs.YtihdbjilolmfiaaGreatDoor
namespace fracOrder
theorem and2 {a b : Bool} (h1 : a = true) (h2 : b = true) : (a && b) = true := by rw [h1, h2]; rfl
set_option maxRecDepth 100000 in
set_option maxHeartbeats 4000000 in
theorem joined : joinedFacts Tryz.prog 6 Tryz.f6 (OpenSpec.ofChange Rows.fracOrderSpec).bare Rows.fracOrderRow = true := by
 unfold joinedFacts
 refine and2 (and2 (and2 (and2 (and2 (and2 (and2 (and2 (and2 (and2 (and2 (and2 (and2 (and2 (and2 (and2 (and2 (and2 (and2 (and2 (and2 (and2 (and2 (and2 (and2 (and2 (and2 (and2 (and2 (and2 (and2 ?_ ?_) ?_) ?_) ?_) ?_) ?_) ?_) ?_) ?_) ?_) ?_) ?_) ?_) ?_) ?_) ?_) ?_) ?_) ?_) ?_) ?_) ?_) ?_) ?_) ?_) ?_) ?_) ?_) ?_) ?_) ?_
 all_goals (as_aux_lemma => kernel_rfl)
theorem wfText : Rows.fracOrderRow.wfByText (OpenSpec.ofChange Rows.fracOrderSpec) = true := by kernel_rfl
theorem mainFact : Tryz.pinned.checked.prog.mainIs = some (Rows.fracOrderCard.stood.harness.1, Rows.fracOrderCard.stood.harness.2.toList) := by kernel_rfl
theorem goesFact : false = Rows.fracOrderRow.goesBy Tryz.pinned.checked.prog := by kernel_rfl
end fracOrder
end Go.Proofs.YtihdbjilolmfiaaGreatDoor
