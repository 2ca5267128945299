import Derived.Test.YtbaiohjladddlaaDoorW11
import Derived.Test.YtbaiohjladddlaaDoorW13
/- whole: div in every case; Add, Sub, Mul, DivMod. -/
namespace Go.Proofs.YtbaiohjladddlaaDoor
open Go.RowKit Go.WM Go.WR

attribute [local go_sem] Oper.semAt_some

theorem div_any (va vb : Value) (X Y : List Int) (n m : Int) (w : World) (hX : Rep X n) (hY : Rep Y m) (hm : 0 < m) (hlx : X.length ≤ 35184372088830) (hly : Y.length ≤ 35184372088830)
    (hA : Lims w.heap.size w va X) (hB : Lims w.heap.size w vb Y) : Calls Tryd.prog 40 #[va, vb] w (DivPost n m w) := by
  obtain ⟨px, lx, cx, rfl⟩ := hA.form
  obtain ⟨py, ly, cy, rfl⟩ := hB.form
  obtain rfl := hA.cells.1
  have hl := hB.cells.1
  rcases (show n < m ∨ m ≤ n by omega) with h | h
  · exact div_less px py _ ly cx cy X Y n m w hX hY hlx (by omega) h hA hB
  · have hp := hY.pos
    rcases (show ly = 1 ∨ 2 ≤ ly by omega) with rfl | h2
    · exact div_short px py _ cx cy X Y n m w hX hY hlx h hA hB
    · obtain ⟨k, rfl⟩ : ∃ k, ly = k + 2 := ⟨ly - 2, by omega⟩
      exact div_long px py _ cx cy k X Y n m w hX hY hlx h hA hB

theorem mul_any (va vb : Value) (X Y : List Int) (n m : Int) (w : World) (hX : Rep X n) (hY : Rep Y m) (hlx : X.length ≤ 35184372088831) (hly : Y.length ≤ 35184372088831)
    (hA : Lims w.heap.size w va X) (hB : Lims w.heap.size w vb Y) :
    Calls Tryd.prog 53 #[va, vb] w fun e w' => ∃ v zs, e = .returned v ∧ Own16 w.heap.size w' v zs ∧ Rep zs (n * m) ∧ Below w.heap.size w w' := by
  obtain ⟨px, lx, cx, rfl⟩ := hA.form
  obtain ⟨py, ly, cy, rfl⟩ := hB.form
  obtain rfl := hA.cells.1
  obtain rfl := hB.cells.1
  exact mul_some px py _ _ cx cy X Y n m w hX hY hlx hly hA hB

end Go.Proofs.YtbaiohjladddlaaDoor
