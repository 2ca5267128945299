import Derived.Test.YtbaiohjladddlaaDoorW9
import Derived.Test.YtbaiohjladddlaaDoorShelf
/- whole: div. -/
namespace Go.Proofs.YtbaiohjladddlaaDoor
open Go.RowKit Go.WM Go.WR

theorem clone_any (va : Value) (X : List Int) (w : World) (hlen : X.length ≤ 70368744177662) (hA : Lims w.heap.size w va X) :
    Calls Tryd.prog 39 #[va] w fun e w' => ∃ v, e = .returned v ∧ Own16 w.heap.size w' v X ∧ Below w.heap.size w w' := by
  obtain ⟨i0, hi, hz0, hz1, hz2⟩ := info_parts info40
  rcases hA with ⟨rfl, rfl⟩ | ⟨b, off, cap, rfl, hl, hb, hc⟩
  · refine (Tryd.slices_Clone_nil 0 0 w).mono ?_
    rintro e w' ⟨rfl, rfl⟩
    exact ⟨_, rfl, World.ownsRow_nil _ _ _ _, Below.refl _ _⟩
  · refine (Tryd.slices_Clone i0 (.int .u16 0) 1 2 hi hz0 hz1 hz2 rfl (by decide) (Tryd.sizeOf40) b off X.length cap (X.map (Value.int .u16)) w (by simp) (by unfold maxLen; omega) (by omega) ?_ ?_).mono ?_
    · intro j u hj
      have hlt : j < X.length := by
        apply Nat.lt_of_not_le; intro h; rw [List.getElem?_eq_none (by simpa using h)] at hj; cases hj
      have h1 : (X.map (Value.int .u16))[j]? = some (.int .u16 (X[j]?.getD 0)) := by simp [hlt]
      rw [h1] at hj; cases hj
      exact hc j hlt
    · intro u hu
      obtain ⟨x, _, rfl⟩ := List.mem_map.1 hu
      rfl
    · rintro e w' ⟨v, rfl, hown, _, hB⟩
      exact ⟨v, rfl, hown, hB⟩

/-- what div hands back -/
def DivPost (n m : Int) (w : World) (e : Ending) (w' : World) : Prop :=
  ∃ q r zq zr, e = .returned (.tuple #[q, r]) ∧ Own16 w.heap.size w' q zq ∧ Own16 w.heap.size w' r zr ∧ Rep zq (n / m) ∧ Rep zr (n % m) ∧ Below w.heap.size w w'

set_option maxRecDepth 100000 in
set_option maxHeartbeats 1000000 in
theorem div_less (px py : Option Addr) (lx ly cx cy : Nat) (X Y : List Int) (n m : Int) (w : World) (hX : Rep X n) (hY : Rep Y m) (hlx : lx ≤ 35184372088830) (hly : ly ≤ 35184372088830) (hnm : n < m)
    (hA : Lims w.heap.size w (.slice px lx cx) X) (hB : Lims w.heap.size w (.slice py ly cy) Y) :
    Calls Tryd.prog 40 #[.slice px lx cx, .slice py ly cy] w (DivPost n m w) := by
  have HX := Lib.hid hA.cells.1
  have HY := Lib.hid hB.cells.1
  have hcmp : cmpI n m < 0 := cmpI_lt.2 hnm
  have hA1 := hA.below ((Below.refl _ w).alloc (Nat.le_refl _) (.cells #[.slice none 0 0] 22))
  have hB1 := hB.below ((Below.refl _ w).alloc (Nat.le_refl _) (.cells #[.slice none 0 0] 22))
  have bR0 := Boxed.new w 22 (.slice none 0 0)
  go_enter Tryd.func40, Tryd.ntmps40
  go_wp2_with (go_at_call 64; refine (compare_any _ _ X Y n m _ hX hY (by have := HX.out; omega) (by have := HY.out; omega) (hA1.mono (by simp)) (hB1.mono (by simp))).mono ?_; rintro e w1 ⟨rfl, hb1⟩)
  have bR1 : Boxed w1 w.heap.size 22 (.slice none 0 0) := (hb1.block w.heap.size (by simp)).trans bR0
  have hs1 : w.heap.size + 1 ≤ w1.heap.size := by have := hb1.size; simpa using this
  have hB2 : Below w.heap.size w w1 := ((Below.refl _ w).alloc (Nat.le_refl _) _).trans (hb1.mono (by simp))
  go_wp2_with (go_at_call 39; refine (clone_any _ X _ (by have := HX.out; omega) ((hA.below hB2).mono (by omega))).mono ?_; rintro e w2 ⟨v, rfl, hown, hb2⟩; have bR2 : Boxed w2 w.heap.size 22 (.slice none 0 0) := (hb2.block w.heap.size (by omega)).trans bR1; have hc2 := bR2.cell; have hf2 := bR2.frozen)
  have bR3 := bR2.set (.slice none 0 0)
  have hc3 := bR3.cell
  obtain ⟨hq, hr⟩ := div_unique (a := n) (b := m) (q := 0) (r := n) (by omega) hX.nonneg hnm
  refine bodyPost_ret (v := .tuple #[.slice none 0 0, v]) (by simp [results, Tryd.results40, go_sem, hc3]) rfl ⟨_, v, [], X, rfl, World.ownsRow_nil _ _ _ _, ?_, by rw [← hq]; exact Rep.nil, by rw [← hr]; exact hX, ?_⟩
  · exact Own16.box (B := w.heap.size) (hown.mono (by omega)) bR2 (by decide) _
  · exact (hB2.trans (hb2.mono (by omega))).setCell (p := ⟨w.heap.size, 0, none⟩) (Nat.le_refl _) _

theorem made_one (w : World) (B : Nat) (x : Int) (hB : B ≤ w.heap.size) : Own16 B (w.alloc (.cells #[.int .u16 x] 40)) (.slice (some ⟨w.heap.size, 0, none⟩) 1 1) [x] := by
  refine ⟨rfl, .inr ⟨w.heap.size, 1, #[.int .u16 x], rfl, hB, World.alloc_heap_new w _, by simp, by decide, rfl, rfl⟩⟩

set_option maxRecDepth 100000 in
set_option maxHeartbeats 1000000 in
theorem div_short (px py : Option Addr) (lx cx cy : Nat) (X Y : List Int) (n m : Int) (w : World) (hX : Rep X n) (hY : Rep Y m) (hlx : lx ≤ 35184372088830) (hnm : m ≤ n) 
    (hA : Lims w.heap.size w (.slice px lx cx) X) (hB : Lims w.heap.size w (.slice py 1 cy) Y) :
    Calls Tryd.prog 40 #[.slice px lx cx, .slice py 1 cy] w (DivPost n m w) := by
  have HX := Lib.hid hA.cells.1
  have hY1 := hB.cells.1
  obtain ⟨y, rfl⟩ : ∃ y, Y = [y] := by
    match Y, hY1 with
    | [y], _ => exact ⟨y, rfl⟩
  obtain ⟨by', oy, rfl, hby, hcy, hcY⟩ := hB.cells.2 (by decide)
  have hcy0 : w.cell? ⟨by', oy, none⟩ = some (.int .u16 y) := hcY 0 (by decide)
  have hym : y = m := by have := hY.eq; simp [val] at this; exact this
  have hy0 : 1 ≤ y := by
    have h1 := hY.lm.head
    have h2 := hY.nz (by simp)
    simp at h2; omega
  have hy1 := hY.lm.head.2
  have hcmp : 0 ≤ cmpI n m := cmpI_le.2 hnm
  have hA1 := hA.below ((Below.refl _ w).alloc (Nat.le_refl _) (.cells #[.slice none 0 0] 22))
  have hB1 := hB.below ((Below.refl _ w).alloc (Nat.le_refl _) (.cells #[.slice none 0 0] 22))
  have bR0 := Boxed.new w 22 (.slice none 0 0)
  have HYM := Lib.hid hym
  clear hym hcY hY1
  go_enter Tryd.func40, Tryd.ntmps40
  go_wp2_with (go_at_call 64; refine (compare_any _ _ X [y] n m _ hX hY (by have := HX.out; omega) (by simp) (hA1.mono (by simp)) (hB1.mono (by simp))).mono ?_; rintro e w1 ⟨rfl, hb1⟩; have hB2 : Below w.heap.size w w1 := ((Below.refl _ w).alloc (Nat.le_refl _) _).trans (hb1.mono (by simp)); have hcy1 : w1.cell? ⟨by', oy, none⟩ = some (.int .u16 y) := (hB2.cell (p := ⟨by', oy, none⟩) hby).trans hcy0)
  have bR1 : Boxed w1 w.heap.size 22 (.slice none 0 0) := (hb1.block w.heap.size (by simp)).trans bR0
  have hs1 : w.heap.size + 1 ≤ w1.heap.size := by have := hb1.size; simpa using this
  go_wp2_with (go_at_call 43; refine (short_some _ _ _ _ X _ (by omega) hy0 (by omega) hX.lm ((hA.below hB2).mono (by omega))).mono ?_; rintro e w2 ⟨v, zs, rfl, hown, hrep, hb2⟩; obtain ⟨pv, lv, cv, rfl⟩ := hown.shape)
  have hs2 : w1.heap.size ≤ w2.heap.size := hb2.size
  have bR2 : Boxed w2 w.heap.size 22 (.slice none 0 0) := (hb2.block w.heap.size (by omega)).trans bR1
  have bR3 := bR2.alloc (.cells #[.int .u16 (IntKind.u16.wrap (val X % y))] 40)
  have hc3 := bR3.cell
  have hf3 := bR3.frozen
  go_wp2_with (go_at_call 54; refine (trimmed_own w.heap.size _ [IntKind.u16.wrap (val X % y)] _ (by simp) (made_one w2 w.heap.size _ (by omega))).mono ?_; rintro e w3 ⟨v3, rfl, hown3, rfl⟩)
  have hm0 := Int.emod_nonneg (val X) (show y ≠ 0 by omega)
  have hm1 := Int.emod_lt_of_pos (val X) (show 0 < y by omega)
  have hrw : IntKind.u16.wrap (val X % y) = val X % y := by rw [IntKind.wrap_u16]; omega
  have hLm : Lm [val X % y] := Lm.cons (by omega) Lm.nil
  have hrr := trim_rep hLm
  have hvr : val [val X % y] = n % m := by rw [hX.eq, HYM.out]; simp [val]
  rw [hvr] at hrr
  rw [hX.eq, HYM.out] at hrep
  have bR4 := bR3.set (.slice pv lv cv)
  have hc4 := bR4.cell
  refine bodyPost_ret (v := .tuple #[.slice pv lv cv, v3]) (by simp [results, Tryd.results40, go_sem, hc4]) rfl ⟨_, v3, zs, _, rfl, ?_, ?_, hrep, hrr, ?_⟩
  · exact Own16.box (B := w.heap.size) (Own16.alloc (hown.mono (by omega)) _) bR3 (by decide) _
  · have e3 : trim [IntKind.u16.wrap (val X % y)] = trim [val X % y] := by rw [hrw]
    rw [e3] at hown3; exact Own16.box (B := w.heap.size) hown3 bR3 (by decide) _
  · exact ((hB2.trans (hb2.mono (by omega))).alloc (by omega) _).setCell (p := ⟨w.heap.size, 0, none⟩) (Nat.le_refl _) _
end Go.Proofs.YtbaiohjladddlaaDoor
