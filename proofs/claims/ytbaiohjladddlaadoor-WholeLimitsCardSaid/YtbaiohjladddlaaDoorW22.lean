import Derived.Test.YtbaiohjladddlaaDoorW16
/- whole: DivMod. -/
namespace Go.Proofs.YtbaiohjladddlaaDoor
open Go.RowKit Go.WM Go.WR
attribute [local go_sem] Oper.semAt_some

theorem alloc5 (w : World) (a b c d e : Obj) : (((((w.alloc a).alloc b).alloc c).alloc d).alloc e).heap[w.heap.size]? = some a ∧ (((((w.alloc a).alloc b).alloc c).alloc d).alloc e).heap[w.heap.size + 1]? = some b ∧ (((((w.alloc a).alloc b).alloc c).alloc d).alloc e).heap[w.heap.size + 1 + 1]? = some c ∧ (((((w.alloc a).alloc b).alloc c).alloc d).alloc e).heap[w.heap.size + 1 + 1 + 1]? = some d ∧ (((((w.alloc a).alloc b).alloc c).alloc d).alloc e).heap[w.heap.size + 1 + 1 + 1 + 1]? = some e :=
  ⟨alloc_old _ _ (alloc4 w a b c d).1, alloc_old _ _ (alloc4 w a b c d).2.1, alloc_old _ _ (alloc4 w a b c d).2.2.1, alloc_old _ _ (alloc4 w a b c d).2.2.2, alloc_new _ _ (by rw [World.size_alloc, World.size_alloc, World.size_alloc, World.size_alloc])⟩

/-- quotient and remainder, rounding down: the remainder is 0 or has the sign of b -/
structure Floor (a b q r : Int) : Prop where
  eq : a = q * b + r
  pos : 0 < b → 0 ≤ r ∧ r < b
  neg : b < 0 → b < r ∧ r ≤ 0

theorem Floor.unique {a b q r q' r' : Int} (hb : b ≠ 0) (h : Floor a b q r) (h' : Floor a b q' r') : q = q' ∧ r = r' := by
  have e : (q - q') * b = r' - r := by rw [Int.sub_mul]; have := h.eq; have := h'.eq; omega
  have hq : q - q' = 0 := by
    rcases (show 0 < b ∨ b < 0 by omega) with hp | hn
    · obtain ⟨h1, h2⟩ := h.pos hp
      obtain ⟨h3, h4⟩ := h'.pos hp
      rcases (show q - q' = 0 ∨ 1 ≤ q - q' ∨ q - q' ≤ -1 by omega) with k | k | k
      · exact k
      · have := Int.mul_le_mul_of_nonneg_right k (show 0 ≤ b by omega); omega
      · have := Int.mul_le_mul_of_nonneg_right k (show 0 ≤ b by omega); omega
    · obtain ⟨h1, h2⟩ := h.neg hn
      obtain ⟨h3, h4⟩ := h'.neg hn
      rcases (show q - q' = 0 ∨ 1 ≤ q - q' ∨ q - q' ≤ -1 by omega) with k | k | k
      · exact k
      · have := Int.mul_le_mul_of_nonpos_right k (show b ≤ 0 by omega); omega
      · have := Int.mul_le_mul_of_nonpos_right k (show b ≤ 0 by omega); omega
  rw [hq, Int.zero_mul] at e
  omega

/-- the quotient and the remainder out of those of the absolute values -/
theorem floor_same {a b : Int} (hb : b ≠ 0) (h : decide (a < 0) = decide (b < 0)) : Floor a b ((a.natAbs : Int) / b.natAbs) (sgn (decide (b < 0)) ((a.natAbs : Int) % b.natAbs)) := by
  have h1 := Int.mul_ediv_add_emod (a.natAbs : Int) b.natAbs
  have h2 := Int.emod_nonneg (a.natAbs : Int) (show (b.natAbs : Int) ≠ 0 by omega)
  have h3 := Int.emod_lt_of_pos (a.natAbs : Int) (show (0 : Int) < b.natAbs by omega)
  generalize (a.natAbs : Int) / b.natAbs = q at *
  generalize (a.natAbs : Int) % b.natAbs = r at *
  rcases (show b < 0 ∨ 0 < b by omega) with hn | hp
  · have ha : a < 0 := by rw [decide_eq_true hn] at h; exact of_decide_eq_true h
    rw [decide_eq_true hn, sgn_true]
    rw [show (b.natAbs : Int) = -b by omega, Int.neg_mul, Int.mul_comm] at h1
    exact ⟨by omega, fun _ => by omega, fun _ => by omega⟩
  · have ha : ¬ a < 0 := by rw [decide_eq_false (show ¬ b < 0 by omega)] at h; exact of_decide_eq_false h
    rw [decide_eq_false (show ¬ b < 0 by omega), sgn_false]
    rw [show (b.natAbs : Int) = b by omega, Int.mul_comm] at h1
    exact ⟨by omega, fun _ => by omega, fun _ => by omega⟩
theorem floor_zero {a b : Int} (hb : b ≠ 0) (h : decide (a < 0) ≠ decide (b < 0)) (hr : (a.natAbs : Int) % b.natAbs = 0) : Floor a b (-((a.natAbs : Int) / b.natAbs)) 0 := by
  have h1 := Int.mul_ediv_add_emod (a.natAbs : Int) b.natAbs
  generalize (a.natAbs : Int) / b.natAbs = q at *
  rw [hr] at h1
  rcases (show b < 0 ∨ 0 < b by omega) with hn | hp
  · have ha : ¬ a < 0 := fun ha => h (by rw [decide_eq_true ha, decide_eq_true hn])
    rw [show (b.natAbs : Int) = -b by omega, Int.neg_mul, Int.mul_comm] at h1
    exact ⟨by rw [Int.neg_mul]; omega, fun _ => by omega, fun _ => by omega⟩
  · have ha : a < 0 := by
      rcases (show a < 0 ∨ ¬ a < 0 by omega) with h' | h'
      · exact h'
      · exact absurd (by rw [decide_eq_false h', decide_eq_false (show ¬ b < 0 by omega)]) h
    rw [show (b.natAbs : Int) = b by omega, Int.mul_comm] at h1
    exact ⟨by rw [Int.neg_mul]; omega, fun _ => by omega, fun _ => by omega⟩
theorem floor_diff {a b : Int} (hb : b ≠ 0) (h : decide (a < 0) ≠ decide (b < 0)) (hr : 0 < (a.natAbs : Int) % b.natAbs) : Floor a b (-((a.natAbs : Int) / b.natAbs + 1)) (sgn (decide (b < 0)) (b.natAbs - (a.natAbs : Int) % b.natAbs)) := by
  have h1 := Int.mul_ediv_add_emod (a.natAbs : Int) b.natAbs
  have h3 := Int.emod_lt_of_pos (a.natAbs : Int) (show (0 : Int) < b.natAbs by omega)
  generalize (a.natAbs : Int) / b.natAbs = q at *
  generalize (a.natAbs : Int) % b.natAbs = r at *
  rcases (show b < 0 ∨ 0 < b by omega) with hn | hp
  · have ha : ¬ a < 0 := fun ha => h (by rw [decide_eq_true ha, decide_eq_true hn])
    rw [decide_eq_true hn, sgn_true]
    rw [show (b.natAbs : Int) = -b by omega, Int.neg_mul, Int.mul_comm] at h1
    exact ⟨by rw [Int.neg_mul, Int.add_mul]; omega, fun _ => by omega, fun _ => by omega⟩
  · have ha : a < 0 := by
      rcases (show a < 0 ∨ ¬ a < 0 by omega) with h' | h'
      · exact h'
      · exact absurd (by rw [decide_eq_false h', decide_eq_false (show ¬ b < 0 by omega)]) h
    rw [decide_eq_false (show ¬ b < 0 by omega), sgn_false]
    rw [show (b.natAbs : Int) = b by omega, Int.mul_comm] at h1
    exact ⟨by rw [Int.neg_mul, Int.add_mul]; omega, fun _ => by omega, fun _ => by omega⟩

/-- the quotient's absolute value is not greater than the number's -/
theorem quo_le {x y : Int} (hx : 0 ≤ x) (hy : 0 < y) : x / y ≤ x ∧ (0 < x % y → x / y + 1 ≤ x) := by
  have h1 := Int.mul_ediv_add_emod x y
  have h2 := Int.emod_nonneg x (show y ≠ 0 by omega)
  have h3 := Int.ediv_nonneg hx (show 0 ≤ y by omega)
  have h4 := Int.mul_le_mul_of_nonneg_right (show 1 ≤ y by omega) h3
  omega

/-- what DivMod answers -/
def DivModPost (a b : Int) (w : World) (e : Ending) (w' : World) : Prop :=
  ∃ (b1 b2 : Bool) (p1 : Option Addr) (l1 c1 : Nat) (p2 : Option Addr) (l2 c2 : Nat) (q r : Int), e = .returned (.tuple #[.agg #[.bool b1, .slice p1 l1 c1], .agg #[.bool b2, .slice p2 l2 c2], .int .i64 0]) ∧
    Floor a b q r ∧ Wo w.heap.size w' (.agg #[.bool b1, .slice p1 l1 c1]) q ∧ Wo w.heap.size w' (.agg #[.bool b2, .slice p2 l2 c2]) r ∧ Below w.heap.size w w'
/-- what DivMod answers where it fails -/
def DivBad (er : Int) (w : World) (e : Ending) (w' : World) : Prop := e = .returned (.tuple #[zeroW, zeroW, .int .i64 er]) ∧ Below w.heap.size w w'

/-- two boxes are filled, one after the other -/
theorem put22 {W : World} {x y : Nat} (hne : x ≠ y) {cs ds : Array Value} {a0 a1 b0 b1 : Value} (hx : W.heap[x]? = some (.cells #[a0, a1] 24)) (hy : W.heap[y]? = some (.cells #[b0, b1] 24)) (a b c d : Value) :
    (put2 (put2 W x a b) y c d).cell? ⟨x, 0, none⟩ = some a ∧ (put2 (put2 W x a b) y c d).cell? ⟨x, 1, none⟩ = some b ∧ (put2 (put2 W x a b) y c d).cell? ⟨y, 0, none⟩ = some c ∧ (put2 (put2 W x a b) y c d).cell? ⟨y, 1, none⟩ = some d := by
  have hy2 : (put2 W x a b).heap[y]? = some (.cells #[b0, b1] 24) := ((put2_only W x a b).block y (Ne.symm hne)).trans hy
  obtain ⟨h0, h1⟩ := put2_cell hx a b
  obtain ⟨h2, h3⟩ := put2_cell hy2 c d
  exact ⟨((put2_only _ y c d).cell (p := ⟨x, 0, none⟩) hne).trans h0, ((put2_only _ y c d).cell (p := ⟨x, 1, none⟩) hne).trans h1, h2, h3⟩

set_option maxRecDepth 100000 in
set_option maxHeartbeats 1000000 in
theorem DivMod_bad (va vb : Value) (na nb : Bool) (A B : List Int) (w : World) (hA : Wr w.heap.size w va na A) (hB : Wr w.heap.size w vb nb B) (hla : A.length ≤ 140737488355328) (hlb : B.length ≤ 140737488355328) (hbad : (okB na A && okB nb B) = false) : Calls Tryd.prog 32 #[va, vb] w (DivBad 2 w) := by
  obtain ⟨sa, rfl, hLa⟩ := hA
  obtain ⟨sb, rfl, hLb⟩ := hB
  obtain ⟨pa, la, ca, rfl⟩ := hLa.form
  obtain ⟨pb, lb, cb, rfl⟩ := hLb.form
  have HBAD := Lib.hid hbad
  clear hbad
  obtain ⟨w4, hw4⟩ : ∃ w4, w4 = ((((w.alloc (.cells #[.bool na, .slice pa la ca] 24)).alloc (.cells #[.bool nb, .slice pb lb cb] 24)).alloc (.cells #[.bool false, .slice none 0 0] 24)).alloc (.cells #[.bool false, .slice none 0 0] 24)).alloc (.cells #[.bool na, .slice pa la ca, .bool nb, .slice pb lb cb] 24) := ⟨_, rfl⟩
  have hB4 : Below w.heap.size w w4 := by rw [hw4]; exact (((((Below.refl _ w).alloc (Nat.le_refl _) _).alloc (by simp) _).alloc (by simp; omega) _).alloc (by simp; omega) _).alloc (by simp; omega) _
  have hs4 : w4.heap.size = w.heap.size + 5 := by rw [hw4]; simp
  obtain ⟨q0, q1, q2, q3, q4⟩ := alloc5 w (.cells #[.bool na, .slice pa la ca] 24) (.cells #[.bool nb, .slice pb lb cb] 24) (.cells #[.bool false, .slice none 0 0] 24) (.cells #[.bool false, .slice none 0 0] 24) (.cells #[.bool na, .slice pa la ca, .bool nb, .slice pb lb cb] 24)
  rw [← hw4] at q0 q1 q2 q3 q4
  go_enter Tryd.func32, Tryd.ntmps32
  go_wp2_with (go_at_call 38; rw [← hw4]; refine (valid_two (w.heap.size + 1 + 1 + 1 + 1) na nb (.slice pa la ca) (.slice pb lb cb) A B w4 (by omega) (by omega) (by omega) (cell_of q4 0 rfl) (cell_of q4 1 rfl) (cell_of q4 2 rfl) (cell_of q4 3 rfl) ((hLa.below hB4).mono hB4.size) ((hLb.below hB4).mono hB4.size)).mono ?_; rintro e w5 ⟨rfl, hb5⟩; rw [HBAD.out]; clear hw4; have p0 := (hb5.block _ (show w.heap.size < w4.heap.size by omega)).trans q0; have p1 := (hb5.block _ (show w.heap.size + 1 < w4.heap.size by omega)).trans q1; have p2 := (hb5.block _ (show w.heap.size + 1 + 1 < w4.heap.size by omega)).trans q2; have p3 := (hb5.block _ (show w.heap.size + 1 + 1 + 1 < w4.heap.size by omega)).trans q3; have c00p := cell_of p0 0 rfl; have c01p := cell_of p0 1 rfl; have c10p := cell_of p1 0 rfl; have c11p := cell_of p1 1 rfl; have c20p := cell_of p2 0 rfl; have c21p := cell_of p2 1 rfl; have c30p := cell_of p3 0 rfl; have c31p := cell_of p3 1 rfl; have f20p := frozen_of p2 0; have f21p := frozen_of p2 1; have f30p := frozen_of p3 0; have f31p := frozen_of p3 1; have hs5 := hb5.size; have hB5 := hB4.trans (hb5.mono hB4.size))
  obtain ⟨t0, t1, t2, t3⟩ := put22 (cs := #[]) (ds := #[]) (show w.heap.size + 1 + 1 ≠ w.heap.size + 1 + 1 + 1 by omega) p2 p3 (.bool false) (.slice none 0 0) (.bool false) (.slice none 0 0)
  have z3 : (put2 w5 (w.heap.size + 1 + 1) (.bool false) (.slice none 0 0)).heap[w.heap.size + 1 + 1 + 1]? = some (.cells #[.bool false, .slice none 0 0] 24) := ((put2_only _ _ _ _).block _ (by omega)).trans p3
  refine bodyPost_ret (v := .tuple #[.agg #[.bool false, .slice none 0 0], .agg #[.bool false, .slice none 0 0], .int .i64 2]) (by simp [results, Tryd.results32, go_sem, show (((w5.setCell ⟨w.heap.size + 1 + 1, 0, none⟩ (.bool false)).setCell ⟨w.heap.size + 1 + 1, 1, none⟩ (.slice none 0 0)).setCell ⟨w.heap.size + 1 + 1 + 1, 0, none⟩ (.bool false)).setCell ⟨w.heap.size + 1 + 1 + 1, 1, none⟩ (.slice none 0 0) = put2 (put2 w5 (w.heap.size + 1 + 1) (.bool false) (.slice none 0 0)) (w.heap.size + 1 + 1 + 1) (.bool false) (.slice none 0 0) from rfl, t0, t1, t2, t3]) rfl ⟨rfl, (hB5.trans ((put2_only _ _ _ _).below (by omega))).trans ((put2_only _ _ _ _).below (by omega))⟩

set_option maxRecDepth 100000 in
set_option maxHeartbeats 1000000 in
theorem DivMod_zero (va vb : Value) (a : Int) (w : World) (hA : Wn w.heap.size w va a) (hB : Wn w.heap.size w vb 0) : Calls Tryd.prog 32 #[va, vb] w (DivBad 11 w) := by
  obtain ⟨sa, A, rfl, hLa, hRa, hca⟩ := hA
  obtain ⟨sb, B, rfl, hLb, hRb, hcb⟩ := hB
  obtain ⟨pa, la, ca, rfl⟩ := hLa.form
  obtain ⟨pb, lb, cb, rfl⟩ := hLb.form
  have hoa := rep_ok hRa hca
  have hob := rep_ok hRb hcb
  have hla := rep_short hRa hca
  have hlb := rep_short hRb hcb
  generalize decide (a < 0) = na at *
  have hbl : lb = 0 := by have h := hLb.cells.1; have h2 := hRb.zero_iff.2 rfl; rw [h2] at h; exact h
  subst hbl
  generalize decide ((0 : Int) < 0) = nb at *
  have HOA := Lib.hid hoa
  have HOB := Lib.hid hob
  clear hoa hob
  obtain ⟨w4, hw4⟩ : ∃ w4, w4 = ((((w.alloc (.cells #[.bool na, .slice pa la ca] 24)).alloc (.cells #[.bool nb, .slice pb 0 cb] 24)).alloc (.cells #[.bool false, .slice none 0 0] 24)).alloc (.cells #[.bool false, .slice none 0 0] 24)).alloc (.cells #[.bool na, .slice pa la ca, .bool nb, .slice pb 0 cb] 24) := ⟨_, rfl⟩
  have hB4 : Below w.heap.size w w4 := by rw [hw4]; exact (((((Below.refl _ w).alloc (Nat.le_refl _) _).alloc (by simp) _).alloc (by simp; omega) _).alloc (by simp; omega) _).alloc (by simp; omega) _
  have hs4 : w4.heap.size = w.heap.size + 5 := by rw [hw4]; simp
  obtain ⟨q0, q1, q2, q3, q4⟩ := alloc5 w (.cells #[.bool na, .slice pa la ca] 24) (.cells #[.bool nb, .slice pb 0 cb] 24) (.cells #[.bool false, .slice none 0 0] 24) (.cells #[.bool false, .slice none 0 0] 24) (.cells #[.bool na, .slice pa la ca, .bool nb, .slice pb 0 cb] 24)
  rw [← hw4] at q0 q1 q2 q3 q4
  go_enter Tryd.func32, Tryd.ntmps32
  go_wp2_with (go_at_call 38; rw [← hw4]; refine (valid_two (w.heap.size + 1 + 1 + 1 + 1) na nb (.slice pa la ca) (.slice pb 0 cb) A B w4 (by omega) (by omega) (by omega) (cell_of q4 0 rfl) (cell_of q4 1 rfl) (cell_of q4 2 rfl) (cell_of q4 3 rfl) ((hLa.below hB4).mono hB4.size) ((hLb.below hB4).mono hB4.size)).mono ?_; rintro e w5 ⟨rfl, hb5⟩; rw [HOA.out, HOB.out]; clear hw4; have p0 := (hb5.block _ (show w.heap.size < w4.heap.size by omega)).trans q0; have p1 := (hb5.block _ (show w.heap.size + 1 < w4.heap.size by omega)).trans q1; have p2 := (hb5.block _ (show w.heap.size + 1 + 1 < w4.heap.size by omega)).trans q2; have p3 := (hb5.block _ (show w.heap.size + 1 + 1 + 1 < w4.heap.size by omega)).trans q3; have c00p := cell_of p0 0 rfl; have c01p := cell_of p0 1 rfl; have c10p := cell_of p1 0 rfl; have c11p := cell_of p1 1 rfl; have c20p := cell_of p2 0 rfl; have c21p := cell_of p2 1 rfl; have c30p := cell_of p3 0 rfl; have c31p := cell_of p3 1 rfl; have f20p := frozen_of p2 0; have f21p := frozen_of p2 1; have f30p := frozen_of p3 0; have f31p := frozen_of p3 1; have hs5 := hb5.size; have hB5 := hB4.trans (hb5.mono hB4.size))
  obtain ⟨t0, t1, t2, t3⟩ := put22 (cs := #[]) (ds := #[]) (show w.heap.size + 1 + 1 ≠ w.heap.size + 1 + 1 + 1 by omega) p2 p3 (.bool false) (.slice none 0 0) (.bool false) (.slice none 0 0)
  have z3 : (put2 w5 (w.heap.size + 1 + 1) (.bool false) (.slice none 0 0)).heap[w.heap.size + 1 + 1 + 1]? = some (.cells #[.bool false, .slice none 0 0] 24) := ((put2_only _ _ _ _).block _ (by omega)).trans p3
  refine bodyPost_ret (v := .tuple #[.agg #[.bool false, .slice none 0 0], .agg #[.bool false, .slice none 0 0], .int .i64 11]) (by simp [results, Tryd.results32, go_sem, show (((w5.setCell ⟨w.heap.size + 1 + 1, 0, none⟩ (.bool false)).setCell ⟨w.heap.size + 1 + 1, 1, none⟩ (.slice none 0 0)).setCell ⟨w.heap.size + 1 + 1 + 1, 0, none⟩ (.bool false)).setCell ⟨w.heap.size + 1 + 1 + 1, 1, none⟩ (.slice none 0 0) = put2 (put2 w5 (w.heap.size + 1 + 1) (.bool false) (.slice none 0 0)) (w.heap.size + 1 + 1 + 1) (.bool false) (.slice none 0 0) from rfl, t0, t1, t2, t3]) rfl ⟨rfl, (hB5.trans ((put2_only _ _ _ _).below (by omega))).trans ((put2_only _ _ _ _).below (by omega))⟩

end Go.Proofs.YtbaiohjladddlaaDoor
