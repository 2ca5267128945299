import Derived.Test.YtbaiohjladddlaaDoorL1
/- The laws' helpers: sum, product, less, equal, divided, is. -/
namespace Go.Proofs.YtbaiohjladddlaaDoor
open Go.RowKit Go.WM Go.WR
attribute [local go_sem] Oper.semAt_some

theorem zero_len {B : Nat} {W : World} {b : Bool} {p : Option Addr} {l c : Nat} (h : Wo B W (.agg #[.bool b, .slice p l c]) 0) : l = 0 := by
  obtain ⟨sv, zs, e, hO, hR, _⟩ := h
  cases e
  have hz := hR.zero_iff.2 rfl
  subst hz
  exact hO.lims.cells.1

set_option maxRecDepth 100000 in
set_option maxHeartbeats 1000000 in
theorem sum_ok (va vb : Value) (a b : Int) (w : World) (hA : Wn w.heap.size w va a) (hB : Wn w.heap.size w vb b) (hz : (a + b).natAbs < Cap) : Calls Tryd.prog 16 #[va, vb] w (NumP (a + b) w) := by
  obtain ⟨na, pa, la, ca, rfl⟩ := hA.form
  obtain ⟨nb, pb, lb, cb, rfl⟩ := hB.form
  obtain ⟨w3, hw3⟩ : ∃ w3, w3 = ((w.alloc (.cells #[.bool na, .slice pa la ca] 24)).alloc (.cells #[.bool nb, .slice pb lb cb] 24)).alloc (.cells #[.bool false, .slice none 0 0] 24) := ⟨_, rfl⟩
  have hB3 : Below w.heap.size w w3 := by rw [hw3]; exact (((Below.refl _ w).alloc (Nat.le_refl _) _).alloc (by simp) _).alloc (by simp; omega) _
  have hs3 : w3.heap.size = w.heap.size + 3 := by rw [hw3]; simp
  obtain ⟨q0, q1, q2⟩ := alloc3 w (.cells #[.bool na, .slice pa la ca] 24) (.cells #[.bool nb, .slice pb lb cb] 24) (.cells #[.bool false, .slice none 0 0] 24)
  rw [← hw3] at q0 q1 q2
  have hcall := Add_fit _ _ a b w3 (hA.later hB3) (hB.later hB3) hz
  have HW := Lib.hid hw3
  clear hw3 hz
  go_enter Tryd.func16, Tryd.ntmps16
  go_wp2_with (go_at_call 24; rw [← HW.out]; refine hcall.mono ?_; rintro e w4 ⟨b1, p1, l1, c1, rfl, hn, hb4⟩; have p2 := (hb4.block _ (show w.heap.size + 1 + 1 < w3.heap.size by omega)).trans q2; have r2 := alloc_old w4 (.cells #[.bool b1, .slice p1 l1 c1] 24) p2; have d0 := cell_of r2 0 rfl; have d1 := cell_of r2 1 rfl; have f0 := frozen_of r2 0; have f1 := frozen_of r2 1)
  obtain ⟨t0, t1⟩ := put2_cell r2 (.bool b1) (.slice p1 l1 c1)
  have hO := (hn.below ((Below.refl _ w4).alloc (Nat.le_refl _) (.cells #[.bool b1, .slice p1 l1 c1] 24))).put2 r2 (by decide) (.bool b1) (.slice p1 l1 c1)
  exact bodyPost_ret (v := .agg #[.bool b1, .slice p1 l1 c1]) (by simp [results, Tryd.results16, go_sem, show ((w4.alloc (.cells #[.bool b1, .slice p1 l1 c1] 24)).setCell ⟨w.heap.size + 1 + 1, 0, none⟩ (.bool b1)).setCell ⟨w.heap.size + 1 + 1, 1, none⟩ (.slice p1 l1 c1) = put2 (w4.alloc (.cells #[.bool b1, .slice p1 l1 c1] 24)) (w.heap.size + 1 + 1) (.bool b1) (.slice p1 l1 c1) from rfl, t0, t1]) rfl ⟨b1, p1, l1, c1, rfl, hO.mono hB3.size, ((hB3.trans (hb4.mono hB3.size)).alloc (by have := hb4.size; omega) _).trans ((put2_only _ _ _ _).below (by omega))⟩

set_option maxRecDepth 100000 in
set_option maxHeartbeats 1000000 in
theorem product_ok (va vb : Value) (a b : Int) (w : World) (hA : Wn w.heap.size w va a) (hB : Wn w.heap.size w vb b) (hz : (a * b).natAbs < Cap) : Calls Tryd.prog 17 #[va, vb] w (NumP (a * b) w) := by
  obtain ⟨na, pa, la, ca, rfl⟩ := hA.form
  obtain ⟨nb, pb, lb, cb, rfl⟩ := hB.form
  obtain ⟨w3, hw3⟩ : ∃ w3, w3 = ((w.alloc (.cells #[.bool na, .slice pa la ca] 24)).alloc (.cells #[.bool nb, .slice pb lb cb] 24)).alloc (.cells #[.bool false, .slice none 0 0] 24) := ⟨_, rfl⟩
  have hB3 : Below w.heap.size w w3 := by rw [hw3]; exact (((Below.refl _ w).alloc (Nat.le_refl _) _).alloc (by simp) _).alloc (by simp; omega) _
  have hs3 : w3.heap.size = w.heap.size + 3 := by rw [hw3]; simp
  obtain ⟨q0, q1, q2⟩ := alloc3 w (.cells #[.bool na, .slice pa la ca] 24) (.cells #[.bool nb, .slice pb lb cb] 24) (.cells #[.bool false, .slice none 0 0] 24)
  rw [← hw3] at q0 q1 q2
  have hcall := Mul_fit _ _ a b w3 (hA.later hB3) (hB.later hB3) hz
  have HW := Lib.hid hw3
  clear hw3 hz
  go_enter Tryd.func17, Tryd.ntmps17
  go_wp2_with (go_at_call 26; rw [← HW.out]; refine hcall.mono ?_; rintro e w4 ⟨b1, p1, l1, c1, rfl, hn, hb4⟩; have p2 := (hb4.block _ (show w.heap.size + 1 + 1 < w3.heap.size by omega)).trans q2; have r2 := alloc_old w4 (.cells #[.bool b1, .slice p1 l1 c1] 24) p2; have d0 := cell_of r2 0 rfl; have d1 := cell_of r2 1 rfl; have f0 := frozen_of r2 0; have f1 := frozen_of r2 1)
  obtain ⟨t0, t1⟩ := put2_cell r2 (.bool b1) (.slice p1 l1 c1)
  have hO := (hn.below ((Below.refl _ w4).alloc (Nat.le_refl _) (.cells #[.bool b1, .slice p1 l1 c1] 24))).put2 r2 (by decide) (.bool b1) (.slice p1 l1 c1)
  exact bodyPost_ret (v := .agg #[.bool b1, .slice p1 l1 c1]) (by simp [results, Tryd.results17, go_sem, show ((w4.alloc (.cells #[.bool b1, .slice p1 l1 c1] 24)).setCell ⟨w.heap.size + 1 + 1, 0, none⟩ (.bool b1)).setCell ⟨w.heap.size + 1 + 1, 1, none⟩ (.slice p1 l1 c1) = put2 (w4.alloc (.cells #[.bool b1, .slice p1 l1 c1] 24)) (w.heap.size + 1 + 1) (.bool b1) (.slice p1 l1 c1) from rfl, t0, t1]) rfl ⟨b1, p1, l1, c1, rfl, hO.mono hB3.size, ((hB3.trans (hb4.mono hB3.size)).alloc (by have := hb4.size; omega) _).trans ((put2_only _ _ _ _).below (by omega))⟩

set_option maxRecDepth 100000 in
set_option maxHeartbeats 1000000 in
theorem less_ok (va vb : Value) (a b : Int) (w : World) (hA : Wn w.heap.size w va a) (hB : Wn w.heap.size w vb b) (hz : (a - b).natAbs < Cap) : Calls Tryd.prog 31 #[va, vb] w (NumP (a - b) w) := by
  obtain ⟨na, pa, la, ca, rfl⟩ := hA.form
  obtain ⟨nb, pb, lb, cb, rfl⟩ := hB.form
  obtain ⟨w3, hw3⟩ : ∃ w3, w3 = ((w.alloc (.cells #[.bool na, .slice pa la ca] 24)).alloc (.cells #[.bool nb, .slice pb lb cb] 24)).alloc (.cells #[.bool false, .slice none 0 0] 24) := ⟨_, rfl⟩
  have hB3 : Below w.heap.size w w3 := by rw [hw3]; exact (((Below.refl _ w).alloc (Nat.le_refl _) _).alloc (by simp) _).alloc (by simp; omega) _
  have hs3 : w3.heap.size = w.heap.size + 3 := by rw [hw3]; simp
  obtain ⟨q0, q1, q2⟩ := alloc3 w (.cells #[.bool na, .slice pa la ca] 24) (.cells #[.bool nb, .slice pb lb cb] 24) (.cells #[.bool false, .slice none 0 0] 24)
  rw [← hw3] at q0 q1 q2
  have hcall := Sub_fit _ _ a b w3 (hA.later hB3) (hB.later hB3) hz
  have HW := Lib.hid hw3
  clear hw3 hz
  go_enter Tryd.func31, Tryd.ntmps31
  go_wp2_with (go_at_call 25; rw [← HW.out]; refine hcall.mono ?_; rintro e w4 ⟨b1, p1, l1, c1, rfl, hn, hb4⟩; have p2 := (hb4.block _ (show w.heap.size + 1 + 1 < w3.heap.size by omega)).trans q2; have r2 := alloc_old w4 (.cells #[.bool b1, .slice p1 l1 c1] 24) p2; have d0 := cell_of r2 0 rfl; have d1 := cell_of r2 1 rfl; have f0 := frozen_of r2 0; have f1 := frozen_of r2 1)
  obtain ⟨t0, t1⟩ := put2_cell r2 (.bool b1) (.slice p1 l1 c1)
  have hO := (hn.below ((Below.refl _ w4).alloc (Nat.le_refl _) (.cells #[.bool b1, .slice p1 l1 c1] 24))).put2 r2 (by decide) (.bool b1) (.slice p1 l1 c1)
  exact bodyPost_ret (v := .agg #[.bool b1, .slice p1 l1 c1]) (by simp [results, Tryd.results31, go_sem, show ((w4.alloc (.cells #[.bool b1, .slice p1 l1 c1] 24)).setCell ⟨w.heap.size + 1 + 1, 0, none⟩ (.bool b1)).setCell ⟨w.heap.size + 1 + 1, 1, none⟩ (.slice p1 l1 c1) = put2 (w4.alloc (.cells #[.bool b1, .slice p1 l1 c1] 24)) (w.heap.size + 1 + 1) (.bool b1) (.slice p1 l1 c1) from rfl, t0, t1]) rfl ⟨b1, p1, l1, c1, rfl, hO.mono hB3.size, ((hB3.trans (hb4.mono hB3.size)).alloc (by have := hb4.size; omega) _).trans ((put2_only _ _ _ _).below (by omega))⟩

set_option maxRecDepth 100000 in
set_option maxHeartbeats 1000000 in
theorem equal_ok (va vb : Value) (a b : Int) (w : World) (hA : Wn w.heap.size w va a) (hB : Wn w.heap.size w vb b) : Calls Tryd.prog 18 #[va, vb] w (BoolP (decide (a = b)) w) := by
  obtain ⟨na, pa, la, ca, rfl⟩ := hA.form
  obtain ⟨nb, pb, lb, cb, rfl⟩ := hB.form
  obtain ⟨w2, hw2⟩ : ∃ w2, w2 = (w.alloc (.cells #[.bool na, .slice pa la ca] 24)).alloc (.cells #[.bool nb, .slice pb lb cb] 24) := ⟨_, rfl⟩
  have hB2 : Below w.heap.size w w2 := by rw [hw2]; exact ((Below.refl _ w).alloc (Nat.le_refl _) _).alloc (by simp) _
  have hs2 : w2.heap.size = w.heap.size + 2 := by rw [hw2]; simp
  have q0 : w2.heap[w.heap.size]? = some (.cells #[.bool na, .slice pa la ca] 24) := by rw [hw2]; exact alloc_old _ _ (alloc_new _ _ rfl)
  have q1 : w2.heap[w.heap.size + 1]? = some (.cells #[.bool nb, .slice pb lb cb] 24) := by rw [hw2]; exact alloc_new _ _ (by rw [World.size_alloc])
  have hA2 := hA.later hB2
  have hB2' := hB.later hB2
  have HW := Lib.hid hw2
  clear hw2
  go_enter Tryd.func18, Tryd.ntmps18
  go_wp2_with fail
  rw [← HW.out]
  refine (Valid_num _ a w2 hA2).mono ?_
  rintro e w3 ⟨rfl, hb3⟩
  have p0 := (hb3.block _ (show w.heap.size < w2.heap.size by omega)).trans q0
  have p1 := (hb3.block _ (show w.heap.size + 1 < w2.heap.size by omega)).trans q1
  have c0 := cell_of p0 0 rfl
  have c1 := cell_of p0 1 rfl
  have c2 := cell_of p1 0 rfl
  have c3 := cell_of p1 1 rfl
  have hs3 := hb3.size
  go_wp2_with fail
  refine (Valid_num _ b w3 (hB2'.later hb3)).mono ?_
  rintro e w4 ⟨rfl, hb4⟩
  have p0' := (hb4.block _ (show w.heap.size < w3.heap.size by omega)).trans p0
  have p1' := (hb4.block _ (show w.heap.size + 1 < w3.heap.size by omega)).trans p1
  have c0' := cell_of p0' 0 rfl
  have c1' := cell_of p0' 1 rfl
  have c2' := cell_of p1' 0 rfl
  have c3' := cell_of p1' 1 rfl
  have hs4 := hb4.size
  clear c0 c1 c2 c3
  go_wp2_with fail
  refine (refSame_num _ _ a b w4 ((hA2.later hb3).later hb4) ((hB2'.later hb3).later hb4)).mono ?_
  rintro e w5 ⟨rfl, hb5⟩
  go_wp2
  go_ret
  exact ⟨rfl, hB2.trans ((hb3.mono (by omega)).trans ((hb4.mono (by omega)).trans (hb5.mono (by omega))))⟩

set_option maxRecDepth 100000 in
set_option maxHeartbeats 1000000 in
theorem divided_ok (va vb : Value) (a b q : Int) (w : World) (hA : Wn w.heap.size w va a) (hB : Wn w.heap.size w vb b) (hb0 : b ≠ 0) (hf : Floor a b q 0) : Calls Tryd.prog 19 #[va, vb] w (NumP q w) := by
  obtain ⟨na, pa, la, ca, rfl⟩ := hA.form
  obtain ⟨nb, pb, lb, cb, rfl⟩ := hB.form
  obtain ⟨w3, hw3⟩ : ∃ w3, w3 = ((w.alloc (.cells #[.bool na, .slice pa la ca] 24)).alloc (.cells #[.bool nb, .slice pb lb cb] 24)).alloc (.cells #[.bool false, .slice none 0 0] 24) := ⟨_, rfl⟩
  have hB3 : Below w.heap.size w w3 := by rw [hw3]; exact (((Below.refl _ w).alloc (Nat.le_refl _) _).alloc (by simp) _).alloc (by simp; omega) _
  have hs3 : w3.heap.size = w.heap.size + 3 := by rw [hw3]; simp
  obtain ⟨q0, q1, q2⟩ := alloc3 w (.cells #[.bool na, .slice pa la ca] 24) (.cells #[.bool nb, .slice pb lb cb] 24) (.cells #[.bool false, .slice none 0 0] 24)
  rw [← hw3] at q0 q1 q2
  have hcall := DivMod_fit _ _ a b q 0 w3 (hA.later hB3) (hB.later hB3) hb0 hf
  have HW := Lib.hid hw3
  clear hw3 hb0 hf
  go_enter Tryd.func19, Tryd.ntmps19
  go_wp2_with (go_at_call 32; rw [← HW.out]; refine hcall.mono ?_; rintro e w4 ⟨b1, p1, l1, c1, b2, p2, l2, c2, rfl, hn, hm, hb4⟩; obtain rfl := zero_len hm; have p2' := (hb4.block _ (show w.heap.size + 1 + 1 < w3.heap.size by omega)).trans q2; have r2 := alloc_old (w4.alloc (.cells #[.bool b1, .slice p1 l1 c1] 24)) (.cells #[.bool b2, .slice p2 0 c2] 24) (alloc_old w4 (.cells #[.bool b1, .slice p1 l1 c1] 24) p2'); have d0 := cell_of r2 0 rfl; have d1 := cell_of r2 1 rfl; have f0 := frozen_of r2 0; have f1 := frozen_of r2 1; have s0 := alloc_old (w4.alloc (.cells #[.bool b1, .slice p1 l1 c1] 24)) (.cells #[.bool b2, .slice p2 0 c2] 24) (alloc_new w4 (.cells #[.bool b1, .slice p1 l1 c1] 24) rfl); have e0 := cell_of s0 0 rfl; have e1 := cell_of s0 1 rfl)
  obtain ⟨t0, t1⟩ := put2_cell r2 (.bool b1) (.slice p1 l1 c1)
  have hBb : Below w4.heap.size w4 ((w4.alloc (.cells #[.bool b1, .slice p1 l1 c1] 24)).alloc (.cells #[.bool b2, .slice p2 0 c2] 24)) := ((Below.refl _ w4).alloc (Nat.le_refl _) _).alloc (by simp) _
  have hO := (hn.below hBb).put2 r2 (by decide) (.bool b1) (.slice p1 l1 c1)
  have hz4 := hb4.size
  exact bodyPost_ret (v := .agg #[.bool b1, .slice p1 l1 c1]) (by simp [results, Tryd.results19, go_sem, show (((w4.alloc (.cells #[.bool b1, .slice p1 l1 c1] 24)).alloc (.cells #[.bool b2, .slice p2 0 c2] 24)).setCell ⟨w.heap.size + 1 + 1, 0, none⟩ (.bool b1)).setCell ⟨w.heap.size + 1 + 1, 1, none⟩ (.slice p1 l1 c1) = put2 ((w4.alloc (.cells #[.bool b1, .slice p1 l1 c1] 24)).alloc (.cells #[.bool b2, .slice p2 0 c2] 24)) (w.heap.size + 1 + 1) (.bool b1) (.slice p1 l1 c1) from rfl, t0, t1]) rfl ⟨b1, p1, l1, c1, rfl, hO.mono hB3.size, ((hB3.trans (hb4.mono hB3.size)).trans (hBb.mono (by omega))).trans ((put2_only _ _ _ _).below (by omega))⟩

end Go.Proofs.YtbaiohjladddlaaDoor
