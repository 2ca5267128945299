import Derived.Test.YtbaiohjladddlaaDoorW15
/- whole: Add, Sub. -/
namespace Go.Proofs.YtbaiohjladddlaaDoor
open Go.RowKit Go.WM Go.WR
attribute [local go_sem] Oper.semAt_some

theorem rep_ok {z : Int} {zs : List Int} (hR : Rep zs z.natAbs) (hc : z.natAbs < Cap) : okB (decide (z < 0)) zs = true := by
  refine okB_of (hR.cap.2 hc) hR.nz fun e => decide_eq_false ?_
  have := (hR.zero_iff.1 e); omega
theorem rep_short {z : Int} {zs : List Int} (hR : Rep zs z.natAbs) (hc : z.natAbs < Cap) : zs.length ≤ 1024 := hR.cap.2 hc
theorem sgn_of (z : Int) : sgn (decide (z < 0)) z.natAbs = z := by
  rcases (show z < 0 ∨ 0 ≤ z by omega) with h | h
  · rw [decide_eq_true h]; simp only [sgn, cond_true]; omega
  · rw [decide_eq_false (by omega)]; simp only [sgn, cond_false]; omega
theorem sgn_sub (z y : Int) : sgn (decide (z < 0)) z.natAbs + sgn (!decide (y < 0)) y.natAbs = z - y := by
  rw [sgn_of]
  rcases (show y < 0 ∨ 0 ≤ y by omega) with h | h
  · rw [decide_eq_true h]; simp only [sgn, Bool.not_true, cond_false]; omega
  · rw [decide_eq_false (by omega)]; simp only [sgn, Bool.not_false, cond_true]; omega

/-- what an operation answers where an argument is invalid -/
def BadPost (w : World) (e : Ending) (w' : World) : Prop := e = .returned (.tuple #[zeroW, .int .i64 2]) ∧ Below w.heap.size w w'

set_option maxRecDepth 100000 in
set_option maxHeartbeats 1000000 in
theorem Add_ok (va vb : Value) (a b : Int) (w : World) (hA : Wn w.heap.size w va a) (hB : Wn w.heap.size w vb b) : Calls Tryd.prog 24 #[va, vb] w (FitPost w.heap.size (a + b) w) := by
  obtain ⟨sa, A, rfl, hLa, hRa, hca⟩ := hA
  obtain ⟨sb, B, rfl, hLb, hRb, hcb⟩ := hB
  obtain ⟨pa, la, ca, rfl⟩ := hLa.form
  obtain ⟨pb, lb, cb, rfl⟩ := hLb.form
  have hoa := rep_ok hRa hca
  have hob := rep_ok hRb hcb
  have hla := rep_short hRa hca
  have hlb := rep_short hRb hcb
  have hz : sgn (decide (a < 0)) a.natAbs + sgn (decide (b < 0)) b.natAbs = a + b := by rw [sgn_of, sgn_of]
  generalize decide (a < 0) = na at *
  generalize decide (b < 0) = nb at *
  have HZ := Lib.hid hz
  have HOA := Lib.hid hoa
  have HOB := Lib.hid hob
  clear hz hoa hob
  obtain ⟨w4, hw4⟩ : ∃ w4, w4 = (((w.alloc (.cells #[.bool na, .slice pa la ca] 24)).alloc (.cells #[.bool nb, .slice pb lb cb] 24)).alloc (.cells #[.bool false, .slice none 0 0] 24)).alloc (.cells #[.bool na, .slice pa la ca, .bool nb, .slice pb lb cb] 24) := ⟨_, rfl⟩
  have hB4 : Below w.heap.size w w4 := by rw [hw4]; exact ((((Below.refl _ w).alloc (Nat.le_refl _) _).alloc (by simp) _).alloc (by simp; omega) _).alloc (by simp; omega) _
  have hs4 : w4.heap.size = w.heap.size + 4 := by rw [hw4]; simp
  obtain ⟨q0, q1, q2, q3⟩ := alloc4 w (.cells #[.bool na, .slice pa la ca] 24) (.cells #[.bool nb, .slice pb lb cb] 24) (.cells #[.bool false, .slice none 0 0] 24) (.cells #[.bool na, .slice pa la ca, .bool nb, .slice pb lb cb] 24)
  rw [← hw4] at q0 q1 q2 q3
  go_enter Tryd.func24, Tryd.ntmps24
  go_wp2_with (first | (go_at_call 38; rw [← hw4]; refine (valid_two (w.heap.size + 1 + 1 + 1) na nb (.slice pa la ca) (.slice pb lb cb) A B w4 (by omega) (by omega) (by omega) (cell_of q3 0 rfl) (cell_of q3 1 rfl) (cell_of q3 2 rfl) (cell_of q3 3 rfl) ((hLa.below hB4).mono hB4.size) ((hLb.below hB4).mono hB4.size)).mono ?_; rintro e w5 ⟨rfl, hb5⟩; rw [HOA.out, HOB.out]; clear hw4; have p0 := (hb5.block _ (show w.heap.size < w4.heap.size by omega)).trans q0; have p1 := (hb5.block _ (show w.heap.size + 1 < w4.heap.size by omega)).trans q1; have p2 := (hb5.block _ (show w.heap.size + 1 + 1 < w4.heap.size by omega)).trans q2; have c0 := cell_of p0 0 rfl; have c1 := cell_of p0 1 rfl; have c2 := cell_of p1 0 rfl; have c3 := cell_of p1 1 rfl; have c4 := cell_of p2 0 rfl; have c5 := cell_of p2 1 rfl; have f4 := frozen_of p2 0; have f5 := frozen_of p2 1; have hs5 := hb5.size; have hB5 := hB4.trans (hb5.mono hB4.size)) | (go_at_call 56; refine (sum_any na nb (.slice pa la ca) (.slice pb lb cb) A B _ _ w5 hRa hRb (by omega) (by omega) ((hLa.below hB5).mono hB5.size) ((hLb.below hB5).mono hB5.size)).mono ?_; rintro e w6 ⟨b2, l1, l2, l3, er, rfl, hfit, hb6⟩; rw [HZ.out] at hfit; have r2 := (hb6.block _ (show w.heap.size + 1 + 1 < w5.heap.size by omega)).trans p2; have d4 := cell_of r2 0 rfl; have d5 := cell_of r2 1 rfl; have g4 := frozen_of r2 0; have g5 := frozen_of r2 1; have hB6 := hB5.trans (hb6.mono hB5.size)))
  obtain ⟨t0, t1⟩ := put2_cell r2 (.bool b2) (.slice l1 l2 l3)
  refine bodyPost_ret (v := .tuple #[.agg #[.bool b2, .slice l1 l2 l3], .int .i64 er]) (by simp [results, Tryd.results24, go_sem, show (w6.setCell ⟨w.heap.size + 1 + 1, 0, none⟩ (.bool b2)).setCell ⟨w.heap.size + 1 + 1, 1, none⟩ (.slice l1 l2 l3) = put2 w6 (w.heap.size + 1 + 1) (.bool b2) (.slice l1 l2 l3) from rfl, t0, t1]) rfl ⟨b2, l1, l2, l3, er, rfl, (hfit.mono hB5.size).put2 r2 (by decide) (.bool b2) (.slice l1 l2 l3), hB6.trans ((put2_only _ _ _ _).below (by omega))⟩

set_option maxRecDepth 100000 in
set_option maxHeartbeats 1000000 in
theorem Add_bad (va vb : Value) (na nb : Bool) (A B : List Int) (w : World) (hA : Wr w.heap.size w va na A) (hB : Wr w.heap.size w vb nb B) (hla : A.length ≤ 140737488355328) (hlb : B.length ≤ 140737488355328) (hbad : (okB na A && okB nb B) = false) : Calls Tryd.prog 24 #[va, vb] w (BadPost w) := by
  obtain ⟨sa, rfl, hLa⟩ := hA
  obtain ⟨sb, rfl, hLb⟩ := hB
  obtain ⟨pa, la, ca, rfl⟩ := hLa.form
  obtain ⟨pb, lb, cb, rfl⟩ := hLb.form
  have HBAD := Lib.hid hbad
  clear hbad
  obtain ⟨w4, hw4⟩ : ∃ w4, w4 = (((w.alloc (.cells #[.bool na, .slice pa la ca] 24)).alloc (.cells #[.bool nb, .slice pb lb cb] 24)).alloc (.cells #[.bool false, .slice none 0 0] 24)).alloc (.cells #[.bool na, .slice pa la ca, .bool nb, .slice pb lb cb] 24) := ⟨_, rfl⟩
  have hB4 : Below w.heap.size w w4 := by rw [hw4]; exact ((((Below.refl _ w).alloc (Nat.le_refl _) _).alloc (by simp) _).alloc (by simp; omega) _).alloc (by simp; omega) _
  have hs4 : w4.heap.size = w.heap.size + 4 := by rw [hw4]; simp
  obtain ⟨q0, q1, q2, q3⟩ := alloc4 w (.cells #[.bool na, .slice pa la ca] 24) (.cells #[.bool nb, .slice pb lb cb] 24) (.cells #[.bool false, .slice none 0 0] 24) (.cells #[.bool na, .slice pa la ca, .bool nb, .slice pb lb cb] 24)
  rw [← hw4] at q0 q1 q2 q3
  go_enter Tryd.func24, Tryd.ntmps24
  go_wp2_with (go_at_call 38; rw [← hw4]; refine (valid_two (w.heap.size + 1 + 1 + 1) na nb (.slice pa la ca) (.slice pb lb cb) A B w4 (by omega) (by omega) (by omega) (cell_of q3 0 rfl) (cell_of q3 1 rfl) (cell_of q3 2 rfl) (cell_of q3 3 rfl) ((hLa.below hB4).mono hB4.size) ((hLb.below hB4).mono hB4.size)).mono ?_; rintro e w5 ⟨rfl, hb5⟩; rw [HBAD.out]; clear hw4; have p0 := (hb5.block _ (show w.heap.size < w4.heap.size by omega)).trans q0; have p1 := (hb5.block _ (show w.heap.size + 1 < w4.heap.size by omega)).trans q1; have p2 := (hb5.block _ (show w.heap.size + 1 + 1 < w4.heap.size by omega)).trans q2; have c0 := cell_of p0 0 rfl; have c1 := cell_of p0 1 rfl; have c2 := cell_of p1 0 rfl; have c3 := cell_of p1 1 rfl; have c4 := cell_of p2 0 rfl; have c5 := cell_of p2 1 rfl; have f4 := frozen_of p2 0; have f5 := frozen_of p2 1; have hs5 := hb5.size; have hB5 := hB4.trans (hb5.mono hB4.size))
  obtain ⟨t0, t1⟩ := put2_cell p2 (.bool false) (.slice none 0 0)
  refine bodyPost_ret (v := .tuple #[.agg #[.bool false, .slice none 0 0], .int .i64 2]) (by simp [results, Tryd.results24, go_sem, show (w5.setCell ⟨w.heap.size + 1 + 1, 0, none⟩ (.bool false)).setCell ⟨w.heap.size + 1 + 1, 1, none⟩ (.slice none 0 0) = put2 w5 (w.heap.size + 1 + 1) (.bool false) (.slice none 0 0) from rfl, t0, t1]) rfl ⟨rfl, hB5.trans ((put2_only _ _ _ _).below (by omega))⟩

set_option maxRecDepth 100000 in
set_option maxHeartbeats 1000000 in
theorem Sub_ok (va vb : Value) (a b : Int) (w : World) (hA : Wn w.heap.size w va a) (hB : Wn w.heap.size w vb b) : Calls Tryd.prog 25 #[va, vb] w (FitPost w.heap.size (a - b) w) := by
  obtain ⟨sa, A, rfl, hLa, hRa, hca⟩ := hA
  obtain ⟨sb, B, rfl, hLb, hRb, hcb⟩ := hB
  obtain ⟨pa, la, ca, rfl⟩ := hLa.form
  obtain ⟨pb, lb, cb, rfl⟩ := hLb.form
  have hoa := rep_ok hRa hca
  have hob := rep_ok hRb hcb
  have hla := rep_short hRa hca
  have hlb := rep_short hRb hcb
  have hz : sgn (decide (a < 0)) a.natAbs + sgn (!decide (b < 0)) b.natAbs = a - b := sgn_sub a b
  generalize decide (a < 0) = na at *
  generalize decide (b < 0) = nb at *
  have HZ := Lib.hid hz
  have HOA := Lib.hid hoa
  have HOB := Lib.hid hob
  clear hz hoa hob
  obtain ⟨w4, hw4⟩ : ∃ w4, w4 = (((w.alloc (.cells #[.bool na, .slice pa la ca] 24)).alloc (.cells #[.bool nb, .slice pb lb cb] 24)).alloc (.cells #[.bool false, .slice none 0 0] 24)).alloc (.cells #[.bool na, .slice pa la ca, .bool nb, .slice pb lb cb] 24) := ⟨_, rfl⟩
  have hB4 : Below w.heap.size w w4 := by rw [hw4]; exact ((((Below.refl _ w).alloc (Nat.le_refl _) _).alloc (by simp) _).alloc (by simp; omega) _).alloc (by simp; omega) _
  have hs4 : w4.heap.size = w.heap.size + 4 := by rw [hw4]; simp
  obtain ⟨q0, q1, q2, q3⟩ := alloc4 w (.cells #[.bool na, .slice pa la ca] 24) (.cells #[.bool nb, .slice pb lb cb] 24) (.cells #[.bool false, .slice none 0 0] 24) (.cells #[.bool na, .slice pa la ca, .bool nb, .slice pb lb cb] 24)
  rw [← hw4] at q0 q1 q2 q3
  go_enter Tryd.func25, Tryd.ntmps25
  go_wp2_with (first | (go_at_call 38; rw [← hw4]; refine (valid_two (w.heap.size + 1 + 1 + 1) na nb (.slice pa la ca) (.slice pb lb cb) A B w4 (by omega) (by omega) (by omega) (cell_of q3 0 rfl) (cell_of q3 1 rfl) (cell_of q3 2 rfl) (cell_of q3 3 rfl) ((hLa.below hB4).mono hB4.size) ((hLb.below hB4).mono hB4.size)).mono ?_; rintro e w5 ⟨rfl, hb5⟩; rw [HOA.out, HOB.out]; clear hw4; have p0 := (hb5.block _ (show w.heap.size < w4.heap.size by omega)).trans q0; have p1 := (hb5.block _ (show w.heap.size + 1 < w4.heap.size by omega)).trans q1; have p2 := (hb5.block _ (show w.heap.size + 1 + 1 < w4.heap.size by omega)).trans q2; have c0 := cell_of p0 0 rfl; have c1 := cell_of p0 1 rfl; have c2 := cell_of p1 0 rfl; have c3 := cell_of p1 1 rfl; have c4 := cell_of p2 0 rfl; have c5 := cell_of p2 1 rfl; have f4 := frozen_of p2 0; have f5 := frozen_of p2 1; have hs5 := hb5.size; have hB5 := hB4.trans (hb5.mono hB4.size)) | (go_at_call 56; refine (sum_any na (!nb) (.slice pa la ca) (.slice pb lb cb) A B _ _ w5 hRa hRb (by omega) (by omega) ((hLa.below hB5).mono hB5.size) ((hLb.below hB5).mono hB5.size)).mono ?_; rintro e w6 ⟨b2, l1, l2, l3, er, rfl, hfit, hb6⟩; rw [HZ.out] at hfit; have r2 := (hb6.block _ (show w.heap.size + 1 + 1 < w5.heap.size by omega)).trans p2; have d4 := cell_of r2 0 rfl; have d5 := cell_of r2 1 rfl; have g4 := frozen_of r2 0; have g5 := frozen_of r2 1; have hB6 := hB5.trans (hb6.mono hB5.size)))
  obtain ⟨t0, t1⟩ := put2_cell r2 (.bool b2) (.slice l1 l2 l3)
  refine bodyPost_ret (v := .tuple #[.agg #[.bool b2, .slice l1 l2 l3], .int .i64 er]) (by simp [results, Tryd.results25, go_sem, show (w6.setCell ⟨w.heap.size + 1 + 1, 0, none⟩ (.bool b2)).setCell ⟨w.heap.size + 1 + 1, 1, none⟩ (.slice l1 l2 l3) = put2 w6 (w.heap.size + 1 + 1) (.bool b2) (.slice l1 l2 l3) from rfl, t0, t1]) rfl ⟨b2, l1, l2, l3, er, rfl, (hfit.mono hB5.size).put2 r2 (by decide) (.bool b2) (.slice l1 l2 l3), hB6.trans ((put2_only _ _ _ _).below (by omega))⟩

set_option maxRecDepth 100000 in
set_option maxHeartbeats 1000000 in
theorem Sub_bad (va vb : Value) (na nb : Bool) (A B : List Int) (w : World) (hA : Wr w.heap.size w va na A) (hB : Wr w.heap.size w vb nb B) (hla : A.length ≤ 140737488355328) (hlb : B.length ≤ 140737488355328) (hbad : (okB na A && okB nb B) = false) : Calls Tryd.prog 25 #[va, vb] w (BadPost w) := by
  obtain ⟨sa, rfl, hLa⟩ := hA
  obtain ⟨sb, rfl, hLb⟩ := hB
  obtain ⟨pa, la, ca, rfl⟩ := hLa.form
  obtain ⟨pb, lb, cb, rfl⟩ := hLb.form
  have HBAD := Lib.hid hbad
  clear hbad
  obtain ⟨w4, hw4⟩ : ∃ w4, w4 = (((w.alloc (.cells #[.bool na, .slice pa la ca] 24)).alloc (.cells #[.bool nb, .slice pb lb cb] 24)).alloc (.cells #[.bool false, .slice none 0 0] 24)).alloc (.cells #[.bool na, .slice pa la ca, .bool nb, .slice pb lb cb] 24) := ⟨_, rfl⟩
  have hB4 : Below w.heap.size w w4 := by rw [hw4]; exact ((((Below.refl _ w).alloc (Nat.le_refl _) _).alloc (by simp) _).alloc (by simp; omega) _).alloc (by simp; omega) _
  have hs4 : w4.heap.size = w.heap.size + 4 := by rw [hw4]; simp
  obtain ⟨q0, q1, q2, q3⟩ := alloc4 w (.cells #[.bool na, .slice pa la ca] 24) (.cells #[.bool nb, .slice pb lb cb] 24) (.cells #[.bool false, .slice none 0 0] 24) (.cells #[.bool na, .slice pa la ca, .bool nb, .slice pb lb cb] 24)
  rw [← hw4] at q0 q1 q2 q3
  go_enter Tryd.func25, Tryd.ntmps25
  go_wp2_with (go_at_call 38; rw [← hw4]; refine (valid_two (w.heap.size + 1 + 1 + 1) na nb (.slice pa la ca) (.slice pb lb cb) A B w4 (by omega) (by omega) (by omega) (cell_of q3 0 rfl) (cell_of q3 1 rfl) (cell_of q3 2 rfl) (cell_of q3 3 rfl) ((hLa.below hB4).mono hB4.size) ((hLb.below hB4).mono hB4.size)).mono ?_; rintro e w5 ⟨rfl, hb5⟩; rw [HBAD.out]; clear hw4; have p0 := (hb5.block _ (show w.heap.size < w4.heap.size by omega)).trans q0; have p1 := (hb5.block _ (show w.heap.size + 1 < w4.heap.size by omega)).trans q1; have p2 := (hb5.block _ (show w.heap.size + 1 + 1 < w4.heap.size by omega)).trans q2; have c0 := cell_of p0 0 rfl; have c1 := cell_of p0 1 rfl; have c2 := cell_of p1 0 rfl; have c3 := cell_of p1 1 rfl; have c4 := cell_of p2 0 rfl; have c5 := cell_of p2 1 rfl; have f4 := frozen_of p2 0; have f5 := frozen_of p2 1; have hs5 := hb5.size; have hB5 := hB4.trans (hb5.mono hB4.size))
  obtain ⟨t0, t1⟩ := put2_cell p2 (.bool false) (.slice none 0 0)
  refine bodyPost_ret (v := .tuple #[.agg #[.bool false, .slice none 0 0], .int .i64 2]) (by simp [results, Tryd.results25, go_sem, show (w5.setCell ⟨w.heap.size + 1 + 1, 0, none⟩ (.bool false)).setCell ⟨w.heap.size + 1 + 1, 1, none⟩ (.slice none 0 0) = put2 w5 (w.heap.size + 1 + 1) (.bool false) (.slice none 0 0) from rfl, t0, t1]) rfl ⟨rfl, hB5.trans ((put2_only _ _ _ _).below (by omega))⟩

end Go.Proofs.YtbaiohjladddlaaDoor
