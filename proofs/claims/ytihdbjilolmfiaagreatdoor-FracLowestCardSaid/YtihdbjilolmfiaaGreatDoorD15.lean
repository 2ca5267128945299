import Derived.Test.YtihdbjilolmfiaaGreatDoorD14
import Derived.Test.YtihdbjilolmfiaaGreatDoorD01
set_option maxRecDepth 100000
set_option maxHeartbeats 4000000
namespace Go.Proofs.YtihdbjilolmfiaaGreatDoor
open Go.RowKit Go.WM Go.WR
attribute [local go_sem] Oper.semAt_some
theorem rep_one : Rep [1] 1 := ⟨Lm.cons (by decide) Lm.nil, Nz.of_last (by decide), rfl⟩
theorem DivMod_same (va vb : Value) (a b : Int) (w : World) (hA : Wn w.heap.size w va a) (hB : Wn w.heap.size w vb b) (hb0 : b ≠ 0) (hs : decide (a < 0) = decide (b < 0)) : Calls Tryz.prog 68 #[va, vb] w (DivModPost a b w) := by
 obtain ⟨sa, A, rfl, hLa, hRa, hca⟩ := hA
 obtain ⟨sb, B, rfl, hLb, hRb, hcb⟩ := hB
 obtain ⟨pa, la, ca, rfl⟩ := hLa.form
 obtain ⟨pb, lb, cb, rfl⟩ := hLb.form
 have hoa := rep_ok hRa hca
 have hob := rep_ok hRb hcb
 have hla := rep_short hRa hca
 have hlb := rep_short hRb hcb
 have hbpos : (0 : Int) < b.natAbs := by omega
 have hbl := hRb.pos.2 hbpos
 have hbl2 := hLb.cells.1
 have hlb0 : 0 < lb := by omega
 clear hbl hbl2
 have HFL := floor_same hb0 hs
 obtain ⟨na, hna⟩ : ∃ na, na = decide (a < 0) := ⟨_, rfl⟩
 obtain ⟨nb, hnb⟩ : ∃ nb, nb = decide (b < 0) := ⟨_, rfl⟩
 have HNA := Lib.hid hna
 have HNB := Lib.hid hnb
 rw [← hna, ← hnb]
 rw [← hna] at hoa
 rw [← hnb] at hob
 rw [← hnb] at HFL
 rw [← hna, ← hnb] at hs
 clear hna hnb
 have hqle := quo_le (x := (a.natAbs : Int)) (y := b.natAbs) (by omega) hbpos
 have hrlt := Int.emod_lt_of_pos (a.natAbs : Int) hbpos
 have hrge := Int.emod_nonneg (a.natAbs : Int) (show (b.natAbs : Int) ≠ 0 by omega)
 have HOA := Lib.hid hoa
 have HOB := Lib.hid hob
 clear hoa hob
 obtain rfl : na = nb := hs
 obtain ⟨w4, hw4⟩ : ∃ w4, w4 = ((((w.alloc (.cells #[.bool na, .slice pa la ca] 24)).alloc (.cells #[.bool na, .slice pb lb cb] 24)).alloc (.cells #[.bool false, .slice none 0 0] 24)).alloc (.cells #[.bool false, .slice none 0 0] 24)).alloc (.cells #[.bool na, .slice pa la ca, .bool na, .slice pb lb cb] 24) := ⟨_, rfl⟩
 have hB4 : Below w.heap.size w w4 := by rw [hw4]; exact (((((Below.refl _ w).alloc (Nat.le_refl _) _).alloc (by simp) _).alloc (by simp; omega) _).alloc (by simp; omega) _).alloc (by simp; omega) _
 have hs4 : w4.heap.size = w.heap.size + 5 := by rw [hw4]; simp
 obtain ⟨q0, q1, q2, q3, q4⟩ := alloc5 w (.cells #[.bool na, .slice pa la ca] 24) (.cells #[.bool na, .slice pb lb cb] 24) (.cells #[.bool false, .slice none 0 0] 24) (.cells #[.bool false, .slice none 0 0] 24) (.cells #[.bool na, .slice pa la ca, .bool na, .slice pb lb cb] 24)
 rw [← hw4] at q0 q1 q2 q3 q4
 go_enter Tryz.func68, Tryz.ntmps68
 cases na
 · go_wp2_with (first | (go_at_call 95; rw [← hw4]; refine (valid_two (w.heap.size + 1 + 1 + 1 + 1) false false (.slice pa la ca) (.slice pb lb cb) A B w4 (by omega) (by omega) (by omega) (cell_of q4 0 rfl) (cell_of q4 1 rfl) (cell_of q4 2 rfl) (cell_of q4 3 rfl) ((hLa.below hB4).mono hB4.size) ((hLb.below hB4).mono hB4.size)).mono ?_; rintro e w5 ⟨rfl, hb5⟩; rw [HOA.out, HOB.out]; clear hw4; have p0 := (hb5.block _ (show w.heap.size < w4.heap.size by omega)).trans q0; have p1 := (hb5.block _ (show w.heap.size + 1 < w4.heap.size by omega)).trans q1; have p2 := (hb5.block _ (show w.heap.size + 1 + 1 < w4.heap.size by omega)).trans q2; have p3 := (hb5.block _ (show w.heap.size + 1 + 1 + 1 < w4.heap.size by omega)).trans q3; have c00p := cell_of p0 0 rfl; have c01p := cell_of p0 1 rfl; have c10p := cell_of p1 0 rfl; have c11p := cell_of p1 1 rfl; have c20p := cell_of p2 0 rfl; have c21p := cell_of p2 1 rfl; have c30p := cell_of p3 0 rfl; have c31p := cell_of p3 1 rfl; have f20p := frozen_of p2 0; have f21p := frozen_of p2 1; have f30p := frozen_of p3 0; have f31p := frozen_of p3 1; have hs5 := hb5.size; have hB5 := hB4.trans (hb5.mono hB4.size)) | (go_at_call 126; refine (div_any (.slice pa la ca) (.slice pb lb cb) A B _ _ w5 hRa hRb hbpos (by omega) (by omega) ((hLa.below hB5).mono hB5.size) ((hLb.below hB5).mono hB5.size)).mono ?_; rintro e w6 ⟨vq, vr, zq, zr, rfl, hoq, hor, hrq, hrr, hb6⟩; obtain ⟨pq, lq, cq, rfl⟩ := hoq.shape; obtain ⟨pr, lr, cr, rfl⟩ := hor.shape; have hlr := hor.lims.cells.1; have hlq := hoq.lims.cells.1; have hzr := hrr.pos; have HLR := Lib.hid hlr; have HLQ := Lib.hid hlq; have hr0 : True := trivial; clear hlr hlq; have r0 := (hb6.block _ (show w.heap.size < w5.heap.size by omega)).trans p0; have r1 := (hb6.block _ (show w.heap.size + 1 < w5.heap.size by omega)).trans p1; have r2 := (hb6.block _ (show w.heap.size + 1 + 1 < w5.heap.size by omega)).trans p2; have r3 := (hb6.block _ (show w.heap.size + 1 + 1 + 1 < w5.heap.size by omega)).trans p3; have c00r := cell_of r0 0 rfl; have c01r := cell_of r0 1 rfl; have c10r := cell_of r1 0 rfl; have c11r := cell_of r1 1 rfl; have c20r := cell_of r2 0 rfl; have c21r := cell_of r2 1 rfl; have c30r := cell_of r3 0 rfl; have c31r := cell_of r3 1 rfl; have f20r := frozen_of r2 0; have f21r := frozen_of r2 1; have f30r := frozen_of r3 0; have f31r := frozen_of r3 1; have hs6 := hb6.size; have hB6 := hB5.trans (hb6.mono hB5.size)))
   have WQ : Wo w.heap.size w6 (.agg #[.bool false, .slice pq lq cq]) ((a.natAbs : Int) / b.natAbs) := by have h := Wo.of false (hoq.mono hB5.size) hrq (by omega); exact h
   have WR : Wo w.heap.size w6 (.agg #[.bool false, .slice pr lr cr]) (sgn false ((a.natAbs : Int) % b.natAbs)) := by have h := Wo.of false (hor.mono hB5.size) hrr (by omega); rw [← HLR.out] at h; exact h
   obtain ⟨t0, t1, t2, t3⟩ := put22 (show w.heap.size + 1 + 1 ≠ w.heap.size + 1 + 1 + 1 by omega) r2 r3 (.bool false) (.slice pq lq cq) (.bool false) (.slice pr lr cr)
   have z3 : (put2 w6 (w.heap.size + 1 + 1) (.bool false) (.slice pq lq cq)).heap[w.heap.size + 1 + 1 + 1]? = some (.cells #[.bool false, .slice none 0 0] 24) := ((put2_only _ _ _ _).block _ (by omega)).trans r3
   refine bodyPost_ret (v := .tuple #[.agg #[.bool false, .slice pq lq cq], .agg #[.bool false, .slice pr lr cr], .int .i64 0]) (by simp [results, Tryz.results68, go_sem, show (((w6.setCell ⟨w.heap.size + 1 + 1, 0, none⟩ (.bool false)).setCell ⟨w.heap.size + 1 + 1, 1, none⟩ (.slice pq lq cq)).setCell ⟨w.heap.size + 1 + 1 + 1, 0, none⟩ (.bool false)).setCell ⟨w.heap.size + 1 + 1 + 1, 1, none⟩ (.slice pr lr cr) = put2 (put2 w6 (w.heap.size + 1 + 1) (.bool false) (.slice pq lq cq)) (w.heap.size + 1 + 1 + 1) (.bool false) (.slice pr lr cr) from rfl, t0, t1, t2, t3]) rfl ⟨_, _, _, _, _, _, _, _, ((a.natAbs : Int) / b.natAbs), (sgn false ((a.natAbs : Int) % b.natAbs)), rfl, HFL, Wo.put2 z3 (by decide) _ _ (Wo.put2 r2 (by decide) _ _ WQ), Wo.put2 z3 (by decide) _ _ (Wo.put2 r2 (by decide) _ _ WR), (hB6.trans ((put2_only _ _ _ _).below (by omega))).trans ((put2_only _ _ _ _).below (by omega))⟩
 · go_wp2_with (first | (go_at_call 95; rw [← hw4]; refine (valid_two (w.heap.size + 1 + 1 + 1 + 1) true true (.slice pa la ca) (.slice pb lb cb) A B w4 (by omega) (by omega) (by omega) (cell_of q4 0 rfl) (cell_of q4 1 rfl) (cell_of q4 2 rfl) (cell_of q4 3 rfl) ((hLa.below hB4).mono hB4.size) ((hLb.below hB4).mono hB4.size)).mono ?_; rintro e w5 ⟨rfl, hb5⟩; rw [HOA.out, HOB.out]; clear hw4; have p0 := (hb5.block _ (show w.heap.size < w4.heap.size by omega)).trans q0; have p1 := (hb5.block _ (show w.heap.size + 1 < w4.heap.size by omega)).trans q1; have p2 := (hb5.block _ (show w.heap.size + 1 + 1 < w4.heap.size by omega)).trans q2; have p3 := (hb5.block _ (show w.heap.size + 1 + 1 + 1 < w4.heap.size by omega)).trans q3; have c00p := cell_of p0 0 rfl; have c01p := cell_of p0 1 rfl; have c10p := cell_of p1 0 rfl; have c11p := cell_of p1 1 rfl; have c20p := cell_of p2 0 rfl; have c21p := cell_of p2 1 rfl; have c30p := cell_of p3 0 rfl; have c31p := cell_of p3 1 rfl; have f20p := frozen_of p2 0; have f21p := frozen_of p2 1; have f30p := frozen_of p3 0; have f31p := frozen_of p3 1; have hs5 := hb5.size; have hB5 := hB4.trans (hb5.mono hB4.size)) | (go_at_call 126; refine (div_any (.slice pa la ca) (.slice pb lb cb) A B _ _ w5 hRa hRb hbpos (by omega) (by omega) ((hLa.below hB5).mono hB5.size) ((hLb.below hB5).mono hB5.size)).mono ?_; rintro e w6 ⟨vq, vr, zq, zr, rfl, hoq, hor, hrq, hrr, hb6⟩; obtain ⟨pq, lq, cq, rfl⟩ := hoq.shape; obtain ⟨pr, lr, cr, rfl⟩ := hor.shape; have hlr := hor.lims.cells.1; have hlq := hoq.lims.cells.1; have hzr := hrr.pos; have HLR := Lib.hid hlr; have HLQ := Lib.hid hlq; have hr0 : True := trivial; clear hlr hlq; have r0 := (hb6.block _ (show w.heap.size < w5.heap.size by omega)).trans p0; have r1 := (hb6.block _ (show w.heap.size + 1 < w5.heap.size by omega)).trans p1; have r2 := (hb6.block _ (show w.heap.size + 1 + 1 < w5.heap.size by omega)).trans p2; have r3 := (hb6.block _ (show w.heap.size + 1 + 1 + 1 < w5.heap.size by omega)).trans p3; have c00r := cell_of r0 0 rfl; have c01r := cell_of r0 1 rfl; have c10r := cell_of r1 0 rfl; have c11r := cell_of r1 1 rfl; have c20r := cell_of r2 0 rfl; have c21r := cell_of r2 1 rfl; have c30r := cell_of r3 0 rfl; have c31r := cell_of r3 1 rfl; have f20r := frozen_of r2 0; have f21r := frozen_of r2 1; have f30r := frozen_of r3 0; have f31r := frozen_of r3 1; have hs6 := hb6.size; have hB6 := hB5.trans (hb6.mono hB5.size)))
   have WQ : Wo w.heap.size w6 (.agg #[.bool false, .slice pq lq cq]) ((a.natAbs : Int) / b.natAbs) := by have h := Wo.of false (hoq.mono hB5.size) hrq (by omega); exact h
   have WR : Wo w.heap.size w6 (.agg #[.bool (decide (0 < lr)), .slice pr lr cr]) (sgn true ((a.natAbs : Int) % b.natAbs)) := by have h := Wo.of true (hor.mono hB5.size) hrr (by omega); rw [← HLR.out] at h; exact h
   obtain ⟨t0, t1, t2, t3⟩ := put22 (show w.heap.size + 1 + 1 ≠ w.heap.size + 1 + 1 + 1 by omega) r2 r3 (.bool false) (.slice pq lq cq) (.bool (decide (0 < lr))) (.slice pr lr cr)
   have z3 : (put2 w6 (w.heap.size + 1 + 1) (.bool false) (.slice pq lq cq)).heap[w.heap.size + 1 + 1 + 1]? = some (.cells #[.bool false, .slice none 0 0] 24) := ((put2_only _ _ _ _).block _ (by omega)).trans r3
   refine bodyPost_ret (v := .tuple #[.agg #[.bool false, .slice pq lq cq], .agg #[.bool (decide (0 < lr)), .slice pr lr cr], .int .i64 0]) (by simp [results, Tryz.results68, go_sem, show (((w6.setCell ⟨w.heap.size + 1 + 1, 0, none⟩ (.bool false)).setCell ⟨w.heap.size + 1 + 1, 1, none⟩ (.slice pq lq cq)).setCell ⟨w.heap.size + 1 + 1 + 1, 0, none⟩ (.bool (decide (0 < lr)))).setCell ⟨w.heap.size + 1 + 1 + 1, 1, none⟩ (.slice pr lr cr) = put2 (put2 w6 (w.heap.size + 1 + 1) (.bool false) (.slice pq lq cq)) (w.heap.size + 1 + 1 + 1) (.bool (decide (0 < lr))) (.slice pr lr cr) from rfl, t0, t1, t2, t3]) rfl ⟨_, _, _, _, _, _, _, _, ((a.natAbs : Int) / b.natAbs), (sgn true ((a.natAbs : Int) % b.natAbs)), rfl, HFL, Wo.put2 z3 (by decide) _ _ (Wo.put2 r2 (by decide) _ _ WQ), Wo.put2 z3 (by decide) _ _ (Wo.put2 r2 (by decide) _ _ WR), (hB6.trans ((put2_only _ _ _ _).below (by omega))).trans ((put2_only _ _ _ _).below (by omega))⟩
theorem DivMod_zr (va vb : Value) (a b : Int) (w : World) (hA : Wn w.heap.size w va a) (hB : Wn w.heap.size w vb b) (hb0 : b ≠ 0) (hs : decide (a < 0) ≠ decide (b < 0)) (hr00 : (a.natAbs : Int) % b.natAbs = 0) : Calls Tryz.prog 68 #[va, vb] w (DivModPost a b w) := by
 obtain ⟨sa, A, rfl, hLa, hRa, hca⟩ := hA
 obtain ⟨sb, B, rfl, hLb, hRb, hcb⟩ := hB
 obtain ⟨pa, la, ca, rfl⟩ := hLa.form
 obtain ⟨pb, lb, cb, rfl⟩ := hLb.form
 have hoa := rep_ok hRa hca
 have hob := rep_ok hRb hcb
 have hla := rep_short hRa hca
 have hlb := rep_short hRb hcb
 have hbpos : (0 : Int) < b.natAbs := by omega
 have hbl := hRb.pos.2 hbpos
 have hbl2 := hLb.cells.1
 have hlb0 : 0 < lb := by omega
 clear hbl hbl2
 have HFL := floor_zero hb0 hs hr00
 obtain ⟨na, hna⟩ : ∃ na, na = decide (a < 0) := ⟨_, rfl⟩
 obtain ⟨nb, hnb⟩ : ∃ nb, nb = decide (b < 0) := ⟨_, rfl⟩
 have HNA := Lib.hid hna
 have HNB := Lib.hid hnb
 rw [← hna, ← hnb]
 rw [← hna] at hoa
 rw [← hnb] at hob
 rw [← hna, ← hnb] at hs
 clear hna hnb
 have hqle := quo_le (x := (a.natAbs : Int)) (y := b.natAbs) (by omega) hbpos
 have hrlt := Int.emod_lt_of_pos (a.natAbs : Int) hbpos
 have hrge := Int.emod_nonneg (a.natAbs : Int) (show (b.natAbs : Int) ≠ 0 by omega)
 have HOA := Lib.hid hoa
 have HOB := Lib.hid hob
 clear hoa hob
 obtain rfl : nb = !na := by revert hs; cases na <;> cases nb <;> simp
 have HR00 := Lib.hid hr00
 clear hr00
 cases na
 · show Calls Tryz.prog 68 #[.agg #[.bool false, .slice pa la ca], .agg #[.bool true, .slice pb lb cb]] w _
   obtain ⟨w4, hw4⟩ : ∃ w4, w4 = ((((w.alloc (.cells #[.bool false, .slice pa la ca] 24)).alloc (.cells #[.bool true, .slice pb lb cb] 24)).alloc (.cells #[.bool false, .slice none 0 0] 24)).alloc (.cells #[.bool false, .slice none 0 0] 24)).alloc (.cells #[.bool false, .slice pa la ca, .bool true, .slice pb lb cb] 24) := ⟨_, rfl⟩
   have hB4 : Below w.heap.size w w4 := by rw [hw4]; exact (((((Below.refl _ w).alloc (Nat.le_refl _) _).alloc (by simp) _).alloc (by simp; omega) _).alloc (by simp; omega) _).alloc (by simp; omega) _
   have hs4 : w4.heap.size = w.heap.size + 5 := by rw [hw4]; simp
   obtain ⟨q0, q1, q2, q3, q4⟩ := alloc5 w (.cells #[.bool false, .slice pa la ca] 24) (.cells #[.bool true, .slice pb lb cb] 24) (.cells #[.bool false, .slice none 0 0] 24) (.cells #[.bool false, .slice none 0 0] 24) (.cells #[.bool false, .slice pa la ca, .bool true, .slice pb lb cb] 24)
   rw [← hw4] at q0 q1 q2 q3 q4
   go_enter Tryz.func68, Tryz.ntmps68
   go_wp2_with (first | (go_at_call 95; rw [← hw4]; refine (valid_two (w.heap.size + 1 + 1 + 1 + 1) false true (.slice pa la ca) (.slice pb lb cb) A B w4 (by omega) (by omega) (by omega) (cell_of q4 0 rfl) (cell_of q4 1 rfl) (cell_of q4 2 rfl) (cell_of q4 3 rfl) ((hLa.below hB4).mono hB4.size) ((hLb.below hB4).mono hB4.size)).mono ?_; rintro e w5 ⟨rfl, hb5⟩; rw [show okB false A = true from HOA.out, show okB true B = true from HOB.out]; clear hw4; have p0 := (hb5.block _ (show w.heap.size < w4.heap.size by omega)).trans q0; have p1 := (hb5.block _ (show w.heap.size + 1 < w4.heap.size by omega)).trans q1; have p2 := (hb5.block _ (show w.heap.size + 1 + 1 < w4.heap.size by omega)).trans q2; have p3 := (hb5.block _ (show w.heap.size + 1 + 1 + 1 < w4.heap.size by omega)).trans q3; have c00p := cell_of p0 0 rfl; have c01p := cell_of p0 1 rfl; have c10p := cell_of p1 0 rfl; have c11p := cell_of p1 1 rfl; have c20p := cell_of p2 0 rfl; have c21p := cell_of p2 1 rfl; have c30p := cell_of p3 0 rfl; have c31p := cell_of p3 1 rfl; have f20p := frozen_of p2 0; have f21p := frozen_of p2 1; have f30p := frozen_of p3 0; have f31p := frozen_of p3 1; have hs5 := hb5.size; have hB5 := hB4.trans (hb5.mono hB4.size)) | (go_at_call 126; refine (div_any (.slice pa la ca) (.slice pb lb cb) A B _ _ w5 hRa hRb hbpos (by omega) (by omega) ((hLa.below hB5).mono hB5.size) ((hLb.below hB5).mono hB5.size)).mono ?_; rintro e w6 ⟨vq, vr, zq, zr, rfl, hoq, hor, hrq, hrr, hb6⟩; obtain ⟨pq, lq, cq, rfl⟩ := hoq.shape; obtain ⟨pr, lr, cr, rfl⟩ := hor.shape; have hlr := hor.lims.cells.1; have hlq := hoq.lims.cells.1; have hzr := hrr.pos; have HLR := Lib.hid hlr; have HLQ := Lib.hid hlq; have hr0 : lr = 0 := (by have h := HR00.out; rw [h] at hzr; omega); subst hr0; clear hlr hlq; have r0 := (hb6.block _ (show w.heap.size < w5.heap.size by omega)).trans p0; have r1 := (hb6.block _ (show w.heap.size + 1 < w5.heap.size by omega)).trans p1; have r2 := (hb6.block _ (show w.heap.size + 1 + 1 < w5.heap.size by omega)).trans p2; have r3 := (hb6.block _ (show w.heap.size + 1 + 1 + 1 < w5.heap.size by omega)).trans p3; have c00r := cell_of r0 0 rfl; have c01r := cell_of r0 1 rfl; have c10r := cell_of r1 0 rfl; have c11r := cell_of r1 1 rfl; have c20r := cell_of r2 0 rfl; have c21r := cell_of r2 1 rfl; have c30r := cell_of r3 0 rfl; have c31r := cell_of r3 1 rfl; have f20r := frozen_of r2 0; have f21r := frozen_of r2 1; have f30r := frozen_of r3 0; have f31r := frozen_of r3 1; have hs6 := hb6.size; have hB6 := hB5.trans (hb6.mono hB5.size)))
   have WQ : Wo w.heap.size w6 (.agg #[.bool (decide (0 < lq)), .slice pq lq cq]) (sgn true ((a.natAbs : Int) / b.natAbs)) := by have h := Wo.of true (hoq.mono hB5.size) hrq (by omega); rw [← HLQ.out] at h; exact h
   have WR : Wo w.heap.size w6 (.agg #[.bool false, .slice pr 0 cr]) 0 := by
    have h : Wo w.heap.size w6 (.agg #[.bool false, .slice pr 0 cr]) ((a.natAbs : Int) % b.natAbs) := Wo.of false (hor.mono hB5.size) hrr (by omega)
    rw [HR00.out] at h; exact h
   obtain ⟨t0, t1, t2, t3⟩ := put22 (show w.heap.size + 1 + 1 ≠ w.heap.size + 1 + 1 + 1 by omega) r2 r3 (.bool (decide (0 < lq))) (.slice pq lq cq) (.bool false) (.slice pr 0 cr)
   have z3 : (put2 w6 (w.heap.size + 1 + 1) (.bool (decide (0 < lq))) (.slice pq lq cq)).heap[w.heap.size + 1 + 1 + 1]? = some (.cells #[.bool false, .slice none 0 0] 24) := ((put2_only _ _ _ _).block _ (by omega)).trans r3
   refine bodyPost_ret (v := .tuple #[.agg #[.bool (decide (0 < lq)), .slice pq lq cq], .agg #[.bool false, .slice pr 0 cr], .int .i64 0]) (by simp [results, Tryz.results68, go_sem, show (((w6.setCell ⟨w.heap.size + 1 + 1, 0, none⟩ (.bool (decide (0 < lq)))).setCell ⟨w.heap.size + 1 + 1, 1, none⟩ (.slice pq lq cq)).setCell ⟨w.heap.size + 1 + 1 + 1, 0, none⟩ (.bool false)).setCell ⟨w.heap.size + 1 + 1 + 1, 1, none⟩ (.slice pr 0 cr) = put2 (put2 w6 (w.heap.size + 1 + 1) (.bool (decide (0 < lq))) (.slice pq lq cq)) (w.heap.size + 1 + 1 + 1) (.bool false) (.slice pr 0 cr) from rfl, t0, t1, t2, t3]) rfl ⟨_, _, _, _, _, _, _, _, (sgn true ((a.natAbs : Int) / b.natAbs)), 0, rfl, HFL, Wo.put2 z3 (by decide) _ _ (Wo.put2 r2 (by decide) _ _ WQ), Wo.put2 z3 (by decide) _ _ (Wo.put2 r2 (by decide) _ _ WR), (hB6.trans ((put2_only _ _ _ _).below (by omega))).trans ((put2_only _ _ _ _).below (by omega))⟩
 · show Calls Tryz.prog 68 #[.agg #[.bool true, .slice pa la ca], .agg #[.bool false, .slice pb lb cb]] w _
   obtain ⟨w4, hw4⟩ : ∃ w4, w4 = ((((w.alloc (.cells #[.bool true, .slice pa la ca] 24)).alloc (.cells #[.bool false, .slice pb lb cb] 24)).alloc (.cells #[.bool false, .slice none 0 0] 24)).alloc (.cells #[.bool false, .slice none 0 0] 24)).alloc (.cells #[.bool true, .slice pa la ca, .bool false, .slice pb lb cb] 24) := ⟨_, rfl⟩
   have hB4 : Below w.heap.size w w4 := by rw [hw4]; exact (((((Below.refl _ w).alloc (Nat.le_refl _) _).alloc (by simp) _).alloc (by simp; omega) _).alloc (by simp; omega) _).alloc (by simp; omega) _
   have hs4 : w4.heap.size = w.heap.size + 5 := by rw [hw4]; simp
   obtain ⟨q0, q1, q2, q3, q4⟩ := alloc5 w (.cells #[.bool true, .slice pa la ca] 24) (.cells #[.bool false, .slice pb lb cb] 24) (.cells #[.bool false, .slice none 0 0] 24) (.cells #[.bool false, .slice none 0 0] 24) (.cells #[.bool true, .slice pa la ca, .bool false, .slice pb lb cb] 24)
   rw [← hw4] at q0 q1 q2 q3 q4
   go_enter Tryz.func68, Tryz.ntmps68
   go_wp2_with (first | (go_at_call 95; rw [← hw4]; refine (valid_two (w.heap.size + 1 + 1 + 1 + 1) true false (.slice pa la ca) (.slice pb lb cb) A B w4 (by omega) (by omega) (by omega) (cell_of q4 0 rfl) (cell_of q4 1 rfl) (cell_of q4 2 rfl) (cell_of q4 3 rfl) ((hLa.below hB4).mono hB4.size) ((hLb.below hB4).mono hB4.size)).mono ?_; rintro e w5 ⟨rfl, hb5⟩; rw [show okB true A = true from HOA.out, show okB false B = true from HOB.out]; clear hw4; have p0 := (hb5.block _ (show w.heap.size < w4.heap.size by omega)).trans q0; have p1 := (hb5.block _ (show w.heap.size + 1 < w4.heap.size by omega)).trans q1; have p2 := (hb5.block _ (show w.heap.size + 1 + 1 < w4.heap.size by omega)).trans q2; have p3 := (hb5.block _ (show w.heap.size + 1 + 1 + 1 < w4.heap.size by omega)).trans q3; have c00p := cell_of p0 0 rfl; have c01p := cell_of p0 1 rfl; have c10p := cell_of p1 0 rfl; have c11p := cell_of p1 1 rfl; have c20p := cell_of p2 0 rfl; have c21p := cell_of p2 1 rfl; have c30p := cell_of p3 0 rfl; have c31p := cell_of p3 1 rfl; have f20p := frozen_of p2 0; have f21p := frozen_of p2 1; have f30p := frozen_of p3 0; have f31p := frozen_of p3 1; have hs5 := hb5.size; have hB5 := hB4.trans (hb5.mono hB4.size)) | (go_at_call 126; refine (div_any (.slice pa la ca) (.slice pb lb cb) A B _ _ w5 hRa hRb hbpos (by omega) (by omega) ((hLa.below hB5).mono hB5.size) ((hLb.below hB5).mono hB5.size)).mono ?_; rintro e w6 ⟨vq, vr, zq, zr, rfl, hoq, hor, hrq, hrr, hb6⟩; obtain ⟨pq, lq, cq, rfl⟩ := hoq.shape; obtain ⟨pr, lr, cr, rfl⟩ := hor.shape; have hlr := hor.lims.cells.1; have hlq := hoq.lims.cells.1; have hzr := hrr.pos; have HLR := Lib.hid hlr; have HLQ := Lib.hid hlq; have hr0 : lr = 0 := (by have h := HR00.out; rw [h] at hzr; omega); subst hr0; clear hlr hlq; have r0 := (hb6.block _ (show w.heap.size < w5.heap.size by omega)).trans p0; have r1 := (hb6.block _ (show w.heap.size + 1 < w5.heap.size by omega)).trans p1; have r2 := (hb6.block _ (show w.heap.size + 1 + 1 < w5.heap.size by omega)).trans p2; have r3 := (hb6.block _ (show w.heap.size + 1 + 1 + 1 < w5.heap.size by omega)).trans p3; have c00r := cell_of r0 0 rfl; have c01r := cell_of r0 1 rfl; have c10r := cell_of r1 0 rfl; have c11r := cell_of r1 1 rfl; have c20r := cell_of r2 0 rfl; have c21r := cell_of r2 1 rfl; have c30r := cell_of r3 0 rfl; have c31r := cell_of r3 1 rfl; have f20r := frozen_of r2 0; have f21r := frozen_of r2 1; have f30r := frozen_of r3 0; have f31r := frozen_of r3 1; have hs6 := hb6.size; have hB6 := hB5.trans (hb6.mono hB5.size)))
   have WQ : Wo w.heap.size w6 (.agg #[.bool (decide (0 < lq)), .slice pq lq cq]) (sgn true ((a.natAbs : Int) / b.natAbs)) := by have h := Wo.of true (hoq.mono hB5.size) hrq (by omega); rw [← HLQ.out] at h; exact h
   have WR : Wo w.heap.size w6 (.agg #[.bool false, .slice pr 0 cr]) 0 := by
    have h : Wo w.heap.size w6 (.agg #[.bool false, .slice pr 0 cr]) ((a.natAbs : Int) % b.natAbs) := Wo.of false (hor.mono hB5.size) hrr (by omega)
    rw [HR00.out] at h; exact h
   obtain ⟨t0, t1, t2, t3⟩ := put22 (show w.heap.size + 1 + 1 ≠ w.heap.size + 1 + 1 + 1 by omega) r2 r3 (.bool (decide (0 < lq))) (.slice pq lq cq) (.bool false) (.slice pr 0 cr)
   have z3 : (put2 w6 (w.heap.size + 1 + 1) (.bool (decide (0 < lq))) (.slice pq lq cq)).heap[w.heap.size + 1 + 1 + 1]? = some (.cells #[.bool false, .slice none 0 0] 24) := ((put2_only _ _ _ _).block _ (by omega)).trans r3
   refine bodyPost_ret (v := .tuple #[.agg #[.bool (decide (0 < lq)), .slice pq lq cq], .agg #[.bool false, .slice pr 0 cr], .int .i64 0]) (by simp [results, Tryz.results68, go_sem, show (((w6.setCell ⟨w.heap.size + 1 + 1, 0, none⟩ (.bool (decide (0 < lq)))).setCell ⟨w.heap.size + 1 + 1, 1, none⟩ (.slice pq lq cq)).setCell ⟨w.heap.size + 1 + 1 + 1, 0, none⟩ (.bool false)).setCell ⟨w.heap.size + 1 + 1 + 1, 1, none⟩ (.slice pr 0 cr) = put2 (put2 w6 (w.heap.size + 1 + 1) (.bool (decide (0 < lq))) (.slice pq lq cq)) (w.heap.size + 1 + 1 + 1) (.bool false) (.slice pr 0 cr) from rfl, t0, t1, t2, t3]) rfl ⟨_, _, _, _, _, _, _, _, (sgn true ((a.natAbs : Int) / b.natAbs)), 0, rfl, HFL, Wo.put2 z3 (by decide) _ _ (Wo.put2 r2 (by decide) _ _ WQ), Wo.put2 z3 (by decide) _ _ (Wo.put2 r2 (by decide) _ _ WR), (hB6.trans ((put2_only _ _ _ _).below (by omega))).trans ((put2_only _ _ _ _).below (by omega))⟩
theorem DivMod_adj (va vb : Value) (a b : Int) (w : World) (hA : Wn w.heap.size w va a) (hB : Wn w.heap.size w vb b) (hb0 : b ≠ 0) (hs : decide (a < 0) ≠ decide (b < 0)) (hr00 : 0 < (a.natAbs : Int) % b.natAbs) : Calls Tryz.prog 68 #[va, vb] w (DivModPost a b w) := by
 obtain ⟨sa, A, rfl, hLa, hRa, hca⟩ := hA
 obtain ⟨sb, B, rfl, hLb, hRb, hcb⟩ := hB
 obtain ⟨pa, la, ca, rfl⟩ := hLa.form
 obtain ⟨pb, lb, cb, rfl⟩ := hLb.form
 have hoa := rep_ok hRa hca
 have hob := rep_ok hRb hcb
 have hla := rep_short hRa hca
 have hlb := rep_short hRb hcb
 have hbpos : (0 : Int) < b.natAbs := by omega
 have hbl := hRb.pos.2 hbpos
 have hbl2 := hLb.cells.1
 have hlb0 : 0 < lb := by omega
 clear hbl hbl2
 have HFL := floor_diff hb0 hs hr00
 obtain ⟨na, hna⟩ : ∃ na, na = decide (a < 0) := ⟨_, rfl⟩
 obtain ⟨nb, hnb⟩ : ∃ nb, nb = decide (b < 0) := ⟨_, rfl⟩
 have HNA := Lib.hid hna
 have HNB := Lib.hid hnb
 rw [← hna, ← hnb]
 rw [← hna] at hoa
 rw [← hnb] at hob
 rw [← hna, ← hnb] at hs
 rw [← hnb] at HFL
 clear hna hnb
 have hqle := quo_le (x := (a.natAbs : Int)) (y := b.natAbs) (by omega) hbpos
 have hrlt := Int.emod_lt_of_pos (a.natAbs : Int) hbpos
 have hrge := Int.emod_nonneg (a.natAbs : Int) (show (b.natAbs : Int) ≠ 0 by omega)
 have HOA := Lib.hid hoa
 have HOB := Lib.hid hob
 clear hoa hob
 obtain rfl : nb = !na := by revert hs; cases na <;> cases nb <;> simp
 obtain ⟨w4, hw4⟩ : ∃ w4, w4 = ((((w.alloc (.cells #[.bool na, .slice pa la ca] 24)).alloc (.cells #[.bool (!na), .slice pb lb cb] 24)).alloc (.cells #[.bool false, .slice none 0 0] 24)).alloc (.cells #[.bool false, .slice none 0 0] 24)).alloc (.cells #[.bool na, .slice pa la ca, .bool (!na), .slice pb lb cb] 24) := ⟨_, rfl⟩
 have hB4 : Below w.heap.size w w4 := by rw [hw4]; exact (((((Below.refl _ w).alloc (Nat.le_refl _) _).alloc (by simp) _).alloc (by simp; omega) _).alloc (by simp; omega) _).alloc (by simp; omega) _
 have hs4 : w4.heap.size = w.heap.size + 5 := by rw [hw4]; simp
 obtain ⟨q0, q1, q2, q3, q4⟩ := alloc5 w (.cells #[.bool na, .slice pa la ca] 24) (.cells #[.bool (!na), .slice pb lb cb] 24) (.cells #[.bool false, .slice none 0 0] 24) (.cells #[.bool false, .slice none 0 0] 24) (.cells #[.bool na, .slice pa la ca, .bool (!na), .slice pb lb cb] 24)
 rw [← hw4] at q0 q1 q2 q3 q4
 go_enter Tryz.func68, Tryz.ntmps68
 go_wp2_with (first | (go_at_call 95; rw [← hw4]; refine (valid_two (w.heap.size + 1 + 1 + 1 + 1) na (!na) (.slice pa la ca) (.slice pb lb cb) A B w4 (by omega) (by omega) (by omega) (cell_of q4 0 rfl) (cell_of q4 1 rfl) (cell_of q4 2 rfl) (cell_of q4 3 rfl) ((hLa.below hB4).mono hB4.size) ((hLb.below hB4).mono hB4.size)).mono ?_; rintro e w5 ⟨rfl, hb5⟩; rw [HOA.out, HOB.out]; clear hw4; have p0 := (hb5.block _ (show w.heap.size < w4.heap.size by omega)).trans q0; have p1 := (hb5.block _ (show w.heap.size + 1 < w4.heap.size by omega)).trans q1; have p2 := (hb5.block _ (show w.heap.size + 1 + 1 < w4.heap.size by omega)).trans q2; have p3 := (hb5.block _ (show w.heap.size + 1 + 1 + 1 < w4.heap.size by omega)).trans q3; have c00p := cell_of p0 0 rfl; have c01p := cell_of p0 1 rfl; have c10p := cell_of p1 0 rfl; have c11p := cell_of p1 1 rfl; have c20p := cell_of p2 0 rfl; have c21p := cell_of p2 1 rfl; have c30p := cell_of p3 0 rfl; have c31p := cell_of p3 1 rfl; have f20p := frozen_of p2 0; have f21p := frozen_of p2 1; have f30p := frozen_of p3 0; have f31p := frozen_of p3 1; have hs5 := hb5.size; have hB5 := hB4.trans (hb5.mono hB4.size)) | (go_at_call 126; refine (div_any (.slice pa la ca) (.slice pb lb cb) A B _ _ w5 hRa hRb hbpos (by omega) (by omega) ((hLa.below hB5).mono hB5.size) ((hLb.below hB5).mono hB5.size)).mono ?_; rintro e w6 ⟨vq, vr, zq, zr, rfl, hoq, hor, hrq, hrr, hb6⟩; obtain ⟨pq, lq, cq, rfl⟩ := hoq.shape; obtain ⟨pr, lr, cr, rfl⟩ := hor.shape; have hlr := hor.lims.cells.1; have hlq := hoq.lims.cells.1; have hzr := hrr.pos; have HLR := Lib.hid hlr; have HLQ := Lib.hid hlq; have hr0 : 0 < lr := (by have h := hzr.2 hr00; omega); clear hlr hlq; have r0 := (hb6.block _ (show w.heap.size < w5.heap.size by omega)).trans p0; have r1 := (hb6.block _ (show w.heap.size + 1 < w5.heap.size by omega)).trans p1; have r2 := (hb6.block _ (show w.heap.size + 1 + 1 < w5.heap.size by omega)).trans p2; have r3 := (hb6.block _ (show w.heap.size + 1 + 1 + 1 < w5.heap.size by omega)).trans p3; have c00r := cell_of r0 0 rfl; have c01r := cell_of r0 1 rfl; have c10r := cell_of r1 0 rfl; have c11r := cell_of r1 1 rfl; have c20r := cell_of r2 0 rfl; have c21r := cell_of r2 1 rfl; have c30r := cell_of r3 0 rfl; have c31r := cell_of r3 1 rfl; have f20r := frozen_of r2 0; have f21r := frozen_of r2 1; have f30r := frozen_of r3 0; have f31r := frozen_of r3 1; have hs6 := hb6.size; have hB6 := hB5.trans (hb6.mono hB5.size)))
 have hzq : zq.length ≤ 1024 := hrq.cap.2 (by omega)
 have k3 : ∀ W, Below w6.heap.size w6 W → W.cell? ⟨w.heap.size + 1, 1, none⟩ = some (.slice pb lb cb) := fun W h => cell_of ((h.block _ (by omega)).trans r1) 1 rfl
 obtain ⟨IA, HIA⟩ : ∃ I : (Nat → Bool) → Act → World → Prop, Hid (I = (fun dn a' W2 => ∃ u42 u43 u44 u45 u46 u47 u48 u7 u8 : Value, ∃ gn : Nat, ∃ pv : Option Addr, ∃ lv : Nat, ∃ cv : Nat, ∃ z1 : List Int, ∃ pu : Option Addr, ∃ lu : Nat, ∃ cu : Nat, ∃ z2 : List Int, a' = { tmps := #[.agg #[.bool na, .slice pa la ca], .agg #[.bool (!na), .slice pb lb cb], .pointer (some ⟨w.heap.size, 0, none⟩), .pointer (some ⟨(w.heap.size + 1), 0, none⟩), .pointer (some ⟨(w.heap.size + 1 + 1), 0, none⟩), .pointer (some ⟨(w.heap.size + 1 + 1 + 1), 0, none⟩), .int .i64 0, u7, u8, .bool false, .agg #[.bool na, .slice pa la ca], .agg #[.bool (!na), .slice pb lb cb], .slice (some ⟨(w.heap.size + 1 + 1 + 1 + 1), 0, none⟩) 2 2, .bool true, .bool false, undef, undef, .bool false, .pointer (some ⟨(w.heap.size + 1), 1, none⟩), .slice pb lb cb, .int .i64 (lb : Int), .bool false, undef, undef, .tuple #[.slice pq lq cq, .slice pr lr cr], .pointer (some ⟨w.heap.size, 1, none⟩), .slice pa la ca, .pointer (some ⟨(w.heap.size + 1), 1, none⟩), .slice pb lb cb, .tuple #[.slice pq lq cq, .slice pr lr cr], .slice pq lq cq, .slice pr lr cr, .pointer (some ⟨w.heap.size, 0, none⟩), .bool na, .pointer (some ⟨(w.heap.size + 1), 0, none⟩), .bool (!na), .bool true, .bool true, .slice pr lr cr, .int .i64 (lr : Int), .bool true, .bool true, u42, u43, u44, u45, u46, u47, u48, undef, undef, undef, undef, undef, undef, undef, undef, undef, undef, undef, undef, undef, undef, undef, undef, undef, undef, undef, undef, undef], defers := [] } ∧ (dn 0 = true → u42 = .slice pq lq cq) ∧ (dn 1 = true → u43 = .slice (some ⟨gn, 0, none⟩) 1 1) ∧ (dn 2 = true → u44 = .slice pv lv cv) ∧ (dn 3 = true → u45 = .pointer (some ⟨(w.heap.size + 1), 1, none⟩)) ∧ (dn 4 = true → u46 = .slice pb lb cb) ∧ (dn 5 = true → u47 = .slice pr lr cr) ∧ (dn 6 = true → u48 = .slice pu lu cu) ∧ (dn 7 = true → u7 = .slice pv lv cv) ∧ (dn 8 = true → u8 = .slice pu lu cu) ∧ (dn 7 = false → u7 = .slice pq lq cq) ∧ Hid (dn 7 = true → dn 0 = true) ∧ (dn 8 = false → u8 = .slice pr lr cr) ∧ Hid (dn 8 = true → dn 5 = true) ∧ Below w6.heap.size w6 W2 ∧ (dn 1 = true → OwnR w6.heap.size W2 (.slice (some ⟨gn, 0, none⟩) 1 1) [1] 1) ∧ (dn 2 = true → OwnR w6.heap.size W2 (.slice pv lv cv) z1 (((a.natAbs : Int) / b.natAbs) + 1)) ∧ (dn 6 = true → OwnR w6.heap.size W2 (.slice pu lu cu) z2 ((b.natAbs : Int) - ((a.natAbs : Int) % b.natAbs))) ∧ Hid (dn 7 = true → dn 2 = true) ∧ Hid (dn 8 = true → dn 6 = true))) := ⟨_, rfl⟩
 refine (wpIn_wide (n := 9)).1 ?_
 refine wpIn_region_conf IA (n := 9) (by kernel_rfl) (by kernel_rfl) ?h0A ?hstepA ?hendA
 case h0A =>
  rw [HIA.out]
  exact ⟨undef, undef, undef, undef, undef, undef, undef, Value.slice pq lq cq, Value.slice pr lr cr, 0, none, 0, 0, [], none, 0, 0, [], rfl, (fun h => by cases h), (fun h => by cases h), (fun h => by cases h), (fun h => by cases h), (fun h => by cases h), (fun h => by cases h), (fun h => by cases h), (fun h => by cases h), (fun h => by cases h), (fun _ => rfl), (Lib.hid (fun h => by cases h)), (fun _ => rfl), (Lib.hid (fun h => by cases h)), (Below.refl _ _).drew, (fun h => by cases h), (fun h => by cases h), (fun h => by cases h), (Lib.hid (fun h => by cases h)), (Lib.hid (fun h => by cases h))⟩
 case hstepA =>
  intro dn a' W2 hI i o ho hd hdep
  match i, ho with
  | 0, ho =>
   rw [HIA.out] at hI
   obtain ⟨u42, u43, u44, u45, u46, u47, u48, u7, u8, gn, pv, lv, cv, z1, pu, lu, cu, z2, rfl, f0, f1, f2, f3, f4, f5, f6, f7, f8, p7_old, o7_0, p8_old, o8_5, gB, g1, g2, g6, k7_2, k8_6⟩ := hI
   have hold7 : dn 7 = false := by cases h : dn 7 with | false => rfl | true => exact absurd (o7_0.out h) (by rw [hd]; decide)
   obtain rfl := (p7_old hold7).symm
   refine opIn_of_list ho ?_
   cases ho
   clear hdep
   gi_wp2
   rw [HIA.out]
   exact ⟨_, _, _, _, _, _, _, _, _, _, _, _, _, _, _, _, _, _, rfl, fun _ => rfl, WR.lf f1, WR.lf f2, WR.lf f3, WR.lf f4, WR.lf f5, WR.lf f6, WR.lf f7, WR.lf f8, (fun _ => rfl), (Lib.hid (fun _ => upd_same _ _)), WR.lf p8_old, (Lib.hid (fun h0 => upd_mono (o8_5.out (by simpa [upd] using h0)))), gB, WR.lf g1, WR.lf g2, WR.lf g6, (Lib.hid (fun h0 => upd_mono (k7_2.out (by simpa [upd] using h0)))), (Lib.hid (fun h0 => upd_mono (k8_6.out (by simpa [upd] using h0))))⟩
  | 1, ho =>
   rw [HIA.out] at hI
   obtain ⟨u42, u43, u44, u45, u46, u47, u48, u7, u8, gn, pv, lv, cv, z1, pu, lu, cu, z2, rfl, f0, f1, f2, f3, f4, f5, f6, f7, f8, p7_old, o7_0, p8_old, o8_5, gB, g1, g2, g6, k7_2, k8_6⟩ := hI
   refine opIn_of_list ho ?_
   cases ho
   clear hdep
   gi_wp2
   have hb5 : Below W2.heap.size W2 (W2.alloc (.cells #[.int .u16 1] 48)) := (Below.refl _ _).alloc (Nat.le_refl _) _
   have hown := made_one W2 w6.heap.size 1 gB.size
   rw [HIA.out]
   exact ⟨_, _, _, _, _, _, _, _, _, W2.heap.size, _, _, _, _, _, _, _, _, rfl, WR.lf f0, fun _ => rfl, WR.lf f2, WR.lf f3, WR.lf f4, WR.lf f5, WR.lf f6, WR.lf f7, WR.lf f8, WR.lf p7_old, (Lib.hid (fun h0 => upd_mono (o7_0.out (by simpa [upd] using h0)))), WR.lf p8_old, (Lib.hid (fun h0 => upd_mono (o8_5.out (by simpa [upd] using h0)))), gB.trans (hb5.mono gB.size), (fun _ => ⟨hown, rep_one⟩), (fun h0 => (g2 (WR.lu h0)).below hb5), (fun h0 => (g6 (WR.lu h0)).below hb5), (Lib.hid (fun h0 => upd_mono (k7_2.out (by simpa [upd] using h0)))), (Lib.hid (fun h0 => upd_mono (k8_6.out (by simpa [upd] using h0))))⟩
  | 2, ho =>
   have e0 : dn 0 = true := hdep ⟨0, .data⟩ (by cases ho; simp) rfl
   have e1 : dn 1 = true := hdep ⟨1, .data⟩ (by cases ho; simp) rfl
   rw [HIA.out] at hI
   obtain ⟨u42, u43, u44, u45, u46, u47, u48, u7, u8, gn, pv, lv, cv, z1, pu, lu, cu, z2, rfl, f0, f1, f2, f3, f4, f5, f6, f7, f8, p7_old, o7_0, p8_old, o8_5, gB, g1, g2, g6, k7_2, k8_6⟩ := hI
   obtain rfl := (f0 e0).symm
   obtain rfl := (f1 e1).symm
   refine opIn_of_list ho ?_
   cases ho
   clear hdep
   gi_wp2
   refine ⟨trivial, ?_⟩
   refine CallsIn.mono ((callsIn_wide (n := 8)).2 (add_any (Value.slice pq lq cq) (Value.slice (some ⟨gn, 0, none⟩) 1 1) zq [1] _ _ _ hrq rep_one (by omega) (by decide) (hoq.below gB).lims (g1 e1).1.lims)) ?_
   rintro e w5 ⟨vv, zz, rfl, hown, hrep, hb5⟩
   replace hown := hown.mono gB.size
   obtain ⟨pp, ll, cc, rfl⟩ := hown.shape
   gi_wp2
   rw [HIA.out]
   exact ⟨_, _, _, _, _, _, _, _, _, _, pp, ll, cc, zz, _, _, _, _, rfl, fun _ => rfl, fun _ => rfl, fun _ => rfl, WR.lf f3, WR.lf f4, WR.lf f5, WR.lf f6, (fun h0 => absurd (k7_2.out (by simpa [upd] using h0)) (by rw [hd]; decide)), WR.lf f8, WR.lf p7_old, (Lib.hid (fun h0 => upd_mono (o7_0.out (by simpa [upd] using h0)))), WR.lf p8_old, (Lib.hid (fun h0 => upd_mono (o8_5.out (by simpa [upd] using h0)))), gB.trans (hb5.mono gB.size), (fun h0 => (g1 (WR.lu h0)).below hb5), (fun _ => ⟨hown, hrep⟩), (fun h0 => (g6 (WR.lu h0)).below hb5), (Lib.hid (fun _ => upd_same _ _)), (Lib.hid (fun h0 => upd_mono (k8_6.out (by simpa [upd] using h0))))⟩
  | 3, ho =>
   rw [HIA.out] at hI
   obtain ⟨u42, u43, u44, u45, u46, u47, u48, u7, u8, gn, pv, lv, cv, z1, pu, lu, cu, z2, rfl, f0, f1, f2, f3, f4, f5, f6, f7, f8, p7_old, o7_0, p8_old, o8_5, gB, g1, g2, g6, k7_2, k8_6⟩ := hI
   refine opIn_of_list ho ?_
   cases ho
   clear hdep
   gi_wp2
   rw [HIA.out]
   exact ⟨_, _, _, _, _, _, _, _, _, _, _, _, _, _, _, _, _, _, rfl, WR.lf f0, WR.lf f1, WR.lf f2, fun _ => rfl, WR.lf f4, WR.lf f5, WR.lf f6, WR.lf f7, WR.lf f8, WR.lf p7_old, (Lib.hid (fun h0 => upd_mono (o7_0.out (by simpa [upd] using h0)))), WR.lf p8_old, (Lib.hid (fun h0 => upd_mono (o8_5.out (by simpa [upd] using h0)))), gB, WR.lf g1, WR.lf g2, WR.lf g6, (Lib.hid (fun h0 => upd_mono (k7_2.out (by simpa [upd] using h0)))), (Lib.hid (fun h0 => upd_mono (k8_6.out (by simpa [upd] using h0))))⟩
  | 4, ho =>
   have e3 : dn 3 = true := hdep ⟨3, .data⟩ (by cases ho; simp) rfl
   rw [HIA.out] at hI
   obtain ⟨u42, u43, u44, u45, u46, u47, u48, u7, u8, gn, pv, lv, cv, z1, pu, lu, cu, z2, rfl, f0, f1, f2, f3, f4, f5, f6, f7, f8, p7_old, o7_0, p8_old, o8_5, gB, g1, g2, g6, k7_2, k8_6⟩ := hI
   obtain rfl := (f3 e3).symm
   refine opIn_of_list ho ?_
   cases ho
   clear hdep
   have hc0 := k3 _ gB
   gi_wp2
   rw [HIA.out]
   exact ⟨_, _, _, _, _, _, _, _, _, _, _, _, _, _, _, _, _, _, rfl, WR.lf f0, WR.lf f1, WR.lf f2, fun _ => rfl, fun _ => rfl, WR.lf f5, WR.lf f6, WR.lf f7, WR.lf f8, WR.lf p7_old, (Lib.hid (fun h0 => upd_mono (o7_0.out (by simpa [upd] using h0)))), WR.lf p8_old, (Lib.hid (fun h0 => upd_mono (o8_5.out (by simpa [upd] using h0)))), gB, WR.lf g1, WR.lf g2, WR.lf g6, (Lib.hid (fun h0 => upd_mono (k7_2.out (by simpa [upd] using h0)))), (Lib.hid (fun h0 => upd_mono (k8_6.out (by simpa [upd] using h0))))⟩
  | 5, ho =>
   rw [HIA.out] at hI
   obtain ⟨u42, u43, u44, u45, u46, u47, u48, u7, u8, gn, pv, lv, cv, z1, pu, lu, cu, z2, rfl, f0, f1, f2, f3, f4, f5, f6, f7, f8, p7_old, o7_0, p8_old, o8_5, gB, g1, g2, g6, k7_2, k8_6⟩ := hI
   have hold8 : dn 8 = false := by cases h : dn 8 with | false => rfl | true => exact absurd (o8_5.out h) (by rw [hd]; decide)
   obtain rfl := (p8_old hold8).symm
   refine opIn_of_list ho ?_
   cases ho
   clear hdep
   gi_wp2
   rw [HIA.out]
   exact ⟨_, _, _, _, _, _, _, _, _, _, _, _, _, _, _, _, _, _, rfl, WR.lf f0, WR.lf f1, WR.lf f2, WR.lf f3, WR.lf f4, fun _ => rfl, WR.lf f6, WR.lf f7, WR.lf f8, WR.lf p7_old, (Lib.hid (fun h0 => upd_mono (o7_0.out (by simpa [upd] using h0)))), (fun _ => rfl), (Lib.hid (fun _ => upd_same _ _)), gB, WR.lf g1, WR.lf g2, WR.lf g6, (Lib.hid (fun h0 => upd_mono (k7_2.out (by simpa [upd] using h0)))), (Lib.hid (fun h0 => upd_mono (k8_6.out (by simpa [upd] using h0))))⟩
  | 6, ho =>
   have e4 : dn 4 = true := hdep ⟨4, .data⟩ (by cases ho; simp) rfl
   have e5 : dn 5 = true := hdep ⟨5, .data⟩ (by cases ho; simp) rfl
   have e2 : dn 2 = true := hdep ⟨2, .chain⟩ (by cases ho; simp) rfl
   rw [HIA.out] at hI
   obtain ⟨u42, u43, u44, u45, u46, u47, u48, u7, u8, gn, pv, lv, cv, z1, pu, lu, cu, z2, rfl, f0, f1, f2, f3, f4, f5, f6, f7, f8, p7_old, o7_0, p8_old, o8_5, gB, g1, g2, g6, k7_2, k8_6⟩ := hI
   obtain rfl := (f4 e4).symm
   obtain rfl := (f5 e5).symm
   obtain rfl := (f2 e2).symm
   refine opIn_of_list ho ?_
   cases ho
   clear hdep
   gi_wp2
   refine ⟨trivial, ?_⟩
   refine CallsIn.mono ((callsIn_wide (n := 8)).2 (sub_all (Value.slice pb lb cb) (Value.slice pr lr cr) B zr _ _ _ hRb hrr (Int.le_of_lt hrlt) (by omega) ((hLb.below hB6).mono hB6.size |>.below gB |>.mono gB.size) (hor.below gB).lims)) ?_
   rintro e w5 ⟨vv, zz, rfl, hown, hrep, hb5⟩
   replace hown := hown.mono gB.size
   obtain ⟨pp, ll, cc, rfl⟩ := hown.shape
   gi_wp2
   rw [HIA.out]
   exact ⟨_, _, _, _, _, _, _, _, _, _, _, _, _, _, pp, ll, cc, zz, rfl, WR.lf f0, WR.lf f1, fun _ => rfl, WR.lf f3, fun _ => rfl, fun _ => rfl, fun _ => rfl, WR.lf f7, (fun h0 => absurd (k8_6.out (by simpa [upd] using h0)) (by rw [hd]; decide)), WR.lf p7_old, (Lib.hid (fun h0 => upd_mono (o7_0.out (by simpa [upd] using h0)))), WR.lf p8_old, (Lib.hid (fun h0 => upd_mono (o8_5.out (by simpa [upd] using h0)))), gB.trans (hb5.mono gB.size), (fun h0 => (g1 (WR.lu h0)).below hb5), (fun h0 => (g2 (WR.lu h0)).below hb5), (fun _ => ⟨hown, hrep⟩), (Lib.hid (fun h0 => upd_mono (k7_2.out (by simpa [upd] using h0)))), (Lib.hid (fun _ => upd_same _ _))⟩
  | 7, ho =>
   have e2 : dn 2 = true := hdep ⟨2, .data⟩ (by cases ho; simp) rfl
   have e6 : dn 6 = true := hdep ⟨6, .chain⟩ (by cases ho; simp) rfl
   have e0 : dn 0 = true := hdep ⟨0, .phase⟩ (by cases ho; simp) rfl
   rw [HIA.out] at hI
   obtain ⟨u42, u43, u44, u45, u46, u47, u48, u7, u8, gn, pv, lv, cv, z1, pu, lu, cu, z2, rfl, f0, f1, f2, f3, f4, f5, f6, f7, f8, p7_old, o7_0, p8_old, o8_5, gB, g1, g2, g6, k7_2, k8_6⟩ := hI
   obtain rfl := (f2 e2).symm
   obtain rfl := (f6 e6).symm
   obtain rfl := (f0 e0).symm
   refine opIn_of_list ho ?_
   cases ho
   clear hdep
   gi_wp2
   rw [HIA.out]
   exact ⟨_, _, _, _, _, _, _, _, _, _, _, _, _, _, _, _, _, _, rfl, fun _ => rfl, WR.lf f1, fun _ => rfl, WR.lf f3, WR.lf f4, WR.lf f5, fun _ => rfl, fun _ => rfl, WR.lf f8, (fun h0 => by rw [upd_same] at h0; cases h0), (Lib.hid (fun _ => upd_mono e0)), WR.lf p8_old, (Lib.hid (fun h0 => upd_mono (o8_5.out (by simpa [upd] using h0)))), gB, WR.lf g1, WR.lf g2, WR.lf g6, (Lib.hid (fun _ => upd_mono e2)), (Lib.hid (fun h0 => upd_mono (k8_6.out (by simpa [upd] using h0))))⟩
  | 8, ho =>
   have e6 : dn 6 = true := hdep ⟨6, .data⟩ (by cases ho; simp) rfl
   have e7 : dn 7 = true := hdep ⟨7, .chain⟩ (by cases ho; simp) rfl
   have e5 : dn 5 = true := hdep ⟨5, .phase⟩ (by cases ho; simp) rfl
   rw [HIA.out] at hI
   obtain ⟨u42, u43, u44, u45, u46, u47, u48, u7, u8, gn, pv, lv, cv, z1, pu, lu, cu, z2, rfl, f0, f1, f2, f3, f4, f5, f6, f7, f8, p7_old, o7_0, p8_old, o8_5, gB, g1, g2, g6, k7_2, k8_6⟩ := hI
   obtain rfl := (f6 e6).symm
   obtain rfl := (f7 e7).symm
   obtain rfl := (f5 e5).symm
   refine opIn_of_list ho ?_
   cases ho
   clear hdep
   gi_wp2
   rw [HIA.out]
   exact ⟨_, _, _, _, _, _, _, _, _, _, _, _, _, _, _, _, _, _, rfl, WR.lf f0, WR.lf f1, WR.lf f2, WR.lf f3, WR.lf f4, fun _ => rfl, fun _ => rfl, fun _ => rfl, fun _ => rfl, WR.lf p7_old, (Lib.hid (fun h0 => upd_mono (o7_0.out (by simpa [upd] using h0)))), (fun h0 => by rw [upd_same] at h0; cases h0), (Lib.hid (fun _ => upd_mono e5)), gB, WR.lf g1, WR.lf g2, WR.lf g6, (Lib.hid (fun h0 => upd_mono (k7_2.out (by simpa [upd] using h0)))), (Lib.hid (fun _ => upd_mono e6))⟩
  | k + 9, ho => simp at ho
 case hendA =>
  intro dn a' W2 hI hall
  rw [HIA.out] at hI
  obtain ⟨u42, u43, u44, u45, u46, u47, u48, u7, u8, gn, pv, lv, cv, z1, pu, lu, cu, z2, rfl, f0, f1, f2, f3, f4, f5, f6, f7, f8, p7_old, o7_0, p8_old, o8_5, gB, g1, g2, g6, k7_2, k8_6⟩ := hI
  have G1 := g1 (hall 1 (by decide))
  have G2 := g2 (hall 2 (by decide))
  have G6 := g6 (hall 6 (by decide))
  obtain rfl := (f0 (hall 0 (by decide))).symm
  obtain rfl := (f1 (hall 1 (by decide))).symm
  obtain rfl := (f2 (hall 2 (by decide))).symm
  obtain rfl := (f3 (hall 3 (by decide))).symm
  obtain rfl := (f4 (hall 4 (by decide))).symm
  obtain rfl := (f5 (hall 5 (by decide))).symm
  obtain rfl := (f6 (hall 6 (by decide))).symm
  obtain rfl := (f7 (hall 7 (by decide))).symm
  obtain rfl := (f8 (hall 8 (by decide))).symm
  clear hall g1 g2 g6 HIA
  have s0 := (gB.block _ (show w.heap.size < w6.heap.size by omega)).trans r0
  have s1 := (gB.block _ (show w.heap.size + 1 < w6.heap.size by omega)).trans r1
  have s2 := (gB.block _ (show w.heap.size + 1 + 1 < w6.heap.size by omega)).trans r2
  have s3 := (gB.block _ (show w.heap.size + 1 + 1 + 1 < w6.heap.size by omega)).trans r3
  have c00s := cell_of s0 0 rfl
  have c01s := cell_of s0 1 rfl
  have c10s := cell_of s1 0 rfl
  have c11s := cell_of s1 1 rfl
  have c20s := cell_of s2 0 rfl
  have c21s := cell_of s2 1 rfl
  have c30s := cell_of s3 0 rfl
  have c31s := cell_of s3 1 rfl
  have f20s := frozen_of s2 0
  have f21s := frozen_of s2 1
  have f30s := frozen_of s3 0
  have f31s := frozen_of s3 1
  have hsW := gB.size
  have hBW := hB6.trans (gB.mono hB6.size)
  have HL1 := Lib.hid G2.1.lims.cells.1
  have HL2 := Lib.hid G6.1.lims.cells.1
  cases na
  · go_wp2
    have WQ : Wo w.heap.size W2 (.agg #[.bool (decide (0 < lv)), .slice pv lv cv]) (sgn true (((a.natAbs : Int) / b.natAbs) + 1)) := by have h := Wo.of true (G2.1.mono hB6.size) G2.2 (by omega); rw [← HL1.out] at h; exact h
    have WR : Wo w.heap.size W2 (.agg #[.bool (decide (0 < lu)), .slice pu lu cu]) (sgn true ((b.natAbs : Int) - ((a.natAbs : Int) % b.natAbs))) := by have h := Wo.of true (G6.1.mono hB6.size) G6.2 (by omega); rw [← HL2.out] at h; exact h
    obtain ⟨t0, t1, t2, t3⟩ := put22 (show w.heap.size + 1 + 1 ≠ w.heap.size + 1 + 1 + 1 by omega) s2 s3 (.bool (decide (0 < lv))) (.slice pv lv cv) (.bool (decide (0 < lu))) (.slice pu lu cu)
    have z3 : (put2 W2 (w.heap.size + 1 + 1) (.bool (decide (0 < lv))) (.slice pv lv cv)).heap[w.heap.size + 1 + 1 + 1]? = some (.cells #[.bool false, .slice none 0 0] 24) := ((put2_only _ _ _ _).block _ (by omega)).trans s3
    refine bodyPost_ret (v := .tuple #[.agg #[.bool (decide (0 < lv)), .slice pv lv cv], .agg #[.bool (decide (0 < lu)), .slice pu lu cu], .int .i64 0]) (by simp [results, Tryz.results68, go_sem, show (((W2.setCell ⟨w.heap.size + 1 + 1, 0, none⟩ (.bool (decide (0 < lv)))).setCell ⟨w.heap.size + 1 + 1, 1, none⟩ (.slice pv lv cv)).setCell ⟨w.heap.size + 1 + 1 + 1, 0, none⟩ (.bool (decide (0 < lu)))).setCell ⟨w.heap.size + 1 + 1 + 1, 1, none⟩ (.slice pu lu cu) = put2 (put2 W2 (w.heap.size + 1 + 1) (.bool (decide (0 < lv))) (.slice pv lv cv)) (w.heap.size + 1 + 1 + 1) (.bool (decide (0 < lu))) (.slice pu lu cu) from rfl, t0, t1, t2, t3]) rfl ⟨_, _, _, _, _, _, _, _, (sgn true (((a.natAbs : Int) / b.natAbs) + 1)), (sgn true ((b.natAbs : Int) - ((a.natAbs : Int) % b.natAbs))), rfl, HFL, Wo.put2 z3 (by decide) _ _ (Wo.put2 s2 (by decide) _ _ WQ), Wo.put2 z3 (by decide) _ _ (Wo.put2 s2 (by decide) _ _ WR), (hBW.trans ((put2_only _ _ _ _).below (by omega))).trans ((put2_only _ _ _ _).below (by omega))⟩
  · go_wp2
    have WQ : Wo w.heap.size W2 (.agg #[.bool (decide (0 < lv)), .slice pv lv cv]) (sgn true (((a.natAbs : Int) / b.natAbs) + 1)) := by have h := Wo.of true (G2.1.mono hB6.size) G2.2 (by omega); rw [← HL1.out] at h; exact h
    have WR : Wo w.heap.size W2 (.agg #[.bool false, .slice pu lu cu]) (sgn false ((b.natAbs : Int) - ((a.natAbs : Int) % b.natAbs))) := by have h := Wo.of false (G6.1.mono hB6.size) G6.2 (by omega); rw [← HL2.out] at h; exact h
    obtain ⟨t0, t1, t2, t3⟩ := put22 (show w.heap.size + 1 + 1 ≠ w.heap.size + 1 + 1 + 1 by omega) s2 s3 (.bool (decide (0 < lv))) (.slice pv lv cv) (.bool false) (.slice pu lu cu)
    have z3 : (put2 W2 (w.heap.size + 1 + 1) (.bool (decide (0 < lv))) (.slice pv lv cv)).heap[w.heap.size + 1 + 1 + 1]? = some (.cells #[.bool false, .slice none 0 0] 24) := ((put2_only _ _ _ _).block _ (by omega)).trans s3
    refine bodyPost_ret (v := .tuple #[.agg #[.bool (decide (0 < lv)), .slice pv lv cv], .agg #[.bool false, .slice pu lu cu], .int .i64 0]) (by simp [results, Tryz.results68, go_sem, show (((W2.setCell ⟨w.heap.size + 1 + 1, 0, none⟩ (.bool (decide (0 < lv)))).setCell ⟨w.heap.size + 1 + 1, 1, none⟩ (.slice pv lv cv)).setCell ⟨w.heap.size + 1 + 1 + 1, 0, none⟩ (.bool false)).setCell ⟨w.heap.size + 1 + 1 + 1, 1, none⟩ (.slice pu lu cu) = put2 (put2 W2 (w.heap.size + 1 + 1) (.bool (decide (0 < lv))) (.slice pv lv cv)) (w.heap.size + 1 + 1 + 1) (.bool false) (.slice pu lu cu) from rfl, t0, t1, t2, t3]) rfl ⟨_, _, _, _, _, _, _, _, (sgn true (((a.natAbs : Int) / b.natAbs) + 1)), (sgn false ((b.natAbs : Int) - ((a.natAbs : Int) % b.natAbs))), rfl, HFL, Wo.put2 z3 (by decide) _ _ (Wo.put2 s2 (by decide) _ _ WQ), Wo.put2 z3 (by decide) _ _ (Wo.put2 s2 (by decide) _ _ WR), (hBW.trans ((put2_only _ _ _ _).below (by omega))).trans ((put2_only _ _ _ _).below (by omega))⟩
theorem DivMod_ok (va vb : Value) (a b : Int) (w : World) (hA : Wn w.heap.size w va a) (hB : Wn w.heap.size w vb b) (hb0 : b ≠ 0) : Calls Tryz.prog 68 #[va, vb] w (DivModPost a b w) := by
 by_cases hs : decide (a < 0) = decide (b < 0)
 · exact DivMod_same va vb a b w hA hB hb0 hs
 · have hge := Int.emod_nonneg (a.natAbs : Int) (show (b.natAbs : Int) ≠ 0 by omega)
   by_cases hr : (a.natAbs : Int) % b.natAbs = 0
   · exact DivMod_zr va vb a b w hA hB hb0 hs hr
   · exact DivMod_adj va vb a b w hA hB hb0 hs (by omega)
end Go.Proofs.YtihdbjilolmfiaaGreatDoor
