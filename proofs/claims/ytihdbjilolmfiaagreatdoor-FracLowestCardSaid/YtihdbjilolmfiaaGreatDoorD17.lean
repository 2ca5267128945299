import Derived.Test.YtihdbjilolmfiaaGreatDoorD12
import Derived.Test.YtihdbjilolmfiaaGreatDoorD01
set_option maxRecDepth 100000
set_option maxHeartbeats 4000000
namespace Go.Proofs.YtihdbjilolmfiaaGreatDoor
open Go.RowKit Go.WM Go.WR
attribute [local go_sem] Oper.semAt_some
theorem rep_len_mul {A B Z : List Int} {n m : Int} (hA : Rep A n) (hB : Rep B m) (hZ : Rep Z (n * m)) (h1 : A.length ≤ 35184372088830) (h2 : B.length ≤ 35184372088830) : Z.length ≤ 140737488355328 := by
 have h : Z.length ≤ A.length + B.length := (hZ.len_le_iff _).2 (by
  rw [Int.pow_add]
  have a := hA.len_lt
  have b := hB.len_lt
  have := hA.nonneg
  have := hB.nonneg
  have := pow_pos' A.length
  exact Int.lt_of_le_of_lt (Int.mul_le_mul_of_nonneg_left (Int.le_of_lt b) (by omega)) (Int.mul_lt_mul_of_pos_right a (pow_pos' _)))
 omega
theorem sgn_mul (a b : Int) : sgn (decide (a < 0) != decide (b < 0)) ((a.natAbs : Int) * b.natAbs) = a * b := by
 rcases (show a < 0 ∨ 0 ≤ a by omega) with h | h <;> rcases (show b < 0 ∨ 0 ≤ b by omega) with k | k
 · rw [decide_eq_true h, decide_eq_true k, show (a.natAbs : Int) = -a by omega, show (b.natAbs : Int) = -b by omega]; simp [sgn, Int.neg_mul_neg]
 · rw [decide_eq_true h, decide_eq_false (by omega), show (a.natAbs : Int) = -a by omega, show (b.natAbs : Int) = b by omega]; simp [sgn, Int.neg_mul]
 · rw [decide_eq_false (by omega), decide_eq_true k, show (a.natAbs : Int) = a by omega, show (b.natAbs : Int) = -b by omega]; simp [sgn, Int.mul_neg]
 · rw [decide_eq_false (by omega), decide_eq_false (by omega), show (a.natAbs : Int) = a by omega, show (b.natAbs : Int) = b by omega]; simp [sgn]
theorem Mul_ok (va vb : Value) (a b : Int) (w : World) (hA : Wn w.heap.size w va a) (hB : Wn w.heap.size w vb b) : Calls Tryz.prog 49 #[va, vb] w (FitPost w.heap.size (a * b) w) := by
 obtain ⟨sa, A, rfl, hLa, hRa, hca⟩ := hA
 obtain ⟨sb, B, rfl, hLb, hRb, hcb⟩ := hB
 obtain ⟨pa, la, ca, rfl⟩ := hLa.form
 obtain ⟨pb, lb, cb, rfl⟩ := hLb.form
 have hoa := rep_ok hRa hca
 have hob := rep_ok hRb hcb
 have hla := rep_short hRa hca
 have hlb := rep_short hRb hcb
 have hz : sgn (decide (a < 0) != decide (b < 0)) ((a.natAbs : Int) * b.natAbs) = a * b := sgn_mul a b
 generalize decide (a < 0) = na at *
 generalize decide (b < 0) = nb at *
 have HZ := Lib.hid hz
 have HOA := Lib.hid hoa
 have HOB := Lib.hid hob
 clear hz hoa hob
 obtain ⟨w4, hw4⟩ : ∃ w4, w4 = (((w.alloc (.cells #[.bool na, .slice pa la ca] 24)).alloc (.cells #[.bool nb, .slice pb lb cb] 24)).alloc (.cells #[.bool false, .slice none 0 0] 24)).alloc (.cells #[.bool na, .slice pa la ca, .bool nb, .slice pb lb cb] 24) := ⟨_, rfl⟩
 have hB4 : Below w.heap.size w w4 := by rw [hw4]; exact ((((Below.refl _ w).alloc (Nat.le_refl _) _).alloc (by simp) _).alloc (by simp; omega) _).alloc (by simp; omega) _
 have hs4 : w4.heap.size = w.heap.size + 4 := by rw [hw4]; simp
 obtain ⟨q0, q1, q2, q3⟩ := alloc4 w (.cells #[.bool na, .slice pa la ca] 24) (.cells #[.bool nb, .slice pb lb cb] 24) (.cells #[.bool false, .slice none 0 0] 24) (.cells #[.bool na, .slice pa la ca, .bool nb, .slice pb lb cb] 24)
 rw [← hw4] at q0 q1 q2 q3
 go_enter Tryz.func49, Tryz.ntmps49
 go_wp2_with (go_at_call 95; rw [← hw4]; refine (valid_two (w.heap.size + 1 + 1 + 1) na nb (.slice pa la ca) (.slice pb lb cb) A B w4 (by omega) (by omega) (by omega) (cell_of q3 0 rfl) (cell_of q3 1 rfl) (cell_of q3 2 rfl) (cell_of q3 3 rfl) ((hLa.below hB4).mono hB4.size) ((hLb.below hB4).mono hB4.size)).mono ?_; rintro e w5 ⟨rfl, hb5⟩; rw [HOA.out, HOB.out]; clear hw4; have p0 := (hb5.block _ (show w.heap.size < w4.heap.size by omega)).trans q0; have p1 := (hb5.block _ (show w.heap.size + 1 < w4.heap.size by omega)).trans q1; have p2 := (hb5.block _ (show w.heap.size + 1 + 1 < w4.heap.size by omega)).trans q2; have c0 := cell_of p0 0 rfl; have c1 := cell_of p0 1 rfl; have c2 := cell_of p1 0 rfl; have c3 := cell_of p1 1 rfl; have c4 := cell_of p2 0 rfl; have c5 := cell_of p2 1 rfl; have f4 := frozen_of p2 0; have f5 := frozen_of p2 1; have hs5 := hb5.size; have hB5 := hB4.trans (hb5.mono hB4.size))
 clear q0 q1 q2 q3 hB4 c0 c1 c2 c3 c4 c5 f4 f5
 have k0 : ∀ W, Below w5.heap.size w5 W → W.cell? ⟨w.heap.size, 0, none⟩ = some (.bool na) := fun W h => cell_of ((h.block _ (by omega)).trans p0) 0 rfl
 have k1 : ∀ W, Below w5.heap.size w5 W → W.cell? ⟨w.heap.size, 1, none⟩ = some (.slice pa la ca) := fun W h => cell_of ((h.block _ (by omega)).trans p0) 1 rfl
 have k2 : ∀ W, Below w5.heap.size w5 W → W.cell? ⟨w.heap.size + 1, 0, none⟩ = some (.bool nb) := fun W h => cell_of ((h.block _ (by omega)).trans p1) 0 rfl
 have k3 : ∀ W, Below w5.heap.size w5 W → W.cell? ⟨w.heap.size + 1, 1, none⟩ = some (.slice pb lb cb) := fun W h => cell_of ((h.block _ (by omega)).trans p1) 1 rfl
 have k4 : ∀ W, Below w5.heap.size w5 W → W.cell? ⟨w.heap.size + 1 + 1, 0, none⟩ = some (.bool false) := fun W h => cell_of ((h.block _ (by omega)).trans p2) 0 rfl
 have k5 : ∀ W, Below w5.heap.size w5 W → W.cell? ⟨w.heap.size + 1 + 1, 1, none⟩ = some (.slice none 0 0) := fun W h => cell_of ((h.block _ (by omega)).trans p2) 1 rfl
 have k6 : ∀ W, Below w5.heap.size w5 W → W.frozen? ⟨w.heap.size + 1 + 1, 0, none⟩ = false := fun W h => frozen_of ((h.block _ (by omega)).trans p2) 0
 have k7 : ∀ W, Below w5.heap.size w5 W → W.frozen? ⟨w.heap.size + 1 + 1, 1, none⟩ = false := fun W h => frozen_of ((h.block _ (by omega)).trans p2) 1
 obtain ⟨IA, HIA⟩ : ∃ I : (Nat → Bool) → Act → World → Prop, Hid (I = (fun dn a' W2 => ∃ u12 u13 u14 u15 u16 u17 u18 u19 u20 u21 u22 u23 u24 u5 : Value, ∃ v1 : Value, ∃ z1 : List Int, ∃ b2 : Bool, ∃ pq : Option Addr, ∃ lq : Nat, ∃ cq : Nat, ∃ er : Int, ∃ W' : World, a' = { tmps := #[.agg #[.bool na, .slice pa la ca], .agg #[.bool nb, .slice pb lb cb], .pointer (some ⟨w.heap.size, 0, none⟩), .pointer (some ⟨(w.heap.size + 1), 0, none⟩), .pointer (some ⟨(w.heap.size + 1 + 1), 0, none⟩), u5, .agg #[.bool na, .slice pa la ca], .agg #[.bool nb, .slice pb lb cb], .slice (some ⟨(w.heap.size + 1 + 1 + 1), 0, none⟩) 2 2, .bool true, .bool false, undef, u12, u13, u14, u15, u16, u17, u18, u19, u20, u21, u22, u23, u24], defers := [] } ∧ (dn 0 = true → u12 = .pointer (some ⟨w.heap.size, 0, none⟩)) ∧ (dn 1 = true → u13 = .bool na) ∧ (dn 2 = true → u14 = .pointer (some ⟨(w.heap.size + 1), 0, none⟩)) ∧ (dn 3 = true → u15 = .bool nb) ∧ (dn 4 = true → u16 = .bool (na != nb)) ∧ (dn 5 = true → u17 = .pointer (some ⟨w.heap.size, 1, none⟩)) ∧ (dn 6 = true → u18 = .slice pa la ca) ∧ (dn 7 = true → u19 = .pointer (some ⟨(w.heap.size + 1), 1, none⟩)) ∧ (dn 8 = true → u20 = .slice pb lb cb) ∧ (dn 9 = true → u21 = v1) ∧ (dn 10 = true → u22 = .tuple #[.agg #[.bool b2, .slice pq lq cq], .int .i64 er]) ∧ (dn 11 = true → u23 = .agg #[.bool b2, .slice pq lq cq]) ∧ (dn 12 = true → u24 = .int .i64 er) ∧ (dn 14 = true → u5 = .int .i64 er) ∧ Below w5.heap.size w5 W' ∧ (dn 9 = true → OwnR w5.heap.size W' v1 z1 ((a.natAbs : Int) * b.natAbs)) ∧ (dn 10 = true → FitW w5.heap.size W' (.agg #[.bool b2, .slice pq lq cq]) er (sgn (na != nb) ((a.natAbs : Int) * b.natAbs))) ∧ Hid (dn 11 = true → dn 10 = true) ∧ Hid (dn 12 = true → dn 10 = true) ∧ Hid (dn 14 = true → dn 10 = true) ∧ (dn 13 = false → W2 = W') ∧ (dn 13 = true → W2 = put2 W' (w.heap.size + 1 + 1) (.bool b2) (.slice pq lq cq)) ∧ Hid (dn 13 = true → ∀ i, i < 13 → dn i = true))) := ⟨_, rfl⟩
 refine (wpIn_wide (n := 9)).1 ?_
 refine wpIn_region_conf IA (n := 9) (by kernel_rfl) (by kernel_rfl) ?h0A ?hstepA ?hendA
 case h0A =>
  rw [HIA.out]
  exact ⟨undef, undef, undef, undef, undef, undef, undef, undef, undef, undef, undef, undef, undef, Value.int IntKind.i64 0, undef, [], false, none, 0, 0, 0, _, rfl, (fun h => by cases h), (fun h => by cases h), (fun h => by cases h), (fun h => by cases h), (fun h => by cases h), (fun h => by cases h), (fun h => by cases h), (fun h => by cases h), (fun h => by cases h), (fun h => by cases h), (fun h => by cases h), (fun h => by cases h), (fun h => by cases h), (fun h => by cases h), (Below.refl _ _).drew, (fun h => by cases h), (fun h => by cases h), (Lib.hid (fun h => by cases h)), (Lib.hid (fun h => by cases h)), (Lib.hid (fun h => by cases h)), (fun _ => rfl), (fun h => by cases h), (Lib.hid (fun h => by cases h))⟩
 case hstepA =>
  intro dn a' W2 hI i o ho hd hdep
  match i, ho with
  | 0, ho =>
   rw [HIA.out] at hI
   obtain ⟨u12, u13, u14, u15, u16, u17, u18, u19, u20, u21, u22, u23, u24, u5, v1, z1, b2, pq, lq, cq, er, W', rfl, f0, f1, f2, f3, f4, f5, f6, f7, f8, f9, f10, f11, f12, f14, gB, g9, g10, k11_10, k12_10, k14_10, s0, s1, sd⟩ := hI
   have hS : dn 13 = false := by cases h : dn 13 with | false => rfl | true => exact absurd (sd.out h 0 (by decide)) (by rw [hd]; decide)
   obtain rfl := s0 hS
   clear s0 s1
   refine opIn_of_list ho ?_
   cases ho
   clear hdep
   gi_wp2
   rw [HIA.out]
   exact ⟨_, _, _, _, _, _, _, _, _, _, _, _, _, _, _, _, _, _, _, _, _, W2, rfl, fun _ => rfl, lf f1, lf f2, lf f3, lf f4, lf f5, lf f6, lf f7, lf f8, lf f9, lf f10, lf f11, lf f12, lf f14, gB, lf g9, lf g10, (Lib.hid (fun h0 => upd_mono (k11_10.out (lu h0)))), (Lib.hid (fun h0 => upd_mono (k12_10.out (lu h0)))), (Lib.hid (fun h0 => upd_mono (k14_10.out (lu h0)))), (fun _ => rfl), (fun h0 => absurd (show dn 13 = true by simpa [upd] using h0) (by rw [hS]; decide)), (Lib.hid (fun h0 => absurd (show dn 13 = true by simpa [upd] using h0) (by rw [hS]; decide)))⟩
  | 1, ho =>
   have e0 : dn 0 = true := hdep ⟨0, .data⟩ (by cases ho; simp) rfl
   rw [HIA.out] at hI
   obtain ⟨u12, u13, u14, u15, u16, u17, u18, u19, u20, u21, u22, u23, u24, u5, v1, z1, b2, pq, lq, cq, er, W', rfl, f0, f1, f2, f3, f4, f5, f6, f7, f8, f9, f10, f11, f12, f14, gB, g9, g10, k11_10, k12_10, k14_10, s0, s1, sd⟩ := hI
   obtain rfl := (f0 e0).symm
   have hS : dn 13 = false := by cases h : dn 13 with | false => rfl | true => exact absurd (sd.out h 1 (by decide)) (by rw [hd]; decide)
   obtain rfl := s0 hS
   clear s0 s1
   refine opIn_of_list ho ?_
   cases ho
   clear hdep
   have hc0 := k0 _ gB
   gi_wp2
   rw [HIA.out]
   exact ⟨_, _, _, _, _, _, _, _, _, _, _, _, _, _, _, _, _, _, _, _, _, W2, rfl, fun _ => rfl, fun _ => rfl, lf f2, lf f3, lf f4, lf f5, lf f6, lf f7, lf f8, lf f9, lf f10, lf f11, lf f12, lf f14, gB, lf g9, lf g10, (Lib.hid (fun h0 => upd_mono (k11_10.out (lu h0)))), (Lib.hid (fun h0 => upd_mono (k12_10.out (lu h0)))), (Lib.hid (fun h0 => upd_mono (k14_10.out (lu h0)))), (fun _ => rfl), (fun h0 => absurd (show dn 13 = true by simpa [upd] using h0) (by rw [hS]; decide)), (Lib.hid (fun h0 => absurd (show dn 13 = true by simpa [upd] using h0) (by rw [hS]; decide)))⟩
  | 2, ho =>
   rw [HIA.out] at hI
   obtain ⟨u12, u13, u14, u15, u16, u17, u18, u19, u20, u21, u22, u23, u24, u5, v1, z1, b2, pq, lq, cq, er, W', rfl, f0, f1, f2, f3, f4, f5, f6, f7, f8, f9, f10, f11, f12, f14, gB, g9, g10, k11_10, k12_10, k14_10, s0, s1, sd⟩ := hI
   have hS : dn 13 = false := by cases h : dn 13 with | false => rfl | true => exact absurd (sd.out h 2 (by decide)) (by rw [hd]; decide)
   obtain rfl := s0 hS
   clear s0 s1
   refine opIn_of_list ho ?_
   cases ho
   clear hdep
   gi_wp2
   rw [HIA.out]
   exact ⟨_, _, _, _, _, _, _, _, _, _, _, _, _, _, _, _, _, _, _, _, _, W2, rfl, lf f0, lf f1, fun _ => rfl, lf f3, lf f4, lf f5, lf f6, lf f7, lf f8, lf f9, lf f10, lf f11, lf f12, lf f14, gB, lf g9, lf g10, (Lib.hid (fun h0 => upd_mono (k11_10.out (lu h0)))), (Lib.hid (fun h0 => upd_mono (k12_10.out (lu h0)))), (Lib.hid (fun h0 => upd_mono (k14_10.out (lu h0)))), (fun _ => rfl), (fun h0 => absurd (show dn 13 = true by simpa [upd] using h0) (by rw [hS]; decide)), (Lib.hid (fun h0 => absurd (show dn 13 = true by simpa [upd] using h0) (by rw [hS]; decide)))⟩
  | 3, ho =>
   have e2 : dn 2 = true := hdep ⟨2, .data⟩ (by cases ho; simp) rfl
   rw [HIA.out] at hI
   obtain ⟨u12, u13, u14, u15, u16, u17, u18, u19, u20, u21, u22, u23, u24, u5, v1, z1, b2, pq, lq, cq, er, W', rfl, f0, f1, f2, f3, f4, f5, f6, f7, f8, f9, f10, f11, f12, f14, gB, g9, g10, k11_10, k12_10, k14_10, s0, s1, sd⟩ := hI
   obtain rfl := (f2 e2).symm
   have hS : dn 13 = false := by cases h : dn 13 with | false => rfl | true => exact absurd (sd.out h 3 (by decide)) (by rw [hd]; decide)
   obtain rfl := s0 hS
   clear s0 s1
   refine opIn_of_list ho ?_
   cases ho
   clear hdep
   have hc0 := k2 _ gB
   gi_wp2
   rw [HIA.out]
   exact ⟨_, _, _, _, _, _, _, _, _, _, _, _, _, _, _, _, _, _, _, _, _, W2, rfl, lf f0, lf f1, fun _ => rfl, fun _ => rfl, lf f4, lf f5, lf f6, lf f7, lf f8, lf f9, lf f10, lf f11, lf f12, lf f14, gB, lf g9, lf g10, (Lib.hid (fun h0 => upd_mono (k11_10.out (lu h0)))), (Lib.hid (fun h0 => upd_mono (k12_10.out (lu h0)))), (Lib.hid (fun h0 => upd_mono (k14_10.out (lu h0)))), (fun _ => rfl), (fun h0 => absurd (show dn 13 = true by simpa [upd] using h0) (by rw [hS]; decide)), (Lib.hid (fun h0 => absurd (show dn 13 = true by simpa [upd] using h0) (by rw [hS]; decide)))⟩
  | 4, ho =>
   have e1 : dn 1 = true := hdep ⟨1, .data⟩ (by cases ho; simp) rfl
   have e3 : dn 3 = true := hdep ⟨3, .data⟩ (by cases ho; simp) rfl
   rw [HIA.out] at hI
   obtain ⟨u12, u13, u14, u15, u16, u17, u18, u19, u20, u21, u22, u23, u24, u5, v1, z1, b2, pq, lq, cq, er, W', rfl, f0, f1, f2, f3, f4, f5, f6, f7, f8, f9, f10, f11, f12, f14, gB, g9, g10, k11_10, k12_10, k14_10, s0, s1, sd⟩ := hI
   obtain rfl := (f1 e1).symm
   obtain rfl := (f3 e3).symm
   have hS : dn 13 = false := by cases h : dn 13 with | false => rfl | true => exact absurd (sd.out h 4 (by decide)) (by rw [hd]; decide)
   obtain rfl := s0 hS
   clear s0 s1
   refine opIn_of_list ho ?_
   cases ho
   clear hdep
   gi_wp2
   rw [HIA.out]
   exact ⟨_, _, _, _, _, _, _, _, _, _, _, _, _, _, _, _, _, _, _, _, _, W2, rfl, lf f0, fun _ => rfl, lf f2, fun _ => rfl, fun _ => rfl, lf f5, lf f6, lf f7, lf f8, lf f9, lf f10, lf f11, lf f12, lf f14, gB, lf g9, lf g10, (Lib.hid (fun h0 => upd_mono (k11_10.out (lu h0)))), (Lib.hid (fun h0 => upd_mono (k12_10.out (lu h0)))), (Lib.hid (fun h0 => upd_mono (k14_10.out (lu h0)))), (fun _ => rfl), (fun h0 => absurd (show dn 13 = true by simpa [upd] using h0) (by rw [hS]; decide)), (Lib.hid (fun h0 => absurd (show dn 13 = true by simpa [upd] using h0) (by rw [hS]; decide)))⟩
  | 5, ho =>
   rw [HIA.out] at hI
   obtain ⟨u12, u13, u14, u15, u16, u17, u18, u19, u20, u21, u22, u23, u24, u5, v1, z1, b2, pq, lq, cq, er, W', rfl, f0, f1, f2, f3, f4, f5, f6, f7, f8, f9, f10, f11, f12, f14, gB, g9, g10, k11_10, k12_10, k14_10, s0, s1, sd⟩ := hI
   have hS : dn 13 = false := by cases h : dn 13 with | false => rfl | true => exact absurd (sd.out h 5 (by decide)) (by rw [hd]; decide)
   obtain rfl := s0 hS
   clear s0 s1
   refine opIn_of_list ho ?_
   cases ho
   clear hdep
   gi_wp2
   rw [HIA.out]
   exact ⟨_, _, _, _, _, _, _, _, _, _, _, _, _, _, _, _, _, _, _, _, _, W2, rfl, lf f0, lf f1, lf f2, lf f3, lf f4, fun _ => rfl, lf f6, lf f7, lf f8, lf f9, lf f10, lf f11, lf f12, lf f14, gB, lf g9, lf g10, (Lib.hid (fun h0 => upd_mono (k11_10.out (lu h0)))), (Lib.hid (fun h0 => upd_mono (k12_10.out (lu h0)))), (Lib.hid (fun h0 => upd_mono (k14_10.out (lu h0)))), (fun _ => rfl), (fun h0 => absurd (show dn 13 = true by simpa [upd] using h0) (by rw [hS]; decide)), (Lib.hid (fun h0 => absurd (show dn 13 = true by simpa [upd] using h0) (by rw [hS]; decide)))⟩
  | 6, ho =>
   have e5 : dn 5 = true := hdep ⟨5, .data⟩ (by cases ho; simp) rfl
   rw [HIA.out] at hI
   obtain ⟨u12, u13, u14, u15, u16, u17, u18, u19, u20, u21, u22, u23, u24, u5, v1, z1, b2, pq, lq, cq, er, W', rfl, f0, f1, f2, f3, f4, f5, f6, f7, f8, f9, f10, f11, f12, f14, gB, g9, g10, k11_10, k12_10, k14_10, s0, s1, sd⟩ := hI
   obtain rfl := (f5 e5).symm
   have hS : dn 13 = false := by cases h : dn 13 with | false => rfl | true => exact absurd (sd.out h 6 (by decide)) (by rw [hd]; decide)
   obtain rfl := s0 hS
   clear s0 s1
   refine opIn_of_list ho ?_
   cases ho
   clear hdep
   have hc0 := k1 _ gB
   gi_wp2
   rw [HIA.out]
   exact ⟨_, _, _, _, _, _, _, _, _, _, _, _, _, _, _, _, _, _, _, _, _, W2, rfl, lf f0, lf f1, lf f2, lf f3, lf f4, fun _ => rfl, fun _ => rfl, lf f7, lf f8, lf f9, lf f10, lf f11, lf f12, lf f14, gB, lf g9, lf g10, (Lib.hid (fun h0 => upd_mono (k11_10.out (lu h0)))), (Lib.hid (fun h0 => upd_mono (k12_10.out (lu h0)))), (Lib.hid (fun h0 => upd_mono (k14_10.out (lu h0)))), (fun _ => rfl), (fun h0 => absurd (show dn 13 = true by simpa [upd] using h0) (by rw [hS]; decide)), (Lib.hid (fun h0 => absurd (show dn 13 = true by simpa [upd] using h0) (by rw [hS]; decide)))⟩
  | 7, ho =>
   rw [HIA.out] at hI
   obtain ⟨u12, u13, u14, u15, u16, u17, u18, u19, u20, u21, u22, u23, u24, u5, v1, z1, b2, pq, lq, cq, er, W', rfl, f0, f1, f2, f3, f4, f5, f6, f7, f8, f9, f10, f11, f12, f14, gB, g9, g10, k11_10, k12_10, k14_10, s0, s1, sd⟩ := hI
   have hS : dn 13 = false := by cases h : dn 13 with | false => rfl | true => exact absurd (sd.out h 7 (by decide)) (by rw [hd]; decide)
   obtain rfl := s0 hS
   clear s0 s1
   refine opIn_of_list ho ?_
   cases ho
   clear hdep
   gi_wp2
   rw [HIA.out]
   exact ⟨_, _, _, _, _, _, _, _, _, _, _, _, _, _, _, _, _, _, _, _, _, W2, rfl, lf f0, lf f1, lf f2, lf f3, lf f4, lf f5, lf f6, fun _ => rfl, lf f8, lf f9, lf f10, lf f11, lf f12, lf f14, gB, lf g9, lf g10, (Lib.hid (fun h0 => upd_mono (k11_10.out (lu h0)))), (Lib.hid (fun h0 => upd_mono (k12_10.out (lu h0)))), (Lib.hid (fun h0 => upd_mono (k14_10.out (lu h0)))), (fun _ => rfl), (fun h0 => absurd (show dn 13 = true by simpa [upd] using h0) (by rw [hS]; decide)), (Lib.hid (fun h0 => absurd (show dn 13 = true by simpa [upd] using h0) (by rw [hS]; decide)))⟩
  | 8, ho =>
   have e7 : dn 7 = true := hdep ⟨7, .data⟩ (by cases ho; simp) rfl
   rw [HIA.out] at hI
   obtain ⟨u12, u13, u14, u15, u16, u17, u18, u19, u20, u21, u22, u23, u24, u5, v1, z1, b2, pq, lq, cq, er, W', rfl, f0, f1, f2, f3, f4, f5, f6, f7, f8, f9, f10, f11, f12, f14, gB, g9, g10, k11_10, k12_10, k14_10, s0, s1, sd⟩ := hI
   obtain rfl := (f7 e7).symm
   have hS : dn 13 = false := by cases h : dn 13 with | false => rfl | true => exact absurd (sd.out h 8 (by decide)) (by rw [hd]; decide)
   obtain rfl := s0 hS
   clear s0 s1
   refine opIn_of_list ho ?_
   cases ho
   clear hdep
   have hc0 := k3 _ gB
   gi_wp2
   rw [HIA.out]
   exact ⟨_, _, _, _, _, _, _, _, _, _, _, _, _, _, _, _, _, _, _, _, _, W2, rfl, lf f0, lf f1, lf f2, lf f3, lf f4, lf f5, lf f6, fun _ => rfl, fun _ => rfl, lf f9, lf f10, lf f11, lf f12, lf f14, gB, lf g9, lf g10, (Lib.hid (fun h0 => upd_mono (k11_10.out (lu h0)))), (Lib.hid (fun h0 => upd_mono (k12_10.out (lu h0)))), (Lib.hid (fun h0 => upd_mono (k14_10.out (lu h0)))), (fun _ => rfl), (fun h0 => absurd (show dn 13 = true by simpa [upd] using h0) (by rw [hS]; decide)), (Lib.hid (fun h0 => absurd (show dn 13 = true by simpa [upd] using h0) (by rw [hS]; decide)))⟩
  | 9, ho =>
   have e6 : dn 6 = true := hdep ⟨6, .data⟩ (by cases ho; simp) rfl
   have e8 : dn 8 = true := hdep ⟨8, .data⟩ (by cases ho; simp) rfl
   rw [HIA.out] at hI
   obtain ⟨u12, u13, u14, u15, u16, u17, u18, u19, u20, u21, u22, u23, u24, u5, v1, z1, b2, pq, lq, cq, er, W', rfl, f0, f1, f2, f3, f4, f5, f6, f7, f8, f9, f10, f11, f12, f14, gB, g9, g10, k11_10, k12_10, k14_10, s0, s1, sd⟩ := hI
   obtain rfl := (f6 e6).symm
   obtain rfl := (f8 e8).symm
   have hS : dn 13 = false := by cases h : dn 13 with | false => rfl | true => exact absurd (sd.out h 9 (by decide)) (by rw [hd]; decide)
   obtain rfl := s0 hS
   clear s0 s1
   refine opIn_of_list ho ?_
   cases ho
   clear hdep
   gi_wp2
   refine ⟨trivial, ?_⟩
   refine CallsIn.mono ((callsIn_wide (n := 8)).2 (mul_any (Value.slice pa la ca) (Value.slice pb lb cb) A B _ _ _ hRa hRb (by omega) (by omega) ((hLa.below hB5).mono hB5.size |>.below gB |>.mono gB.size) ((hLb.below hB5).mono hB5.size |>.below gB |>.mono gB.size))) ?_
   rintro e w6 ⟨vv, zz, rfl, hown, hrep, hb6⟩
   replace hown := hown.mono gB.size
   obtain ⟨pp, ll, cc, rfl⟩ := hown.shape
   gi_wp2
   rw [HIA.out]
   exact ⟨_, _, _, _, _, _, _, _, _, _, _, _, _, _, Value.slice pp ll cc, zz, _, _, _, _, _, w6, rfl, lf f0, lf f1, lf f2, lf f3, lf f4, lf f5, fun _ => rfl, lf f7, fun _ => rfl, fun _ => rfl, lf f10, lf f11, lf f12, lf f14, gB.trans (hb6.mono gB.size), (fun _ => ⟨hown, hrep⟩), (fun h0 => (g10 (lu h0)).below hb6), (Lib.hid (fun h0 => upd_mono (k11_10.out (lu h0)))), (Lib.hid (fun h0 => upd_mono (k12_10.out (lu h0)))), (Lib.hid (fun h0 => upd_mono (k14_10.out (lu h0)))), (fun _ => rfl), (fun h0 => absurd (show dn 13 = true by simpa [upd] using h0) (by rw [hS]; decide)), (Lib.hid (fun h0 => absurd (show dn 13 = true by simpa [upd] using h0) (by rw [hS]; decide)))⟩
  | 10, ho =>
   have e4 : dn 4 = true := hdep ⟨4, .data⟩ (by cases ho; simp) rfl
   have e9 : dn 9 = true := hdep ⟨9, .data⟩ (by cases ho; simp) rfl
   rw [HIA.out] at hI
   obtain ⟨u12, u13, u14, u15, u16, u17, u18, u19, u20, u21, u22, u23, u24, u5, v1, z1, b2, pq, lq, cq, er, W', rfl, f0, f1, f2, f3, f4, f5, f6, f7, f8, f9, f10, f11, f12, f14, gB, g9, g10, k11_10, k12_10, k14_10, s0, s1, sd⟩ := hI
   obtain rfl := (f4 e4).symm
   obtain rfl := (f9 e9).symm
   have hS : dn 13 = false := by cases h : dn 13 with | false => rfl | true => exact absurd (sd.out h 10 (by decide)) (by rw [hd]; decide)
   obtain rfl := s0 hS
   clear s0 s1
   refine opIn_of_list ho ?_
   cases ho
   clear hdep
   gi_wp2
   refine ⟨trivial, ?_⟩
   refine CallsIn.mono ((callsIn_wide (n := 8)).2 (made_any (na != nb) v1 z1 ((a.natAbs : Int) * b.natAbs) w5.heap.size _ (g9 e9).2 (g9 e9).1 (rep_len_mul hRa hRb (g9 e9).2 (by omega) (by omega)))) ?_
   rintro e w6 ⟨bb, pp, ll, cc, ee, rfl, hfit, hb6⟩
   gi_wp2
   rw [HIA.out]
   exact ⟨_, _, _, _, _, _, _, _, _, _, _, _, _, _, _, _, bb, pp, ll, cc, ee, w6, rfl, lf f0, lf f1, lf f2, lf f3, fun _ => rfl, lf f5, lf f6, lf f7, lf f8, fun _ => rfl, fun _ => rfl, (fun h0 => absurd (k11_10.out (lu h0)) (by rw [hd]; decide)), (fun h0 => absurd (k12_10.out (lu h0)) (by rw [hd]; decide)), (fun h0 => absurd (k14_10.out (lu h0)) (by rw [hd]; decide)), gB.trans (hb6.mono gB.size), (fun h0 => (g9 (lu h0)).below hb6), (fun _ => hfit), (Lib.hid (fun _ => upd_same _ _)), (Lib.hid (fun _ => upd_same _ _)), (Lib.hid (fun _ => upd_same _ _)), (fun _ => rfl), (fun h0 => absurd (show dn 13 = true by simpa [upd] using h0) (by rw [hS]; decide)), (Lib.hid (fun h0 => absurd (show dn 13 = true by simpa [upd] using h0) (by rw [hS]; decide)))⟩
  | 11, ho =>
   have e10 : dn 10 = true := hdep ⟨10, .data⟩ (by cases ho; simp) rfl
   rw [HIA.out] at hI
   obtain ⟨u12, u13, u14, u15, u16, u17, u18, u19, u20, u21, u22, u23, u24, u5, v1, z1, b2, pq, lq, cq, er, W', rfl, f0, f1, f2, f3, f4, f5, f6, f7, f8, f9, f10, f11, f12, f14, gB, g9, g10, k11_10, k12_10, k14_10, s0, s1, sd⟩ := hI
   obtain rfl := (f10 e10).symm
   have hS : dn 13 = false := by cases h : dn 13 with | false => rfl | true => exact absurd (sd.out h 11 (by decide)) (by rw [hd]; decide)
   obtain rfl := s0 hS
   clear s0 s1
   refine opIn_of_list ho ?_
   cases ho
   clear hdep
   gi_wp2
   rw [HIA.out]
   exact ⟨_, _, _, _, _, _, _, _, _, _, _, _, _, _, _, _, _, _, _, _, _, W2, rfl, lf f0, lf f1, lf f2, lf f3, lf f4, lf f5, lf f6, lf f7, lf f8, lf f9, fun _ => rfl, fun _ => rfl, lf f12, lf f14, gB, lf g9, lf g10, (Lib.hid (fun _ => upd_mono e10)), (Lib.hid (fun h0 => upd_mono (k12_10.out (lu h0)))), (Lib.hid (fun h0 => upd_mono (k14_10.out (lu h0)))), (fun _ => rfl), (fun h0 => absurd (show dn 13 = true by simpa [upd] using h0) (by rw [hS]; decide)), (Lib.hid (fun h0 => absurd (show dn 13 = true by simpa [upd] using h0) (by rw [hS]; decide)))⟩
  | 12, ho =>
   have e10 : dn 10 = true := hdep ⟨10, .data⟩ (by cases ho; simp) rfl
   rw [HIA.out] at hI
   obtain ⟨u12, u13, u14, u15, u16, u17, u18, u19, u20, u21, u22, u23, u24, u5, v1, z1, b2, pq, lq, cq, er, W', rfl, f0, f1, f2, f3, f4, f5, f6, f7, f8, f9, f10, f11, f12, f14, gB, g9, g10, k11_10, k12_10, k14_10, s0, s1, sd⟩ := hI
   obtain rfl := (f10 e10).symm
   have hS : dn 13 = false := by cases h : dn 13 with | false => rfl | true => exact absurd (sd.out h 12 (by decide)) (by rw [hd]; decide)
   obtain rfl := s0 hS
   clear s0 s1
   refine opIn_of_list ho ?_
   cases ho
   clear hdep
   gi_wp2
   rw [HIA.out]
   exact ⟨_, _, _, _, _, _, _, _, _, _, _, _, _, _, _, _, _, _, _, _, _, W2, rfl, lf f0, lf f1, lf f2, lf f3, lf f4, lf f5, lf f6, lf f7, lf f8, lf f9, fun _ => rfl, lf f11, fun _ => rfl, lf f14, gB, lf g9, lf g10, (Lib.hid (fun h0 => upd_mono (k11_10.out (lu h0)))), (Lib.hid (fun _ => upd_mono e10)), (Lib.hid (fun h0 => upd_mono (k14_10.out (lu h0)))), (fun _ => rfl), (fun h0 => absurd (show dn 13 = true by simpa [upd] using h0) (by rw [hS]; decide)), (Lib.hid (fun h0 => absurd (show dn 13 = true by simpa [upd] using h0) (by rw [hS]; decide)))⟩
  | 13, ho =>
   have e11 : dn 11 = true := hdep ⟨11, .data⟩ (by cases ho; simp) rfl
   have e10 : dn 10 = true := hdep ⟨10, .chain⟩ (by cases ho; simp) rfl
   rw [HIA.out] at hI
   obtain ⟨u12, u13, u14, u15, u16, u17, u18, u19, u20, u21, u22, u23, u24, u5, v1, z1, b2, pq, lq, cq, er, W', rfl, f0, f1, f2, f3, f4, f5, f6, f7, f8, f9, f10, f11, f12, f14, gB, g9, g10, k11_10, k12_10, k14_10, s0, s1, sd⟩ := hI
   obtain rfl := (f11 e11).symm
   obtain rfl := (f10 e10).symm
   have hS : dn 13 = false := hd
   obtain rfl := s0 hS
   clear s0 s1
   have hdone : ∀ j, j < 13 → dn j = true := by
    intro j hj
    match j, hj with
    | 0, _ => exact hdep ⟨0, .phase⟩ (by cases ho; simp) rfl
    | 1, _ => exact hdep ⟨1, .phase⟩ (by cases ho; simp) rfl
    | 2, _ => exact hdep ⟨2, .phase⟩ (by cases ho; simp) rfl
    | 3, _ => exact hdep ⟨3, .phase⟩ (by cases ho; simp) rfl
    | 4, _ => exact hdep ⟨4, .phase⟩ (by cases ho; simp) rfl
    | 5, _ => exact hdep ⟨5, .phase⟩ (by cases ho; simp) rfl
    | 6, _ => exact hdep ⟨6, .phase⟩ (by cases ho; simp) rfl
    | 7, _ => exact hdep ⟨7, .phase⟩ (by cases ho; simp) rfl
    | 8, _ => exact hdep ⟨8, .phase⟩ (by cases ho; simp) rfl
    | 9, _ => exact hdep ⟨9, .phase⟩ (by cases ho; simp) rfl
    | 10, _ => exact hdep ⟨10, .phase⟩ (by cases ho; simp) rfl
    | 11, _ => exact hdep ⟨11, .phase⟩ (by cases ho; simp) rfl
    | 12, _ => exact hdep ⟨12, .phase⟩ (by cases ho; simp) rfl
    | k + 13, h => exact absurd h (by omega)
   have HDONE := Lib.hid hdone
   clear hdone
   refine opIn_of_list ho ?_
   cases ho
   clear hdep
   have hc0 := k4 _ gB
   have hc1 := k5 _ gB
   have hf0 := k6 _ gB
   have hf1 := k7 _ gB
   gi_wp2
   rw [HIA.out]
   exact ⟨_, _, _, _, _, _, _, _, _, _, _, _, _, _, _, _, _, _, _, _, _, W2, rfl, lf f0, lf f1, lf f2, lf f3, lf f4, lf f5, lf f6, lf f7, lf f8, lf f9, fun _ => rfl, fun _ => rfl, lf f12, lf f14, gB, lf g9, lf g10, (Lib.hid (fun h0 => upd_mono (k11_10.out (lu h0)))), (Lib.hid (fun h0 => upd_mono (k12_10.out (lu h0)))), (Lib.hid (fun h0 => upd_mono (k14_10.out (lu h0)))), (fun h0 => by rw [upd_same] at h0; cases h0), (fun _ => rfl), (Lib.hid (fun _ j hj => upd_mono (HDONE.out j hj)))⟩
  | 14, ho =>
   have e12 : dn 12 = true := hdep ⟨12, .data⟩ (by cases ho; simp) rfl
   have e13 : dn 13 = true := hdep ⟨13, .chain⟩ (by cases ho; simp) rfl
   rw [HIA.out] at hI
   obtain ⟨u12, u13, u14, u15, u16, u17, u18, u19, u20, u21, u22, u23, u24, u5, v1, z1, b2, pq, lq, cq, er, W', rfl, f0, f1, f2, f3, f4, f5, f6, f7, f8, f9, f10, f11, f12, f14, gB, g9, g10, k11_10, k12_10, k14_10, s0, s1, sd⟩ := hI
   obtain rfl := (f12 e12).symm
   obtain rfl := s1 e13
   clear s0 s1
   refine opIn_of_list ho ?_
   cases ho
   clear hdep
   gi_wp2
   rw [HIA.out]
   exact ⟨_, _, _, _, _, _, _, _, _, _, _, _, _, _, _, _, _, _, _, _, _, W', rfl, lf f0, lf f1, lf f2, lf f3, lf f4, lf f5, lf f6, lf f7, lf f8, lf f9, lf f10, lf f11, fun _ => rfl, fun _ => rfl, gB, lf g9, lf g10, (Lib.hid (fun h0 => upd_mono (k11_10.out (lu h0)))), (Lib.hid (fun h0 => upd_mono (k12_10.out (lu h0)))), (Lib.hid (fun _ => upd_mono (k12_10.out e12))), (fun h0 => absurd (upd_mono e13) (by rw [h0]; decide)), (fun _ => rfl), (Lib.hid (fun h0 j hj => upd_mono (sd.out (lu h0) j hj)))⟩
  | k + 15, ho => simp at ho
 case hendA =>
  intro dn a' W2 hI hall
  rw [HIA.out] at hI
  obtain ⟨u12, u13, u14, u15, u16, u17, u18, u19, u20, u21, u22, u23, u24, u5, v1, z1, b2, pq, lq, cq, er, W', rfl, f0, f1, f2, f3, f4, f5, f6, f7, f8, f9, f10, f11, f12, f14, gB, g9, g10, k11_10, k12_10, k14_10, s0, s1, sd⟩ := hI
  obtain rfl := s1 (hall 13 (by decide))
  have G9 := g9 (hall 9 (by decide))
  have G10 := g10 (hall 10 (by decide))
  obtain rfl := (f0 (hall 0 (by decide))).symm
  obtain rfl := (f1 (hall 1 (by decide))).symm
  obtain rfl := (f2 (hall 2 (by decide))).symm
  obtain rfl := (f3 (hall 3 (by decide))).symm
  obtain rfl := (f4 (hall 4 (by decide))).symm
  obtain rfl := (f5 (hall 5 (by decide))).symm
  obtain rfl := (f6 (hall 6 (by decide))).symm
  obtain rfl := (f7 (hall 7 (by decide))).symm
  obtain rfl := (f8 (hall 8 (by decide))).symm
  obtain rfl := (f9 (hall 9 (by decide))).symm
  obtain rfl := (f10 (hall 10 (by decide))).symm
  obtain rfl := (f11 (hall 11 (by decide))).symm
  obtain rfl := (f12 (hall 12 (by decide))).symm
  obtain rfl := (f14 (hall 14 (by decide))).symm
  clear hall g9 g10 HIA
  have hb4 : W'.heap[w.heap.size + 1 + 1]? = some (.cells #[.bool false, .slice none 0 0] 24) := (gB.block _ (by omega)).trans p2
  obtain ⟨r0, r1⟩ := put2_cell hb4 (.bool b2) (.slice pq lq cq)
  have hfit : FitW w.heap.size (put2 W' (w.heap.size + 1 + 1) (.bool b2) (.slice pq lq cq)) (.agg #[.bool b2, .slice pq lq cq]) er (a * b) := by
   have h := (G10.mono (by omega : w.heap.size ≤ w5.heap.size)).put2 hb4 (by decide) (.bool b2) (.slice pq lq cq)
   rw [← HZ.out]; exact h
  have hbe : Below w.heap.size w (put2 W' (w.heap.size + 1 + 1) (.bool b2) (.slice pq lq cq)) := (hB5.trans (gB.mono hB5.size)).trans ((put2_only _ _ _ _).below (by omega))
  generalize put2 W' (w.heap.size + 1 + 1) (.bool b2) (.slice pq lq cq) = W9 at *
  go_wp2
  exact bodyPost_ret (v := .tuple #[.agg #[.bool b2, .slice pq lq cq], .int .i64 er]) (by simp [results, Tryz.results49, go_sem, r0, r1]) rfl ⟨b2, pq, lq, cq, er, rfl, hfit, hbe⟩
end Go.Proofs.YtihdbjilolmfiaaGreatDoor
