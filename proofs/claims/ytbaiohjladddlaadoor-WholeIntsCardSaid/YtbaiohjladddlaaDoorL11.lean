import Derived.Test.YtbaiohjladddlaaDoorF2
import Derived.Test.YtbaiohjladddlaaDoorW27
/- The law WholeInts, walked. -/
namespace Go.Proofs.YtbaiohjladddlaaDoor
open Go.RowKit Go.WM Go.WR
attribute [local go_sem] Oper.semAt_some

theorem int_in {z : Int} (h : (Lit.int .i64 z).wf = true) : -9223372036854775808 ≤ z ∧ z < 9223372036854775808 := by
  simp only [Lit.wf, Bool.and_eq_true, decide_eq_true_eq] at h
  have h1 := h.1
  have h2 := h.2
  simp [IntKind.min, IntKind.max, IntKind.signed, IntKind.bits] at h1 h2
  omega
theorem quo_floor {a b q r : Int} (hb : b ≠ 0) (h : Floor a b q r) : (a - r).tdiv b = q := by
  have e : a - r = q * b := by have := h.eq; omega
  rw [e, Int.mul_tdiv_cancel _ hb]
theorem mul_small {a b : Int} (a0 : -2147483648 < a) (a1 : a < 2147483648) (b0 : -2147483648 < b) (b1 : b < 2147483648) : -4611686018427387904 ≤ a * b ∧ a * b ≤ 4611686018427387904 := by
  have h : (a * b).natAbs ≤ 2147483648 * 2147483648 := by rw [Int.natAbs_mul]; exact Nat.mul_le_mul (by omega) (by omega)
  omega
theorem tmod_facts {a b r : Int} (hb : b ≠ 0) (h : r = a.tmod b) : r.natAbs < b.natAbs ∧ (0 ≤ a → 0 ≤ r) ∧ (a ≤ 0 → r ≤ 0) ∧ a = a.tdiv b * b + r := by
  subst h
  refine ⟨?_, fun h => Int.tmod_nonneg _ h, fun h => ?_, by rw [Int.tmod_def, Int.mul_comm]; omega⟩
  · rw [Int.natAbs_tmod]; exact Nat.mod_lt _ (by omega)
  · have := Int.tmod_nonneg b (show 0 ≤ -a by omega)
    rw [Int.neg_tmod] at this; omega
theorem tdiv_small {a b : Int} (a0 : -2147483648 < a) (a1 : a < 2147483648) : -2147483647 ≤ a.tdiv b ∧ a.tdiv b ≤ 2147483647 := by
  have h : (a.tdiv b).natAbs ≤ a.natAbs := by rw [Int.natAbs_tdiv]; exact Nat.div_le_self _ _
  omega
theorem floor_ts {a b r : Int} (hb : b ≠ 0) (h : r = a.tmod b) (hs : decide (r < 0) = decide (b < 0)) (a0 : -2147483648 < a) (a1 : a < 2147483648) (b0 : -2147483648 < b) (b1 : b < 2147483648) : ∃ q, Floor a b q r ∧ -2147483648 ≤ q ∧ q ≤ 2147483648 ∧ -9223372036854775808 ≤ r ∧ r < 9223372036854775808 := by
  obtain ⟨z0, z1, z2, z3⟩ := tmod_facts hb h
  have hs' := decide_eq_decide.1 hs
  obtain ⟨q0, q1⟩ := tdiv_small (b := b) a0 a1
  exact ⟨a.tdiv b, ⟨z3, fun hp => by omega, fun hn => by omega⟩, by omega, by omega, by omega, by omega⟩
theorem floor_t0 {a b r : Int} (hb : b ≠ 0) (h : r = a.tmod b) (hs : r = 0) (a0 : -2147483648 < a) (a1 : a < 2147483648) (b0 : -2147483648 < b) (b1 : b < 2147483648) : ∃ q, Floor a b q r ∧ -2147483648 ≤ q ∧ q ≤ 2147483648 ∧ -9223372036854775808 ≤ r ∧ r < 9223372036854775808 := by
  obtain ⟨z0, z1, z2, z3⟩ := tmod_facts hb h
  obtain ⟨q0, q1⟩ := tdiv_small (b := b) a0 a1
  exact ⟨a.tdiv b, ⟨z3, fun hp => by omega, fun hn => by omega⟩, by omega, by omega, by omega, by omega⟩
theorem floor_ta {a b r : Int} (hb : b ≠ 0) (h : r = a.tmod b) (hz : r ≠ 0) (hs : ¬ decide (r < 0) = decide (b < 0)) (a0 : -2147483648 < a) (a1 : a < 2147483648) (b0 : -2147483648 < b) (b1 : b < 2147483648) : ∃ q, Floor a b q (r + b) ∧ -2147483648 ≤ q ∧ q ≤ 2147483648 ∧ -9223372036854775808 ≤ r + b ∧ r + b < 9223372036854775808 := by
  obtain ⟨z0, z1, z2, z3⟩ := tmod_facts hb h
  have hs' : ¬ ((r < 0) ↔ (b < 0)) := fun k => hs (decide_eq_decide.2 k)
  obtain ⟨q0, q1⟩ := tdiv_small (b := b) a0 a1
  exact ⟨a.tdiv b - 1, ⟨by rw [Int.sub_mul]; omega, fun hp => by omega, fun hn => by omega⟩, by omega, by omega, by omega, by omega⟩

set_option maxRecDepth 100000 in
set_option maxHeartbeats 4000000 in
theorem Ints_lt (A B : Int) (w : World) (hA0 : -9223372036854775808 ≤ A) (hA1 : A < 9223372036854775808) (hB0' : -9223372036854775808 ≤ B) (hB1 : B < 9223372036854775808) (hAB : A < B) (htab : Tab w) : Calls Tryd.prog 10 #[.int .i64 A, .int .i64 B] w (BoolP true w) := by
  have hB0 := Below.refl w.heap.size w
  have hc : cmpI A B = -1 := by unfold cmpI; rw [if_pos hAB]
  have HC := Lib.hid hc
  clear hc
  have haw := awake_ok w htab
  go_enter Tryd.func10, Tryd.ntmps10
  go_wp2_with fail
  refine (haw).mono ?_
  rintro e w1 ⟨rfl, hb1⟩
  have hBXw1 := hB0.trans (hb1.mono hB0.size)
  clear haw
  go_wp2_with fail
  refine (num_ok (A) w1 (by omega) (by omega)).mono ?_
  rintro e w2 ⟨b2, p2, l2, c2, rfl, hO2, hb2⟩
  have hBXw2 := hBXw1.trans (hb2.mono hBXw1.size)
  have na := hO2.num
  go_wp2_with fail
  refine (Int_ok _ A w2 na).mono ?_
  rintro e w3 ⟨k3, er3, rfl, hk3, hb3⟩
  obtain ⟨rfl, rfl⟩ : k3 = A ∧ er3 = 0 := by omega
  have hBXw3 := hBXw2.trans (hb3.mono hBXw2.size)
  have naw3 := na.later hb3
  go_wp2_with fail
  refine (num_ok (k3) w3 (by omega) (by omega)).mono ?_
  rintro e w4 ⟨b4, p4, l4, c4, rfl, hO4, hb4⟩
  have hBXw4 := hBXw3.trans (hb4.mono hBXw3.size)
  have na := hO4.num
  go_wp2_with fail
  refine (Valid_num _ k3 w4 na).mono ?_
  rintro e w5 ⟨rfl, hb5⟩
  have hBXw5 := hBXw4.trans (hb5.mono hBXw4.size)
  have naw5 := na.later hb5
  go_wp2_with fail
  refine (num_ok (k3) w5 (by omega) (by omega)).mono ?_
  rintro e w6 ⟨b6, p6, l6, c6, rfl, hO6, hb6⟩
  have hBXw6 := hBXw5.trans (hb6.mono hBXw5.size)
  have na := hO6.num
  go_wp2_with fail
  refine (num_ok (B) w6 (by omega) (by omega)).mono ?_
  rintro e w7 ⟨b7, p7, l7, c7, rfl, hO7, hb7⟩
  have hBXw7 := hBXw6.trans (hb7.mono hBXw6.size)
  have naw7 := na.later hb7
  have nb := hO7.num
  go_wp2_with fail
  refine (Cmp_ok _ _ k3 B w7 naw7 nb).mono ?_
  rintro e w8 ⟨rfl, hb8⟩
  rw [HC.out]
  have hBXw8 := hBXw7.trans (hb8.mono hBXw7.size)
  have naw8 := naw7.later hb8
  have nbw8 := nb.later hb8
  obtain ⟨a, ha⟩ : ∃ a, a = k3.tmod 2147483648 := ⟨_, rfl⟩
  obtain ⟨b, hb⟩ : ∃ b, b = B.tmod 2147483648 := ⟨_, rfl⟩
  have a0 : -2147483648 < a := by rw [ha]; exact Int.lt_tmod_of_pos _ (by decide)
  have a1 : a < 2147483648 := by rw [ha]; exact Int.tmod_lt_of_pos _ (by decide)
  have b0 : -2147483648 < b := by rw [hb]; exact Int.lt_tmod_of_pos _ (by decide)
  have b1' : b < 2147483648 := by rw [hb]; exact Int.tmod_lt_of_pos _ (by decide)
  have HA := Lib.hid ha
  have HB := Lib.hid hb
  clear ha hb
  obtain ⟨m0, m1⟩ := mul_small a0 a1 b0 b1'
  go_wp2_with fail
  rw [← HA.out]
  refine (num_ok (a) w8 (by omega) (by omega)).mono ?_
  rintro e w9 ⟨b9, p9, l9, c9, rfl, hO9, hb9⟩
  have hBXw9 := hBXw8.trans (hb9.mono hBXw8.size)
  have na := hO9.num
  go_wp2_with fail
  rw [← HB.out]
  refine (num_ok (b) w9 (by omega) (by omega)).mono ?_
  rintro e w10 ⟨b10, p10, l10, c10, rfl, hO10, hb10⟩
  have hBXw10 := hBXw9.trans (hb10.mono hBXw9.size)
  have naw10 := na.later hb10
  have nb := hO10.num
  go_wp2_with fail
  refine (sum_ok _ _ a b w10 naw10 nb (cap_small (by omega))).mono ?_
  rintro e w11 ⟨b11, p11, l11, c11, rfl, hO11, hb11⟩
  have hBXw11 := hBXw10.trans (hb11.mono hBXw10.size)
  have naw11 := naw10.later hb11
  have nbw11 := nb.later hb11
  have ns := hO11.num
  go_wp2_with fail
  refine (num_ok (a + b) w11 (by omega) (by omega)).mono ?_
  rintro e w12 ⟨b12, p12, l12, c12, rfl, hO12, hb12⟩
  have hBXw12 := hBXw11.trans (hb12.mono hBXw11.size)
  have naw12 := naw11.later hb12
  have nbw12 := nbw11.later hb12
  have nsw12 := ns.later hb12
  have nt := hO12.num
  go_wp2_with fail
  refine (equal_true _ _ (a + b) (a + b) w12 nsw12 nt rfl).mono ?_
  rintro e w13 ⟨rfl, hb13⟩
  have hBXw13 := hBXw12.trans (hb13.mono hBXw12.size)
  have naw13 := naw12.later hb13
  have nbw13 := nbw12.later hb13
  have nsw13 := nsw12.later hb13
  have ntw13 := nt.later hb13
  go_wp2_with fail
  refine (num_ok (a) w13 (by omega) (by omega)).mono ?_
  rintro e w14 ⟨b14, p14, l14, c14, rfl, hO14, hb14⟩
  have hBXw14 := hBXw13.trans (hb14.mono hBXw13.size)
  have na := hO14.num
  go_wp2_with fail
  refine (num_ok (b) w14 (by omega) (by omega)).mono ?_
  rintro e w15 ⟨b15, p15, l15, c15, rfl, hO15, hb15⟩
  have hBXw15 := hBXw14.trans (hb15.mono hBXw14.size)
  have naw15 := na.later hb15
  have nb := hO15.num
  go_wp2_with fail
  refine (product_ok _ _ a b w15 naw15 nb (cap_small (by omega))).mono ?_
  rintro e w16 ⟨b16, p16, l16, c16, rfl, hO16, hb16⟩
  have hBXw16 := hBXw15.trans (hb16.mono hBXw15.size)
  have naw16 := naw15.later hb16
  have nbw16 := nb.later hb16
  have ns := hO16.num
  go_wp2_with fail
  refine (num_ok (a * b) w16 (by omega) (by omega)).mono ?_
  rintro e w17 ⟨b17, p17, l17, c17, rfl, hO17, hb17⟩
  have hBXw17 := hBXw16.trans (hb17.mono hBXw16.size)
  have naw17 := naw16.later hb17
  have nbw17 := nbw16.later hb17
  have nsw17 := ns.later hb17
  have nt := hO17.num
  go_wp2_with fail
  refine (equal_true _ _ (a * b) (a * b) w17 nsw17 nt rfl).mono ?_
  rintro e w18 ⟨rfl, hb18⟩
  have hBXw18 := hBXw17.trans (hb18.mono hBXw17.size)
  have naw18 := naw17.later hb18
  have nbw18 := nbw17.later hb18
  have nsw18 := nsw17.later hb18
  have ntw18 := nt.later hb18
  go_wp2_with fail
  refine (num_ok (a) w18 (by omega) (by omega)).mono ?_
  rintro e w19 ⟨b19, p19, l19, c19, rfl, hO19, hb19⟩
  have hBXw19 := hBXw18.trans (hb19.mono hBXw18.size)
  have na := hO19.num
  go_wp2_with fail
  refine (num_ok (b) w19 (by omega) (by omega)).mono ?_
  rintro e w20 ⟨b20, p20, l20, c20, rfl, hO20, hb20⟩
  have hBXw20 := hBXw19.trans (hb20.mono hBXw19.size)
  have naw20 := na.later hb20
  have nb := hO20.num
  go_wp2_with fail
  refine (less_ok _ _ a b w20 naw20 nb (cap_small (by omega))).mono ?_
  rintro e w21 ⟨b21, p21, l21, c21, rfl, hO21, hb21⟩
  have hBXw21 := hBXw20.trans (hb21.mono hBXw20.size)
  have naw21 := naw20.later hb21
  have nbw21 := nb.later hb21
  have ns := hO21.num
  go_wp2_with fail
  refine (num_ok (a - b) w21 (by omega) (by omega)).mono ?_
  rintro e w22 ⟨b22, p22, l22, c22, rfl, hO22, hb22⟩
  have hBXw22 := hBXw21.trans (hb22.mono hBXw21.size)
  have naw22 := naw21.later hb22
  have nbw22 := nbw21.later hb22
  have nsw22 := ns.later hb22
  have nt := hO22.num
  go_wp2_with fail
  refine (equal_true _ _ (a - b) (a - b) w22 nsw22 nt rfl).mono ?_
  rintro e w23 ⟨rfl, hb23⟩
  have hBXw23 := hBXw22.trans (hb23.mono hBXw22.size)
  have naw23 := naw22.later hb23
  have nbw23 := nbw22.later hb23
  have nsw23 := nsw22.later hb23
  have ntw23 := nt.later hb23
  by_cases hb0 : b = 0
  · subst hb0
    go_wp2
    go_ret
    exact ⟨rfl, hBXw23⟩
  · have z0 := (tmod_facts hb0 (rfl : a.tmod b = a.tmod b)).1
    by_cases hz : a.tmod b = 0
    · -- no rest
      have hF : ∃ q, Floor a b q ((0 : Int)) ∧ -2147483648 ≤ q ∧ q ≤ 2147483648 ∧ -9223372036854775808 ≤ (0 : Int) ∧ (0 : Int) < 9223372036854775808 := floor_t0 hb0 hz.symm rfl a0 a1 b0 b1'
      obtain ⟨q, hF, q0, q1, _, _⟩ := hF
      have hq := quo_floor hb0 hF
      have rb : ((0 : Int)).natAbs < b.natAbs := by have h1 := hF.pos; have h2 := hF.neg; omega
      go_wp2_with fail
      refine (num_ok a w23 (by omega) (by omega)).mono ?_
      rintro e w24 ⟨b24, p24, l24, c24, rfl, hO24, hb24⟩
      have hBXw24 := hBXw23.trans (hb24.mono hBXw23.size)
      have na := hO24.num
      go_wp2_with fail
      refine (num_ok (b) w24 (by omega) (by omega)).mono ?_
      rintro e w25 ⟨b25, p25, l25, c25, rfl, hO25, hb25⟩
      have hBXw25 := hBXw24.trans (hb25.mono hBXw24.size)
      have naw25 := na.later hb25
      have nb := hO25.num
      go_wp2_with fail
      refine (DivMod_fit _ _ a b q ((0 : Int)) w25 naw25 nb hb0 hF).mono ?_
      rintro e w26 ⟨b26, p26, l26, c26, b26', p26', l26', c26', rfl, hO26, hO26', hb26⟩
      have hBXw26 := hBXw25.trans (hb26.mono hBXw25.size)
      have naw26 := naw25.later hb26
      have nbw26 := nb.later hb26
      have nq := hO26.num
      have nr := hO26'.num
      clear hO26 hO26'
      go_wp2_with fail
      obtain ⟨x, hx⟩ : ∃ x, x = (w26.alloc (.cells #[.bool b26, .slice p26 l26 c26] 24)).alloc (.cells #[.bool b26', .slice p26' l26' c26'] 24) := ⟨_, rfl⟩
      rw [← hx]
      have hbx : Below w26.heap.size w26 x := by rw [hx]; exact ((Below.refl _ _).alloc (Nat.le_refl _) _).alloc (by simp) _
      have q11 : x.heap[w26.heap.size]? = some (.cells #[.bool b26, .slice p26 l26 c26] 24) := by rw [hx]; exact alloc_old _ _ (alloc_new _ _ rfl)
      have q12 : x.heap[w26.heap.size + 1]? = some (.cells #[.bool b26', .slice p26' l26' c26'] 24) := by rw [hx]; exact alloc_new _ _ (by rw [World.size_alloc])
      have n11 := nq.later hbx
      have n12 := nr.later hbx
      have hBx := hBXw26.trans (hbx.mono hBXw26.size)
      clear hx nq nr
      refine region_kinds (n := 9) [.val (.int .i64 0), .val (.bool true), .val (.bool true), .num ((0 : Int)), .val (.int .i64 ((0 : Int))), .num (((0 : Int)) : Int), .val (.bool true), .val (.bool true), .val (.bool true), .num q, .val (.int .i64 a), .val (.int .i64 ((0 : Int))), .val (.int .i64 (a - ((0 : Int)))), .val (.int .i64 b), .val (.int .i64 q), .num (q : Int), .val (.bool true), .val (.bool true), .val (.bool true)] [(0, 117), (1, 118), (2, 119), (3, 120), (4, 121), (5, 122), (6, 123), (7, 124), (8, 125), (9, 126), (10, 127), (11, 128), (12, 129), (13, 130), (14, 131), (15, 132), (16, 133), (17, 134), (18, 4)] (by kernel_rfl) (by kernel_rfl) (by kernel_rfl) ?hstep1 ?hend1
      case hstep1 =>
        intro i o ho a' W hI hM
        match i, ho with
        | 0, ho =>
          cases ho
          refine stepK_of (wanted_none rfl) ?_
          exact opMove rfl (hM.old 13 rfl) ⟨rfl, Below.refl _ _⟩
        | 1, ho =>
          cases ho
          refine stepK_of (wanted_none rfl) ?_
          exact opEql27 rfl (hM.dep ⟨0, .data⟩ (by simp) rfl 117 rfl) rfl ⟨rfl, Below.refl _ _⟩
        | 2, ho =>
          cases ho
          refine stepK_of (wanted_none rfl) ?_
          exact opMove rfl (hM.dep ⟨1, .data⟩ (by simp) rfl 118 rfl) ⟨rfl, Below.refl _ _⟩
        | 3, ho =>
          cases ho
          refine stepK_of (wantedK hM rfl rfl (hM.dep ⟨2, .guard⟩ (by simp) rfl 119 rfl) rfl (show 119 < 135 by decide)) ?_
          exact opLoad rfl (hM.old 12 rfl) ((hI.block _ (Array.getElem?_eq_some_iff.1 q12).1).trans q12) ⟨n12.later hI, Below.refl _ _⟩
        | 4, ho =>
          cases ho
          refine stepK_of (wantedK hM rfl rfl (hM.dep ⟨2, .guard⟩ (by simp) rfl 119 rfl) rfl (show 119 < 135 by decide)) ?_
          exact opMove rfl (hM.old 10 rfl) ⟨rfl, Below.refl _ _⟩
        | 5, ho =>
          cases ho
          refine stepK_of (wantedK hM rfl rfl (hM.dep ⟨2, .chain⟩ (by simp) rfl 119 rfl) rfl (show 119 < 135 by decide)) ?_
          exact opCall1 rfl may20 (hM.dep ⟨4, .data⟩ (by simp) rfl 121 rfl) (numK (num_ok (((0 : Int))) W (by first | decide | omega) (by first | decide | omega)))
        | 6, ho =>
          cases ho
          refine stepK_of (wantedK hM rfl rfl (hM.dep ⟨2, .guard⟩ (by simp) rfl 119 rfl) rfl (show 119 < 135 by decide)) ?_
          exact opCall2 rfl may18 rfl rfl (boolK (equal_true _ _ ((0 : Int)) (((0 : Int)) : Int) W (hM.dep ⟨3, .data⟩ (by simp) rfl 120 rfl) (hM.dep ⟨5, .data⟩ (by simp) rfl 122 rfl) (rfl)))
        | 7, ho =>
          cases ho
          refine stepK_of (wanted_none rfl) ?_
          exact opPick rfl (hM.dep ⟨2, .data⟩ (by simp) rfl 119 rfl) (hM.dep ⟨6, .data⟩ (by simp) rfl 123 rfl) ⟨rfl, Below.refl _ _⟩
        | 8, ho =>
          cases ho
          refine stepK_of (wanted_none rfl) ?_
          exact opMove rfl (hM.dep ⟨7, .data⟩ (by simp) rfl 124 rfl) ⟨rfl, Below.refl _ _⟩
        | 9, ho =>
          cases ho
          refine stepK_of (wantedK hM rfl rfl (hM.dep ⟨8, .guard⟩ (by simp) rfl 125 rfl) rfl (show 125 < 135 by decide)) ?_
          exact opLoad rfl (hM.old 11 rfl) ((hI.block _ (Array.getElem?_eq_some_iff.1 q11).1).trans q11) ⟨n11.later hI, Below.refl _ _⟩
        | 10, ho =>
          cases ho
          refine stepK_of (wantedK hM rfl rfl (hM.dep ⟨8, .guard⟩ (by simp) rfl 125 rfl) rfl (show 125 < 135 by decide)) ?_
          exact opMove rfl (hM.old 8 rfl) ⟨rfl, Below.refl _ _⟩
        | 11, ho =>
          cases ho
          refine stepK_of (wantedK hM rfl rfl (hM.dep ⟨8, .guard⟩ (by simp) rfl 125 rfl) rfl (show 125 < 135 by decide)) ?_
          exact opMove rfl (hM.old 10 rfl) ⟨rfl, Below.refl _ _⟩
        | 12, ho =>
          cases ho
          refine stepK_of (wantedK hM rfl rfl (hM.dep ⟨8, .guard⟩ (by simp) rfl 125 rfl) rfl (show 125 < 135 by decide)) ?_
          exact opSub3 rfl (hM.dep ⟨10, .data⟩ (by simp) rfl 127 rfl) (hM.dep ⟨11, .data⟩ (by simp) rfl 128 rfl) (by omega) (by omega) ⟨rfl, Below.refl _ _⟩
        | 13, ho =>
          cases ho
          refine stepK_of (wantedK hM rfl rfl (hM.dep ⟨8, .guard⟩ (by simp) rfl 125 rfl) rfl (show 125 < 135 by decide)) ?_
          exact opMove rfl (hM.old 9 rfl) ⟨rfl, Below.refl _ _⟩
        | 14, ho =>
          cases ho
          refine stepK_of (wantedK hM rfl rfl (hM.dep ⟨8, .guard⟩ (by simp) rfl 125 rfl) rfl (show 125 < 135 by decide)) ?_
          exact opQuo3 rfl (hM.dep ⟨12, .data⟩ (by simp) rfl 129 rfl) (hM.dep ⟨13, .data⟩ (by simp) rfl 130 rfl) hb0 hq (by omega) (by omega) ⟨rfl, Below.refl _ _⟩
        | 15, ho =>
          cases ho
          refine stepK_of (wantedK hM rfl rfl (hM.dep ⟨8, .chain⟩ (by simp) rfl 125 rfl) rfl (show 125 < 135 by decide)) ?_
          exact opCall1 rfl may20 (hM.dep ⟨14, .data⟩ (by simp) rfl 131 rfl) (numK (num_ok (q) W (by first | decide | omega) (by first | decide | omega)))
        | 16, ho =>
          cases ho
          refine stepK_of (wantedK hM rfl rfl (hM.dep ⟨8, .guard⟩ (by simp) rfl 125 rfl) rfl (show 125 < 135 by decide)) ?_
          exact opCall2 rfl may18 rfl rfl (boolK (equal_true _ _ q (q : Int) W (hM.dep ⟨9, .data⟩ (by simp) rfl 126 rfl) (hM.dep ⟨15, .data⟩ (by simp) rfl 132 rfl) (rfl)))
        | 17, ho =>
          cases ho
          refine stepK_of (wanted_none rfl) ?_
          exact opPick rfl (hM.dep ⟨8, .data⟩ (by simp) rfl 125 rfl) (hM.dep ⟨16, .data⟩ (by simp) rfl 133 rfl) ⟨rfl, Below.refl _ _⟩
        | 18, ho =>
          cases ho
          refine stepK_of (wanted_none rfl) ?_
          exact opAssign rfl (hM.dep ⟨17, .data⟩ (by simp) rfl 134 rfl) ⟨rfl, Below.refl _ _⟩
        | k + 19, ho => simp at ho
      case hend1 =>
        intro u1 W1 hI1 hV1
        have e1_18 : u1 18 = (.bool true) := hV1 18 4 rfl
        simp only [putAll, List.foldl_cons, List.foldl_nil, List.setIfInBounds_toArray, List.set_cons_zero, List.set_cons_succ, e1_18]
        clear e1_18 hV1
        have q11_1 := (hI1.block _ (Array.getElem?_eq_some_iff.1 q11).1).trans q11
        have n11_1 := n11.later hI1
        have q12_1 := (hI1.block _ (Array.getElem?_eq_some_iff.1 q12).1).trans q12
        have n12_1 := n12.later hI1
        have hBW1 := hBx.trans (hI1.mono hBx.size)
        go_wp2
        go_ret
        exact ⟨rfl, hBW1⟩
    · have hz' : (a.tmod b != 0) = true := bne_iff_ne.2 hz
      by_cases h2 : a.tmod b < 0
      · by_cases h3 : b < 0
        · -- neg neg
          have d2 : decide (a.tmod b < 0) = true := decide_eq_true h2
          have d3 : decide (b < 0) = true := decide_eq_true h3
          have hF : ∃ q, Floor a b q (a.tmod b) ∧ -2147483648 ≤ q ∧ q ≤ 2147483648 ∧ -9223372036854775808 ≤ a.tmod b ∧ a.tmod b < 9223372036854775808 := floor_ts hb0 rfl (by rw [decide_eq_true (h2), decide_eq_true (h3)]) a0 a1 b0 b1'
          obtain ⟨q, hF, q0, q1, _, _⟩ := hF
          have hq := quo_floor hb0 hF
          have rb : (a.tmod b).natAbs < b.natAbs := by have h1 := hF.pos; have h2 := hF.neg; omega
          go_wp2_with fail
          refine (num_ok a w23 (by omega) (by omega)).mono ?_
          rintro e w27 ⟨b27, p27, l27, c27, rfl, hO27, hb27⟩
          have hBXw27 := hBXw23.trans (hb27.mono hBXw23.size)
          have na := hO27.num
          go_wp2_with fail
          refine (num_ok (b) w27 (by omega) (by omega)).mono ?_
          rintro e w28 ⟨b28, p28, l28, c28, rfl, hO28, hb28⟩
          have hBXw28 := hBXw27.trans (hb28.mono hBXw27.size)
          have naw28 := na.later hb28
          have nb := hO28.num
          go_wp2_with fail
          refine (DivMod_fit _ _ a b q (a.tmod b) w28 naw28 nb hb0 hF).mono ?_
          rintro e w29 ⟨b29, p29, l29, c29, b29', p29', l29', c29', rfl, hO29, hO29', hb29⟩
          have hBXw29 := hBXw28.trans (hb29.mono hBXw28.size)
          have naw29 := naw28.later hb29
          have nbw29 := nb.later hb29
          have nq := hO29.num
          have nr := hO29'.num
          clear hO29 hO29'
          go_wp2_with fail
          obtain ⟨x, hx⟩ : ∃ x, x = (w29.alloc (.cells #[.bool b29, .slice p29 l29 c29] 24)).alloc (.cells #[.bool b29', .slice p29' l29' c29'] 24) := ⟨_, rfl⟩
          rw [← hx]
          have hbx : Below w29.heap.size w29 x := by rw [hx]; exact ((Below.refl _ _).alloc (Nat.le_refl _) _).alloc (by simp) _
          have q11 : x.heap[w29.heap.size]? = some (.cells #[.bool b29, .slice p29 l29 c29] 24) := by rw [hx]; exact alloc_old _ _ (alloc_new _ _ rfl)
          have q12 : x.heap[w29.heap.size + 1]? = some (.cells #[.bool b29', .slice p29' l29' c29'] 24) := by rw [hx]; exact alloc_new _ _ (by rw [World.size_alloc])
          have n11 := nq.later hbx
          have n12 := nr.later hbx
          have hBx := hBXw29.trans (hbx.mono hBXw29.size)
          clear hx nq nr
          refine region_kinds (n := 9) [.val (.int .i64 0), .val (.bool true), .val (.bool true), .num (a.tmod b), .val (.int .i64 (a.tmod b)), .num ((a.tmod b) : Int), .val (.bool true), .val (.bool true), .val (.bool true), .num q, .val (.int .i64 a), .val (.int .i64 (a.tmod b)), .val (.int .i64 (a - (a.tmod b))), .val (.int .i64 b), .val (.int .i64 q), .num (q : Int), .val (.bool true), .val (.bool true), .val (.bool true)] [(0, 117), (1, 118), (2, 119), (3, 120), (4, 121), (5, 122), (6, 123), (7, 124), (8, 125), (9, 126), (10, 127), (11, 128), (12, 129), (13, 130), (14, 131), (15, 132), (16, 133), (17, 134), (18, 4)] (by kernel_rfl) (by kernel_rfl) (by kernel_rfl) ?hstep2 ?hend2
          case hstep2 =>
            intro i o ho a' W hI hM
            match i, ho with
            | 0, ho =>
              cases ho
              refine stepK_of (wanted_none rfl) ?_
              exact opMove rfl (hM.old 13 rfl) ⟨rfl, Below.refl _ _⟩
            | 1, ho =>
              cases ho
              refine stepK_of (wanted_none rfl) ?_
              exact opEql27 rfl (hM.dep ⟨0, .data⟩ (by simp) rfl 117 rfl) rfl ⟨rfl, Below.refl _ _⟩
            | 2, ho =>
              cases ho
              refine stepK_of (wanted_none rfl) ?_
              exact opMove rfl (hM.dep ⟨1, .data⟩ (by simp) rfl 118 rfl) ⟨rfl, Below.refl _ _⟩
            | 3, ho =>
              cases ho
              refine stepK_of (wantedK hM rfl rfl (hM.dep ⟨2, .guard⟩ (by simp) rfl 119 rfl) rfl (show 119 < 135 by decide)) ?_
              exact opLoad rfl (hM.old 12 rfl) ((hI.block _ (Array.getElem?_eq_some_iff.1 q12).1).trans q12) ⟨n12.later hI, Below.refl _ _⟩
            | 4, ho =>
              cases ho
              refine stepK_of (wantedK hM rfl rfl (hM.dep ⟨2, .guard⟩ (by simp) rfl 119 rfl) rfl (show 119 < 135 by decide)) ?_
              exact opMove rfl (hM.old 10 rfl) ⟨rfl, Below.refl _ _⟩
            | 5, ho =>
              cases ho
              refine stepK_of (wantedK hM rfl rfl (hM.dep ⟨2, .chain⟩ (by simp) rfl 119 rfl) rfl (show 119 < 135 by decide)) ?_
              exact opCall1 rfl may20 (hM.dep ⟨4, .data⟩ (by simp) rfl 121 rfl) (numK (num_ok ((a.tmod b)) W (by first | decide | omega) (by first | decide | omega)))
            | 6, ho =>
              cases ho
              refine stepK_of (wantedK hM rfl rfl (hM.dep ⟨2, .guard⟩ (by simp) rfl 119 rfl) rfl (show 119 < 135 by decide)) ?_
              exact opCall2 rfl may18 rfl rfl (boolK (equal_true _ _ (a.tmod b) ((a.tmod b) : Int) W (hM.dep ⟨3, .data⟩ (by simp) rfl 120 rfl) (hM.dep ⟨5, .data⟩ (by simp) rfl 122 rfl) (rfl)))
            | 7, ho =>
              cases ho
              refine stepK_of (wanted_none rfl) ?_
              exact opPick rfl (hM.dep ⟨2, .data⟩ (by simp) rfl 119 rfl) (hM.dep ⟨6, .data⟩ (by simp) rfl 123 rfl) ⟨rfl, Below.refl _ _⟩
            | 8, ho =>
              cases ho
              refine stepK_of (wanted_none rfl) ?_
              exact opMove rfl (hM.dep ⟨7, .data⟩ (by simp) rfl 124 rfl) ⟨rfl, Below.refl _ _⟩
            | 9, ho =>
              cases ho
              refine stepK_of (wantedK hM rfl rfl (hM.dep ⟨8, .guard⟩ (by simp) rfl 125 rfl) rfl (show 125 < 135 by decide)) ?_
              exact opLoad rfl (hM.old 11 rfl) ((hI.block _ (Array.getElem?_eq_some_iff.1 q11).1).trans q11) ⟨n11.later hI, Below.refl _ _⟩
            | 10, ho =>
              cases ho
              refine stepK_of (wantedK hM rfl rfl (hM.dep ⟨8, .guard⟩ (by simp) rfl 125 rfl) rfl (show 125 < 135 by decide)) ?_
              exact opMove rfl (hM.old 8 rfl) ⟨rfl, Below.refl _ _⟩
            | 11, ho =>
              cases ho
              refine stepK_of (wantedK hM rfl rfl (hM.dep ⟨8, .guard⟩ (by simp) rfl 125 rfl) rfl (show 125 < 135 by decide)) ?_
              exact opMove rfl (hM.old 10 rfl) ⟨rfl, Below.refl _ _⟩
            | 12, ho =>
              cases ho
              refine stepK_of (wantedK hM rfl rfl (hM.dep ⟨8, .guard⟩ (by simp) rfl 125 rfl) rfl (show 125 < 135 by decide)) ?_
              exact opSub3 rfl (hM.dep ⟨10, .data⟩ (by simp) rfl 127 rfl) (hM.dep ⟨11, .data⟩ (by simp) rfl 128 rfl) (by omega) (by omega) ⟨rfl, Below.refl _ _⟩
            | 13, ho =>
              cases ho
              refine stepK_of (wantedK hM rfl rfl (hM.dep ⟨8, .guard⟩ (by simp) rfl 125 rfl) rfl (show 125 < 135 by decide)) ?_
              exact opMove rfl (hM.old 9 rfl) ⟨rfl, Below.refl _ _⟩
            | 14, ho =>
              cases ho
              refine stepK_of (wantedK hM rfl rfl (hM.dep ⟨8, .guard⟩ (by simp) rfl 125 rfl) rfl (show 125 < 135 by decide)) ?_
              exact opQuo3 rfl (hM.dep ⟨12, .data⟩ (by simp) rfl 129 rfl) (hM.dep ⟨13, .data⟩ (by simp) rfl 130 rfl) hb0 hq (by omega) (by omega) ⟨rfl, Below.refl _ _⟩
            | 15, ho =>
              cases ho
              refine stepK_of (wantedK hM rfl rfl (hM.dep ⟨8, .chain⟩ (by simp) rfl 125 rfl) rfl (show 125 < 135 by decide)) ?_
              exact opCall1 rfl may20 (hM.dep ⟨14, .data⟩ (by simp) rfl 131 rfl) (numK (num_ok (q) W (by first | decide | omega) (by first | decide | omega)))
            | 16, ho =>
              cases ho
              refine stepK_of (wantedK hM rfl rfl (hM.dep ⟨8, .guard⟩ (by simp) rfl 125 rfl) rfl (show 125 < 135 by decide)) ?_
              exact opCall2 rfl may18 rfl rfl (boolK (equal_true _ _ q (q : Int) W (hM.dep ⟨9, .data⟩ (by simp) rfl 126 rfl) (hM.dep ⟨15, .data⟩ (by simp) rfl 132 rfl) (rfl)))
            | 17, ho =>
              cases ho
              refine stepK_of (wanted_none rfl) ?_
              exact opPick rfl (hM.dep ⟨8, .data⟩ (by simp) rfl 125 rfl) (hM.dep ⟨16, .data⟩ (by simp) rfl 133 rfl) ⟨rfl, Below.refl _ _⟩
            | 18, ho =>
              cases ho
              refine stepK_of (wanted_none rfl) ?_
              exact opAssign rfl (hM.dep ⟨17, .data⟩ (by simp) rfl 134 rfl) ⟨rfl, Below.refl _ _⟩
            | k + 19, ho => simp at ho
          case hend2 =>
            intro u2 W2 hI2 hV2
            have e2_18 : u2 18 = (.bool true) := hV2 18 4 rfl
            simp only [putAll, List.foldl_cons, List.foldl_nil, List.setIfInBounds_toArray, List.set_cons_zero, List.set_cons_succ, e2_18]
            clear e2_18 hV2
            have q11_2 := (hI2.block _ (Array.getElem?_eq_some_iff.1 q11).1).trans q11
            have n11_2 := n11.later hI2
            have q12_2 := (hI2.block _ (Array.getElem?_eq_some_iff.1 q12).1).trans q12
            have n12_2 := n12.later hI2
            have hBW2 := hBx.trans (hI2.mono hBx.size)
            go_wp2
            go_ret
            exact ⟨rfl, hBW2⟩
        · -- neg pos
          have d2 : decide (a.tmod b < 0) = true := decide_eq_true h2
          have d3 : decide (b < 0) = false := decide_eq_false h3
          have hF : ∃ q, Floor a b q (a.tmod b + b) ∧ -2147483648 ≤ q ∧ q ≤ 2147483648 ∧ -9223372036854775808 ≤ a.tmod b + b ∧ a.tmod b + b < 9223372036854775808 := floor_ta hb0 rfl hz (by rw [decide_eq_true h2, decide_eq_false h3]; decide) a0 a1 b0 b1'
          obtain ⟨q, hF, q0, q1, _, _⟩ := hF
          have hq := quo_floor hb0 hF
          have rb : (a.tmod b + b).natAbs < b.natAbs := by have h1 := hF.pos; have h2 := hF.neg; omega
          go_wp2_with fail
          refine (num_ok a w23 (by omega) (by omega)).mono ?_
          rintro e w30 ⟨b30, p30, l30, c30, rfl, hO30, hb30⟩
          have hBXw30 := hBXw23.trans (hb30.mono hBXw23.size)
          have na := hO30.num
          go_wp2_with fail
          refine (num_ok (b) w30 (by omega) (by omega)).mono ?_
          rintro e w31 ⟨b31, p31, l31, c31, rfl, hO31, hb31⟩
          have hBXw31 := hBXw30.trans (hb31.mono hBXw30.size)
          have naw31 := na.later hb31
          have nb := hO31.num
          go_wp2_with fail
          refine (DivMod_fit _ _ a b q (a.tmod b + b) w31 naw31 nb hb0 hF).mono ?_
          rintro e w32 ⟨b32, p32, l32, c32, b32', p32', l32', c32', rfl, hO32, hO32', hb32⟩
          have hBXw32 := hBXw31.trans (hb32.mono hBXw31.size)
          have naw32 := naw31.later hb32
          have nbw32 := nb.later hb32
          have nq := hO32.num
          have nr := hO32'.num
          clear hO32 hO32'
          go_wp2_with fail
          obtain ⟨x, hx⟩ : ∃ x, x = (w32.alloc (.cells #[.bool b32, .slice p32 l32 c32] 24)).alloc (.cells #[.bool b32', .slice p32' l32' c32'] 24) := ⟨_, rfl⟩
          rw [← hx]
          have hbx : Below w32.heap.size w32 x := by rw [hx]; exact ((Below.refl _ _).alloc (Nat.le_refl _) _).alloc (by simp) _
          have q11 : x.heap[w32.heap.size]? = some (.cells #[.bool b32, .slice p32 l32 c32] 24) := by rw [hx]; exact alloc_old _ _ (alloc_new _ _ rfl)
          have q12 : x.heap[w32.heap.size + 1]? = some (.cells #[.bool b32', .slice p32' l32' c32'] 24) := by rw [hx]; exact alloc_new _ _ (by rw [World.size_alloc])
          have n11 := nq.later hbx
          have n12 := nr.later hbx
          have hBx := hBXw32.trans (hbx.mono hBXw32.size)
          clear hx nq nr
          refine region_kinds (n := 9) [.val (.int .i64 0), .val (.bool true), .val (.bool true), .num (a.tmod b + b), .val (.int .i64 (a.tmod b + b)), .num ((a.tmod b + b) : Int), .val (.bool true), .val (.bool true), .val (.bool true), .num q, .val (.int .i64 a), .val (.int .i64 (a.tmod b + b)), .val (.int .i64 (a - (a.tmod b + b))), .val (.int .i64 b), .val (.int .i64 q), .num (q : Int), .val (.bool true), .val (.bool true), .val (.bool true)] [(0, 117), (1, 118), (2, 119), (3, 120), (4, 121), (5, 122), (6, 123), (7, 124), (8, 125), (9, 126), (10, 127), (11, 128), (12, 129), (13, 130), (14, 131), (15, 132), (16, 133), (17, 134), (18, 4)] (by kernel_rfl) (by kernel_rfl) (by kernel_rfl) ?hstep3 ?hend3
          case hstep3 =>
            intro i o ho a' W hI hM
            match i, ho with
            | 0, ho =>
              cases ho
              refine stepK_of (wanted_none rfl) ?_
              exact opMove rfl (hM.old 13 rfl) ⟨rfl, Below.refl _ _⟩
            | 1, ho =>
              cases ho
              refine stepK_of (wanted_none rfl) ?_
              exact opEql27 rfl (hM.dep ⟨0, .data⟩ (by simp) rfl 117 rfl) rfl ⟨rfl, Below.refl _ _⟩
            | 2, ho =>
              cases ho
              refine stepK_of (wanted_none rfl) ?_
              exact opMove rfl (hM.dep ⟨1, .data⟩ (by simp) rfl 118 rfl) ⟨rfl, Below.refl _ _⟩
            | 3, ho =>
              cases ho
              refine stepK_of (wantedK hM rfl rfl (hM.dep ⟨2, .guard⟩ (by simp) rfl 119 rfl) rfl (show 119 < 135 by decide)) ?_
              exact opLoad rfl (hM.old 12 rfl) ((hI.block _ (Array.getElem?_eq_some_iff.1 q12).1).trans q12) ⟨n12.later hI, Below.refl _ _⟩
            | 4, ho =>
              cases ho
              refine stepK_of (wantedK hM rfl rfl (hM.dep ⟨2, .guard⟩ (by simp) rfl 119 rfl) rfl (show 119 < 135 by decide)) ?_
              exact opMove rfl (hM.old 10 rfl) ⟨rfl, Below.refl _ _⟩
            | 5, ho =>
              cases ho
              refine stepK_of (wantedK hM rfl rfl (hM.dep ⟨2, .chain⟩ (by simp) rfl 119 rfl) rfl (show 119 < 135 by decide)) ?_
              exact opCall1 rfl may20 (hM.dep ⟨4, .data⟩ (by simp) rfl 121 rfl) (numK (num_ok ((a.tmod b + b)) W (by first | decide | omega) (by first | decide | omega)))
            | 6, ho =>
              cases ho
              refine stepK_of (wantedK hM rfl rfl (hM.dep ⟨2, .guard⟩ (by simp) rfl 119 rfl) rfl (show 119 < 135 by decide)) ?_
              exact opCall2 rfl may18 rfl rfl (boolK (equal_true _ _ (a.tmod b + b) ((a.tmod b + b) : Int) W (hM.dep ⟨3, .data⟩ (by simp) rfl 120 rfl) (hM.dep ⟨5, .data⟩ (by simp) rfl 122 rfl) (rfl)))
            | 7, ho =>
              cases ho
              refine stepK_of (wanted_none rfl) ?_
              exact opPick rfl (hM.dep ⟨2, .data⟩ (by simp) rfl 119 rfl) (hM.dep ⟨6, .data⟩ (by simp) rfl 123 rfl) ⟨rfl, Below.refl _ _⟩
            | 8, ho =>
              cases ho
              refine stepK_of (wanted_none rfl) ?_
              exact opMove rfl (hM.dep ⟨7, .data⟩ (by simp) rfl 124 rfl) ⟨rfl, Below.refl _ _⟩
            | 9, ho =>
              cases ho
              refine stepK_of (wantedK hM rfl rfl (hM.dep ⟨8, .guard⟩ (by simp) rfl 125 rfl) rfl (show 125 < 135 by decide)) ?_
              exact opLoad rfl (hM.old 11 rfl) ((hI.block _ (Array.getElem?_eq_some_iff.1 q11).1).trans q11) ⟨n11.later hI, Below.refl _ _⟩
            | 10, ho =>
              cases ho
              refine stepK_of (wantedK hM rfl rfl (hM.dep ⟨8, .guard⟩ (by simp) rfl 125 rfl) rfl (show 125 < 135 by decide)) ?_
              exact opMove rfl (hM.old 8 rfl) ⟨rfl, Below.refl _ _⟩
            | 11, ho =>
              cases ho
              refine stepK_of (wantedK hM rfl rfl (hM.dep ⟨8, .guard⟩ (by simp) rfl 125 rfl) rfl (show 125 < 135 by decide)) ?_
              exact opMove rfl (hM.old 10 rfl) ⟨rfl, Below.refl _ _⟩
            | 12, ho =>
              cases ho
              refine stepK_of (wantedK hM rfl rfl (hM.dep ⟨8, .guard⟩ (by simp) rfl 125 rfl) rfl (show 125 < 135 by decide)) ?_
              exact opSub3 rfl (hM.dep ⟨10, .data⟩ (by simp) rfl 127 rfl) (hM.dep ⟨11, .data⟩ (by simp) rfl 128 rfl) (by omega) (by omega) ⟨rfl, Below.refl _ _⟩
            | 13, ho =>
              cases ho
              refine stepK_of (wantedK hM rfl rfl (hM.dep ⟨8, .guard⟩ (by simp) rfl 125 rfl) rfl (show 125 < 135 by decide)) ?_
              exact opMove rfl (hM.old 9 rfl) ⟨rfl, Below.refl _ _⟩
            | 14, ho =>
              cases ho
              refine stepK_of (wantedK hM rfl rfl (hM.dep ⟨8, .guard⟩ (by simp) rfl 125 rfl) rfl (show 125 < 135 by decide)) ?_
              exact opQuo3 rfl (hM.dep ⟨12, .data⟩ (by simp) rfl 129 rfl) (hM.dep ⟨13, .data⟩ (by simp) rfl 130 rfl) hb0 hq (by omega) (by omega) ⟨rfl, Below.refl _ _⟩
            | 15, ho =>
              cases ho
              refine stepK_of (wantedK hM rfl rfl (hM.dep ⟨8, .chain⟩ (by simp) rfl 125 rfl) rfl (show 125 < 135 by decide)) ?_
              exact opCall1 rfl may20 (hM.dep ⟨14, .data⟩ (by simp) rfl 131 rfl) (numK (num_ok (q) W (by first | decide | omega) (by first | decide | omega)))
            | 16, ho =>
              cases ho
              refine stepK_of (wantedK hM rfl rfl (hM.dep ⟨8, .guard⟩ (by simp) rfl 125 rfl) rfl (show 125 < 135 by decide)) ?_
              exact opCall2 rfl may18 rfl rfl (boolK (equal_true _ _ q (q : Int) W (hM.dep ⟨9, .data⟩ (by simp) rfl 126 rfl) (hM.dep ⟨15, .data⟩ (by simp) rfl 132 rfl) (rfl)))
            | 17, ho =>
              cases ho
              refine stepK_of (wanted_none rfl) ?_
              exact opPick rfl (hM.dep ⟨8, .data⟩ (by simp) rfl 125 rfl) (hM.dep ⟨16, .data⟩ (by simp) rfl 133 rfl) ⟨rfl, Below.refl _ _⟩
            | 18, ho =>
              cases ho
              refine stepK_of (wanted_none rfl) ?_
              exact opAssign rfl (hM.dep ⟨17, .data⟩ (by simp) rfl 134 rfl) ⟨rfl, Below.refl _ _⟩
            | k + 19, ho => simp at ho
          case hend3 =>
            intro u3 W3 hI3 hV3
            have e3_18 : u3 18 = (.bool true) := hV3 18 4 rfl
            simp only [putAll, List.foldl_cons, List.foldl_nil, List.setIfInBounds_toArray, List.set_cons_zero, List.set_cons_succ, e3_18]
            clear e3_18 hV3
            have q11_3 := (hI3.block _ (Array.getElem?_eq_some_iff.1 q11).1).trans q11
            have n11_3 := n11.later hI3
            have q12_3 := (hI3.block _ (Array.getElem?_eq_some_iff.1 q12).1).trans q12
            have n12_3 := n12.later hI3
            have hBW3 := hBx.trans (hI3.mono hBx.size)
            go_wp2
            go_ret
            exact ⟨rfl, hBW3⟩
      · by_cases h3 : b < 0
        · -- pos neg
          have d2 : decide (a.tmod b < 0) = false := decide_eq_false h2
          have d3 : decide (b < 0) = true := decide_eq_true h3
          have hF : ∃ q, Floor a b q (a.tmod b + b) ∧ -2147483648 ≤ q ∧ q ≤ 2147483648 ∧ -9223372036854775808 ≤ a.tmod b + b ∧ a.tmod b + b < 9223372036854775808 := floor_ta hb0 rfl hz (by rw [decide_eq_false h2, decide_eq_true h3]; decide) a0 a1 b0 b1'
          obtain ⟨q, hF, q0, q1, _, _⟩ := hF
          have hq := quo_floor hb0 hF
          have rb : (a.tmod b + b).natAbs < b.natAbs := by have h1 := hF.pos; have h2 := hF.neg; omega
          go_wp2_with fail
          refine (num_ok a w23 (by omega) (by omega)).mono ?_
          rintro e w33 ⟨b33, p33, l33, c33, rfl, hO33, hb33⟩
          have hBXw33 := hBXw23.trans (hb33.mono hBXw23.size)
          have na := hO33.num
          go_wp2_with fail
          refine (num_ok (b) w33 (by omega) (by omega)).mono ?_
          rintro e w34 ⟨b34, p34, l34, c34, rfl, hO34, hb34⟩
          have hBXw34 := hBXw33.trans (hb34.mono hBXw33.size)
          have naw34 := na.later hb34
          have nb := hO34.num
          go_wp2_with fail
          refine (DivMod_fit _ _ a b q (a.tmod b + b) w34 naw34 nb hb0 hF).mono ?_
          rintro e w35 ⟨b35, p35, l35, c35, b35', p35', l35', c35', rfl, hO35, hO35', hb35⟩
          have hBXw35 := hBXw34.trans (hb35.mono hBXw34.size)
          have naw35 := naw34.later hb35
          have nbw35 := nb.later hb35
          have nq := hO35.num
          have nr := hO35'.num
          clear hO35 hO35'
          go_wp2_with fail
          obtain ⟨x, hx⟩ : ∃ x, x = (w35.alloc (.cells #[.bool b35, .slice p35 l35 c35] 24)).alloc (.cells #[.bool b35', .slice p35' l35' c35'] 24) := ⟨_, rfl⟩
          rw [← hx]
          have hbx : Below w35.heap.size w35 x := by rw [hx]; exact ((Below.refl _ _).alloc (Nat.le_refl _) _).alloc (by simp) _
          have q11 : x.heap[w35.heap.size]? = some (.cells #[.bool b35, .slice p35 l35 c35] 24) := by rw [hx]; exact alloc_old _ _ (alloc_new _ _ rfl)
          have q12 : x.heap[w35.heap.size + 1]? = some (.cells #[.bool b35', .slice p35' l35' c35'] 24) := by rw [hx]; exact alloc_new _ _ (by rw [World.size_alloc])
          have n11 := nq.later hbx
          have n12 := nr.later hbx
          have hBx := hBXw35.trans (hbx.mono hBXw35.size)
          clear hx nq nr
          refine region_kinds (n := 9) [.val (.int .i64 0), .val (.bool true), .val (.bool true), .num (a.tmod b + b), .val (.int .i64 (a.tmod b + b)), .num ((a.tmod b + b) : Int), .val (.bool true), .val (.bool true), .val (.bool true), .num q, .val (.int .i64 a), .val (.int .i64 (a.tmod b + b)), .val (.int .i64 (a - (a.tmod b + b))), .val (.int .i64 b), .val (.int .i64 q), .num (q : Int), .val (.bool true), .val (.bool true), .val (.bool true)] [(0, 117), (1, 118), (2, 119), (3, 120), (4, 121), (5, 122), (6, 123), (7, 124), (8, 125), (9, 126), (10, 127), (11, 128), (12, 129), (13, 130), (14, 131), (15, 132), (16, 133), (17, 134), (18, 4)] (by kernel_rfl) (by kernel_rfl) (by kernel_rfl) ?hstep4 ?hend4
          case hstep4 =>
            intro i o ho a' W hI hM
            match i, ho with
            | 0, ho =>
              cases ho
              refine stepK_of (wanted_none rfl) ?_
              exact opMove rfl (hM.old 13 rfl) ⟨rfl, Below.refl _ _⟩
            | 1, ho =>
              cases ho
              refine stepK_of (wanted_none rfl) ?_
              exact opEql27 rfl (hM.dep ⟨0, .data⟩ (by simp) rfl 117 rfl) rfl ⟨rfl, Below.refl _ _⟩
            | 2, ho =>
              cases ho
              refine stepK_of (wanted_none rfl) ?_
              exact opMove rfl (hM.dep ⟨1, .data⟩ (by simp) rfl 118 rfl) ⟨rfl, Below.refl _ _⟩
            | 3, ho =>
              cases ho
              refine stepK_of (wantedK hM rfl rfl (hM.dep ⟨2, .guard⟩ (by simp) rfl 119 rfl) rfl (show 119 < 135 by decide)) ?_
              exact opLoad rfl (hM.old 12 rfl) ((hI.block _ (Array.getElem?_eq_some_iff.1 q12).1).trans q12) ⟨n12.later hI, Below.refl _ _⟩
            | 4, ho =>
              cases ho
              refine stepK_of (wantedK hM rfl rfl (hM.dep ⟨2, .guard⟩ (by simp) rfl 119 rfl) rfl (show 119 < 135 by decide)) ?_
              exact opMove rfl (hM.old 10 rfl) ⟨rfl, Below.refl _ _⟩
            | 5, ho =>
              cases ho
              refine stepK_of (wantedK hM rfl rfl (hM.dep ⟨2, .chain⟩ (by simp) rfl 119 rfl) rfl (show 119 < 135 by decide)) ?_
              exact opCall1 rfl may20 (hM.dep ⟨4, .data⟩ (by simp) rfl 121 rfl) (numK (num_ok ((a.tmod b + b)) W (by first | decide | omega) (by first | decide | omega)))
            | 6, ho =>
              cases ho
              refine stepK_of (wantedK hM rfl rfl (hM.dep ⟨2, .guard⟩ (by simp) rfl 119 rfl) rfl (show 119 < 135 by decide)) ?_
              exact opCall2 rfl may18 rfl rfl (boolK (equal_true _ _ (a.tmod b + b) ((a.tmod b + b) : Int) W (hM.dep ⟨3, .data⟩ (by simp) rfl 120 rfl) (hM.dep ⟨5, .data⟩ (by simp) rfl 122 rfl) (rfl)))
            | 7, ho =>
              cases ho
              refine stepK_of (wanted_none rfl) ?_
              exact opPick rfl (hM.dep ⟨2, .data⟩ (by simp) rfl 119 rfl) (hM.dep ⟨6, .data⟩ (by simp) rfl 123 rfl) ⟨rfl, Below.refl _ _⟩
            | 8, ho =>
              cases ho
              refine stepK_of (wanted_none rfl) ?_
              exact opMove rfl (hM.dep ⟨7, .data⟩ (by simp) rfl 124 rfl) ⟨rfl, Below.refl _ _⟩
            | 9, ho =>
              cases ho
              refine stepK_of (wantedK hM rfl rfl (hM.dep ⟨8, .guard⟩ (by simp) rfl 125 rfl) rfl (show 125 < 135 by decide)) ?_
              exact opLoad rfl (hM.old 11 rfl) ((hI.block _ (Array.getElem?_eq_some_iff.1 q11).1).trans q11) ⟨n11.later hI, Below.refl _ _⟩
            | 10, ho =>
              cases ho
              refine stepK_of (wantedK hM rfl rfl (hM.dep ⟨8, .guard⟩ (by simp) rfl 125 rfl) rfl (show 125 < 135 by decide)) ?_
              exact opMove rfl (hM.old 8 rfl) ⟨rfl, Below.refl _ _⟩
            | 11, ho =>
              cases ho
              refine stepK_of (wantedK hM rfl rfl (hM.dep ⟨8, .guard⟩ (by simp) rfl 125 rfl) rfl (show 125 < 135 by decide)) ?_
              exact opMove rfl (hM.old 10 rfl) ⟨rfl, Below.refl _ _⟩
            | 12, ho =>
              cases ho
              refine stepK_of (wantedK hM rfl rfl (hM.dep ⟨8, .guard⟩ (by simp) rfl 125 rfl) rfl (show 125 < 135 by decide)) ?_
              exact opSub3 rfl (hM.dep ⟨10, .data⟩ (by simp) rfl 127 rfl) (hM.dep ⟨11, .data⟩ (by simp) rfl 128 rfl) (by omega) (by omega) ⟨rfl, Below.refl _ _⟩
            | 13, ho =>
              cases ho
              refine stepK_of (wantedK hM rfl rfl (hM.dep ⟨8, .guard⟩ (by simp) rfl 125 rfl) rfl (show 125 < 135 by decide)) ?_
              exact opMove rfl (hM.old 9 rfl) ⟨rfl, Below.refl _ _⟩
            | 14, ho =>
              cases ho
              refine stepK_of (wantedK hM rfl rfl (hM.dep ⟨8, .guard⟩ (by simp) rfl 125 rfl) rfl (show 125 < 135 by decide)) ?_
              exact opQuo3 rfl (hM.dep ⟨12, .data⟩ (by simp) rfl 129 rfl) (hM.dep ⟨13, .data⟩ (by simp) rfl 130 rfl) hb0 hq (by omega) (by omega) ⟨rfl, Below.refl _ _⟩
            | 15, ho =>
              cases ho
              refine stepK_of (wantedK hM rfl rfl (hM.dep ⟨8, .chain⟩ (by simp) rfl 125 rfl) rfl (show 125 < 135 by decide)) ?_
              exact opCall1 rfl may20 (hM.dep ⟨14, .data⟩ (by simp) rfl 131 rfl) (numK (num_ok (q) W (by first | decide | omega) (by first | decide | omega)))
            | 16, ho =>
              cases ho
              refine stepK_of (wantedK hM rfl rfl (hM.dep ⟨8, .guard⟩ (by simp) rfl 125 rfl) rfl (show 125 < 135 by decide)) ?_
              exact opCall2 rfl may18 rfl rfl (boolK (equal_true _ _ q (q : Int) W (hM.dep ⟨9, .data⟩ (by simp) rfl 126 rfl) (hM.dep ⟨15, .data⟩ (by simp) rfl 132 rfl) (rfl)))
            | 17, ho =>
              cases ho
              refine stepK_of (wanted_none rfl) ?_
              exact opPick rfl (hM.dep ⟨8, .data⟩ (by simp) rfl 125 rfl) (hM.dep ⟨16, .data⟩ (by simp) rfl 133 rfl) ⟨rfl, Below.refl _ _⟩
            | 18, ho =>
              cases ho
              refine stepK_of (wanted_none rfl) ?_
              exact opAssign rfl (hM.dep ⟨17, .data⟩ (by simp) rfl 134 rfl) ⟨rfl, Below.refl _ _⟩
            | k + 19, ho => simp at ho
          case hend4 =>
            intro u4 W4 hI4 hV4
            have e4_18 : u4 18 = (.bool true) := hV4 18 4 rfl
            simp only [putAll, List.foldl_cons, List.foldl_nil, List.setIfInBounds_toArray, List.set_cons_zero, List.set_cons_succ, e4_18]
            clear e4_18 hV4
            have q11_4 := (hI4.block _ (Array.getElem?_eq_some_iff.1 q11).1).trans q11
            have n11_4 := n11.later hI4
            have q12_4 := (hI4.block _ (Array.getElem?_eq_some_iff.1 q12).1).trans q12
            have n12_4 := n12.later hI4
            have hBW4 := hBx.trans (hI4.mono hBx.size)
            go_wp2
            go_ret
            exact ⟨rfl, hBW4⟩
        · -- pos pos
          have d2 : decide (a.tmod b < 0) = false := decide_eq_false h2
          have d3 : decide (b < 0) = false := decide_eq_false h3
          have hF : ∃ q, Floor a b q (a.tmod b) ∧ -2147483648 ≤ q ∧ q ≤ 2147483648 ∧ -9223372036854775808 ≤ a.tmod b ∧ a.tmod b < 9223372036854775808 := floor_ts hb0 rfl (by rw [decide_eq_false (h2), decide_eq_false (h3)]) a0 a1 b0 b1'
          obtain ⟨q, hF, q0, q1, _, _⟩ := hF
          have hq := quo_floor hb0 hF
          have rb : (a.tmod b).natAbs < b.natAbs := by have h1 := hF.pos; have h2 := hF.neg; omega
          go_wp2_with fail
          refine (num_ok a w23 (by omega) (by omega)).mono ?_
          rintro e w36 ⟨b36, p36, l36, c36, rfl, hO36, hb36⟩
          have hBXw36 := hBXw23.trans (hb36.mono hBXw23.size)
          have na := hO36.num
          go_wp2_with fail
          refine (num_ok (b) w36 (by omega) (by omega)).mono ?_
          rintro e w37 ⟨b37, p37, l37, c37, rfl, hO37, hb37⟩
          have hBXw37 := hBXw36.trans (hb37.mono hBXw36.size)
          have naw37 := na.later hb37
          have nb := hO37.num
          go_wp2_with fail
          refine (DivMod_fit _ _ a b q (a.tmod b) w37 naw37 nb hb0 hF).mono ?_
          rintro e w38 ⟨b38, p38, l38, c38, b38', p38', l38', c38', rfl, hO38, hO38', hb38⟩
          have hBXw38 := hBXw37.trans (hb38.mono hBXw37.size)
          have naw38 := naw37.later hb38
          have nbw38 := nb.later hb38
          have nq := hO38.num
          have nr := hO38'.num
          clear hO38 hO38'
          go_wp2_with fail
          obtain ⟨x, hx⟩ : ∃ x, x = (w38.alloc (.cells #[.bool b38, .slice p38 l38 c38] 24)).alloc (.cells #[.bool b38', .slice p38' l38' c38'] 24) := ⟨_, rfl⟩
          rw [← hx]
          have hbx : Below w38.heap.size w38 x := by rw [hx]; exact ((Below.refl _ _).alloc (Nat.le_refl _) _).alloc (by simp) _
          have q11 : x.heap[w38.heap.size]? = some (.cells #[.bool b38, .slice p38 l38 c38] 24) := by rw [hx]; exact alloc_old _ _ (alloc_new _ _ rfl)
          have q12 : x.heap[w38.heap.size + 1]? = some (.cells #[.bool b38', .slice p38' l38' c38'] 24) := by rw [hx]; exact alloc_new _ _ (by rw [World.size_alloc])
          have n11 := nq.later hbx
          have n12 := nr.later hbx
          have hBx := hBXw38.trans (hbx.mono hBXw38.size)
          clear hx nq nr
          refine region_kinds (n := 9) [.val (.int .i64 0), .val (.bool true), .val (.bool true), .num (a.tmod b), .val (.int .i64 (a.tmod b)), .num ((a.tmod b) : Int), .val (.bool true), .val (.bool true), .val (.bool true), .num q, .val (.int .i64 a), .val (.int .i64 (a.tmod b)), .val (.int .i64 (a - (a.tmod b))), .val (.int .i64 b), .val (.int .i64 q), .num (q : Int), .val (.bool true), .val (.bool true), .val (.bool true)] [(0, 117), (1, 118), (2, 119), (3, 120), (4, 121), (5, 122), (6, 123), (7, 124), (8, 125), (9, 126), (10, 127), (11, 128), (12, 129), (13, 130), (14, 131), (15, 132), (16, 133), (17, 134), (18, 4)] (by kernel_rfl) (by kernel_rfl) (by kernel_rfl) ?hstep5 ?hend5
          case hstep5 =>
            intro i o ho a' W hI hM
            match i, ho with
            | 0, ho =>
              cases ho
              refine stepK_of (wanted_none rfl) ?_
              exact opMove rfl (hM.old 13 rfl) ⟨rfl, Below.refl _ _⟩
            | 1, ho =>
              cases ho
              refine stepK_of (wanted_none rfl) ?_
              exact opEql27 rfl (hM.dep ⟨0, .data⟩ (by simp) rfl 117 rfl) rfl ⟨rfl, Below.refl _ _⟩
            | 2, ho =>
              cases ho
              refine stepK_of (wanted_none rfl) ?_
              exact opMove rfl (hM.dep ⟨1, .data⟩ (by simp) rfl 118 rfl) ⟨rfl, Below.refl _ _⟩
            | 3, ho =>
              cases ho
              refine stepK_of (wantedK hM rfl rfl (hM.dep ⟨2, .guard⟩ (by simp) rfl 119 rfl) rfl (show 119 < 135 by decide)) ?_
              exact opLoad rfl (hM.old 12 rfl) ((hI.block _ (Array.getElem?_eq_some_iff.1 q12).1).trans q12) ⟨n12.later hI, Below.refl _ _⟩
            | 4, ho =>
              cases ho
              refine stepK_of (wantedK hM rfl rfl (hM.dep ⟨2, .guard⟩ (by simp) rfl 119 rfl) rfl (show 119 < 135 by decide)) ?_
              exact opMove rfl (hM.old 10 rfl) ⟨rfl, Below.refl _ _⟩
            | 5, ho =>
              cases ho
              refine stepK_of (wantedK hM rfl rfl (hM.dep ⟨2, .chain⟩ (by simp) rfl 119 rfl) rfl (show 119 < 135 by decide)) ?_
              exact opCall1 rfl may20 (hM.dep ⟨4, .data⟩ (by simp) rfl 121 rfl) (numK (num_ok ((a.tmod b)) W (by first | decide | omega) (by first | decide | omega)))
            | 6, ho =>
              cases ho
              refine stepK_of (wantedK hM rfl rfl (hM.dep ⟨2, .guard⟩ (by simp) rfl 119 rfl) rfl (show 119 < 135 by decide)) ?_
              exact opCall2 rfl may18 rfl rfl (boolK (equal_true _ _ (a.tmod b) ((a.tmod b) : Int) W (hM.dep ⟨3, .data⟩ (by simp) rfl 120 rfl) (hM.dep ⟨5, .data⟩ (by simp) rfl 122 rfl) (rfl)))
            | 7, ho =>
              cases ho
              refine stepK_of (wanted_none rfl) ?_
              exact opPick rfl (hM.dep ⟨2, .data⟩ (by simp) rfl 119 rfl) (hM.dep ⟨6, .data⟩ (by simp) rfl 123 rfl) ⟨rfl, Below.refl _ _⟩
            | 8, ho =>
              cases ho
              refine stepK_of (wanted_none rfl) ?_
              exact opMove rfl (hM.dep ⟨7, .data⟩ (by simp) rfl 124 rfl) ⟨rfl, Below.refl _ _⟩
            | 9, ho =>
              cases ho
              refine stepK_of (wantedK hM rfl rfl (hM.dep ⟨8, .guard⟩ (by simp) rfl 125 rfl) rfl (show 125 < 135 by decide)) ?_
              exact opLoad rfl (hM.old 11 rfl) ((hI.block _ (Array.getElem?_eq_some_iff.1 q11).1).trans q11) ⟨n11.later hI, Below.refl _ _⟩
            | 10, ho =>
              cases ho
              refine stepK_of (wantedK hM rfl rfl (hM.dep ⟨8, .guard⟩ (by simp) rfl 125 rfl) rfl (show 125 < 135 by decide)) ?_
              exact opMove rfl (hM.old 8 rfl) ⟨rfl, Below.refl _ _⟩
            | 11, ho =>
              cases ho
              refine stepK_of (wantedK hM rfl rfl (hM.dep ⟨8, .guard⟩ (by simp) rfl 125 rfl) rfl (show 125 < 135 by decide)) ?_
              exact opMove rfl (hM.old 10 rfl) ⟨rfl, Below.refl _ _⟩
            | 12, ho =>
              cases ho
              refine stepK_of (wantedK hM rfl rfl (hM.dep ⟨8, .guard⟩ (by simp) rfl 125 rfl) rfl (show 125 < 135 by decide)) ?_
              exact opSub3 rfl (hM.dep ⟨10, .data⟩ (by simp) rfl 127 rfl) (hM.dep ⟨11, .data⟩ (by simp) rfl 128 rfl) (by omega) (by omega) ⟨rfl, Below.refl _ _⟩
            | 13, ho =>
              cases ho
              refine stepK_of (wantedK hM rfl rfl (hM.dep ⟨8, .guard⟩ (by simp) rfl 125 rfl) rfl (show 125 < 135 by decide)) ?_
              exact opMove rfl (hM.old 9 rfl) ⟨rfl, Below.refl _ _⟩
            | 14, ho =>
              cases ho
              refine stepK_of (wantedK hM rfl rfl (hM.dep ⟨8, .guard⟩ (by simp) rfl 125 rfl) rfl (show 125 < 135 by decide)) ?_
              exact opQuo3 rfl (hM.dep ⟨12, .data⟩ (by simp) rfl 129 rfl) (hM.dep ⟨13, .data⟩ (by simp) rfl 130 rfl) hb0 hq (by omega) (by omega) ⟨rfl, Below.refl _ _⟩
            | 15, ho =>
              cases ho
              refine stepK_of (wantedK hM rfl rfl (hM.dep ⟨8, .chain⟩ (by simp) rfl 125 rfl) rfl (show 125 < 135 by decide)) ?_
              exact opCall1 rfl may20 (hM.dep ⟨14, .data⟩ (by simp) rfl 131 rfl) (numK (num_ok (q) W (by first | decide | omega) (by first | decide | omega)))
            | 16, ho =>
              cases ho
              refine stepK_of (wantedK hM rfl rfl (hM.dep ⟨8, .guard⟩ (by simp) rfl 125 rfl) rfl (show 125 < 135 by decide)) ?_
              exact opCall2 rfl may18 rfl rfl (boolK (equal_true _ _ q (q : Int) W (hM.dep ⟨9, .data⟩ (by simp) rfl 126 rfl) (hM.dep ⟨15, .data⟩ (by simp) rfl 132 rfl) (rfl)))
            | 17, ho =>
              cases ho
              refine stepK_of (wanted_none rfl) ?_
              exact opPick rfl (hM.dep ⟨8, .data⟩ (by simp) rfl 125 rfl) (hM.dep ⟨16, .data⟩ (by simp) rfl 133 rfl) ⟨rfl, Below.refl _ _⟩
            | 18, ho =>
              cases ho
              refine stepK_of (wanted_none rfl) ?_
              exact opAssign rfl (hM.dep ⟨17, .data⟩ (by simp) rfl 134 rfl) ⟨rfl, Below.refl _ _⟩
            | k + 19, ho => simp at ho
          case hend5 =>
            intro u5 W5 hI5 hV5
            have e5_18 : u5 18 = (.bool true) := hV5 18 4 rfl
            simp only [putAll, List.foldl_cons, List.foldl_nil, List.setIfInBounds_toArray, List.set_cons_zero, List.set_cons_succ, e5_18]
            clear e5_18 hV5
            have q11_5 := (hI5.block _ (Array.getElem?_eq_some_iff.1 q11).1).trans q11
            have n11_5 := n11.later hI5
            have q12_5 := (hI5.block _ (Array.getElem?_eq_some_iff.1 q12).1).trans q12
            have n12_5 := n12.later hI5
            have hBW5 := hBx.trans (hI5.mono hBx.size)
            go_wp2
            go_ret
            exact ⟨rfl, hBW5⟩
set_option maxRecDepth 100000 in
set_option maxHeartbeats 4000000 in
theorem Ints_gt (A B : Int) (w : World) (hA0 : -9223372036854775808 ≤ A) (hA1 : A < 9223372036854775808) (hB0' : -9223372036854775808 ≤ B) (hB1 : B < 9223372036854775808) (hAB : B < A) (htab : Tab w) : Calls Tryd.prog 10 #[.int .i64 A, .int .i64 B] w (BoolP true w) := by
  have hB0 := Below.refl w.heap.size w
  have hc : cmpI A B = 1 := by unfold cmpI; rw [if_neg (by omega), if_neg (by omega)]
  have HC := Lib.hid hc
  clear hc
  have haw := awake_ok w htab
  go_enter Tryd.func10, Tryd.ntmps10
  go_wp2_with fail
  refine (haw).mono ?_
  rintro e w1 ⟨rfl, hb1⟩
  have hBXw1 := hB0.trans (hb1.mono hB0.size)
  clear haw
  go_wp2_with fail
  refine (num_ok (A) w1 (by omega) (by omega)).mono ?_
  rintro e w2 ⟨b2, p2, l2, c2, rfl, hO2, hb2⟩
  have hBXw2 := hBXw1.trans (hb2.mono hBXw1.size)
  have na := hO2.num
  go_wp2_with fail
  refine (Int_ok _ A w2 na).mono ?_
  rintro e w3 ⟨k3, er3, rfl, hk3, hb3⟩
  obtain ⟨rfl, rfl⟩ : k3 = A ∧ er3 = 0 := by omega
  have hBXw3 := hBXw2.trans (hb3.mono hBXw2.size)
  have naw3 := na.later hb3
  go_wp2_with fail
  refine (num_ok (k3) w3 (by omega) (by omega)).mono ?_
  rintro e w4 ⟨b4, p4, l4, c4, rfl, hO4, hb4⟩
  have hBXw4 := hBXw3.trans (hb4.mono hBXw3.size)
  have na := hO4.num
  go_wp2_with fail
  refine (Valid_num _ k3 w4 na).mono ?_
  rintro e w5 ⟨rfl, hb5⟩
  have hBXw5 := hBXw4.trans (hb5.mono hBXw4.size)
  have naw5 := na.later hb5
  go_wp2_with fail
  refine (num_ok (k3) w5 (by omega) (by omega)).mono ?_
  rintro e w6 ⟨b6, p6, l6, c6, rfl, hO6, hb6⟩
  have hBXw6 := hBXw5.trans (hb6.mono hBXw5.size)
  have na := hO6.num
  go_wp2_with fail
  refine (num_ok (B) w6 (by omega) (by omega)).mono ?_
  rintro e w7 ⟨b7, p7, l7, c7, rfl, hO7, hb7⟩
  have hBXw7 := hBXw6.trans (hb7.mono hBXw6.size)
  have naw7 := na.later hb7
  have nb := hO7.num
  go_wp2_with fail
  refine (Cmp_ok _ _ k3 B w7 naw7 nb).mono ?_
  rintro e w8 ⟨rfl, hb8⟩
  rw [HC.out]
  have hBXw8 := hBXw7.trans (hb8.mono hBXw7.size)
  have naw8 := naw7.later hb8
  have nbw8 := nb.later hb8
  obtain ⟨a, ha⟩ : ∃ a, a = k3.tmod 2147483648 := ⟨_, rfl⟩
  obtain ⟨b, hb⟩ : ∃ b, b = B.tmod 2147483648 := ⟨_, rfl⟩
  have a0 : -2147483648 < a := by rw [ha]; exact Int.lt_tmod_of_pos _ (by decide)
  have a1 : a < 2147483648 := by rw [ha]; exact Int.tmod_lt_of_pos _ (by decide)
  have b0 : -2147483648 < b := by rw [hb]; exact Int.lt_tmod_of_pos _ (by decide)
  have b1' : b < 2147483648 := by rw [hb]; exact Int.tmod_lt_of_pos _ (by decide)
  have HA := Lib.hid ha
  have HB := Lib.hid hb
  clear ha hb
  obtain ⟨m0, m1⟩ := mul_small a0 a1 b0 b1'
  go_wp2_with fail
  rw [← HA.out]
  refine (num_ok (a) w8 (by omega) (by omega)).mono ?_
  rintro e w9 ⟨b9, p9, l9, c9, rfl, hO9, hb9⟩
  have hBXw9 := hBXw8.trans (hb9.mono hBXw8.size)
  have na := hO9.num
  go_wp2_with fail
  rw [← HB.out]
  refine (num_ok (b) w9 (by omega) (by omega)).mono ?_
  rintro e w10 ⟨b10, p10, l10, c10, rfl, hO10, hb10⟩
  have hBXw10 := hBXw9.trans (hb10.mono hBXw9.size)
  have naw10 := na.later hb10
  have nb := hO10.num
  go_wp2_with fail
  refine (sum_ok _ _ a b w10 naw10 nb (cap_small (by omega))).mono ?_
  rintro e w11 ⟨b11, p11, l11, c11, rfl, hO11, hb11⟩
  have hBXw11 := hBXw10.trans (hb11.mono hBXw10.size)
  have naw11 := naw10.later hb11
  have nbw11 := nb.later hb11
  have ns := hO11.num
  go_wp2_with fail
  refine (num_ok (a + b) w11 (by omega) (by omega)).mono ?_
  rintro e w12 ⟨b12, p12, l12, c12, rfl, hO12, hb12⟩
  have hBXw12 := hBXw11.trans (hb12.mono hBXw11.size)
  have naw12 := naw11.later hb12
  have nbw12 := nbw11.later hb12
  have nsw12 := ns.later hb12
  have nt := hO12.num
  go_wp2_with fail
  refine (equal_true _ _ (a + b) (a + b) w12 nsw12 nt rfl).mono ?_
  rintro e w13 ⟨rfl, hb13⟩
  have hBXw13 := hBXw12.trans (hb13.mono hBXw12.size)
  have naw13 := naw12.later hb13
  have nbw13 := nbw12.later hb13
  have nsw13 := nsw12.later hb13
  have ntw13 := nt.later hb13
  go_wp2_with fail
  refine (num_ok (a) w13 (by omega) (by omega)).mono ?_
  rintro e w14 ⟨b14, p14, l14, c14, rfl, hO14, hb14⟩
  have hBXw14 := hBXw13.trans (hb14.mono hBXw13.size)
  have na := hO14.num
  go_wp2_with fail
  refine (num_ok (b) w14 (by omega) (by omega)).mono ?_
  rintro e w15 ⟨b15, p15, l15, c15, rfl, hO15, hb15⟩
  have hBXw15 := hBXw14.trans (hb15.mono hBXw14.size)
  have naw15 := na.later hb15
  have nb := hO15.num
  go_wp2_with fail
  refine (product_ok _ _ a b w15 naw15 nb (cap_small (by omega))).mono ?_
  rintro e w16 ⟨b16, p16, l16, c16, rfl, hO16, hb16⟩
  have hBXw16 := hBXw15.trans (hb16.mono hBXw15.size)
  have naw16 := naw15.later hb16
  have nbw16 := nb.later hb16
  have ns := hO16.num
  go_wp2_with fail
  refine (num_ok (a * b) w16 (by omega) (by omega)).mono ?_
  rintro e w17 ⟨b17, p17, l17, c17, rfl, hO17, hb17⟩
  have hBXw17 := hBXw16.trans (hb17.mono hBXw16.size)
  have naw17 := naw16.later hb17
  have nbw17 := nbw16.later hb17
  have nsw17 := ns.later hb17
  have nt := hO17.num
  go_wp2_with fail
  refine (equal_true _ _ (a * b) (a * b) w17 nsw17 nt rfl).mono ?_
  rintro e w18 ⟨rfl, hb18⟩
  have hBXw18 := hBXw17.trans (hb18.mono hBXw17.size)
  have naw18 := naw17.later hb18
  have nbw18 := nbw17.later hb18
  have nsw18 := nsw17.later hb18
  have ntw18 := nt.later hb18
  go_wp2_with fail
  refine (num_ok (a) w18 (by omega) (by omega)).mono ?_
  rintro e w19 ⟨b19, p19, l19, c19, rfl, hO19, hb19⟩
  have hBXw19 := hBXw18.trans (hb19.mono hBXw18.size)
  have na := hO19.num
  go_wp2_with fail
  refine (num_ok (b) w19 (by omega) (by omega)).mono ?_
  rintro e w20 ⟨b20, p20, l20, c20, rfl, hO20, hb20⟩
  have hBXw20 := hBXw19.trans (hb20.mono hBXw19.size)
  have naw20 := na.later hb20
  have nb := hO20.num
  go_wp2_with fail
  refine (less_ok _ _ a b w20 naw20 nb (cap_small (by omega))).mono ?_
  rintro e w21 ⟨b21, p21, l21, c21, rfl, hO21, hb21⟩
  have hBXw21 := hBXw20.trans (hb21.mono hBXw20.size)
  have naw21 := naw20.later hb21
  have nbw21 := nb.later hb21
  have ns := hO21.num
  go_wp2_with fail
  refine (num_ok (a - b) w21 (by omega) (by omega)).mono ?_
  rintro e w22 ⟨b22, p22, l22, c22, rfl, hO22, hb22⟩
  have hBXw22 := hBXw21.trans (hb22.mono hBXw21.size)
  have naw22 := naw21.later hb22
  have nbw22 := nbw21.later hb22
  have nsw22 := ns.later hb22
  have nt := hO22.num
  go_wp2_with fail
  refine (equal_true _ _ (a - b) (a - b) w22 nsw22 nt rfl).mono ?_
  rintro e w23 ⟨rfl, hb23⟩
  have hBXw23 := hBXw22.trans (hb23.mono hBXw22.size)
  have naw23 := naw22.later hb23
  have nbw23 := nbw22.later hb23
  have nsw23 := nsw22.later hb23
  have ntw23 := nt.later hb23
  by_cases hb0 : b = 0
  · subst hb0
    go_wp2
    go_ret
    exact ⟨rfl, hBXw23⟩
  · have z0 := (tmod_facts hb0 (rfl : a.tmod b = a.tmod b)).1
    by_cases hz : a.tmod b = 0
    · -- no rest
      have hF : ∃ q, Floor a b q ((0 : Int)) ∧ -2147483648 ≤ q ∧ q ≤ 2147483648 ∧ -9223372036854775808 ≤ (0 : Int) ∧ (0 : Int) < 9223372036854775808 := floor_t0 hb0 hz.symm rfl a0 a1 b0 b1'
      obtain ⟨q, hF, q0, q1, _, _⟩ := hF
      have hq := quo_floor hb0 hF
      have rb : ((0 : Int)).natAbs < b.natAbs := by have h1 := hF.pos; have h2 := hF.neg; omega
      go_wp2_with fail
      refine (num_ok a w23 (by omega) (by omega)).mono ?_
      rintro e w24 ⟨b24, p24, l24, c24, rfl, hO24, hb24⟩
      have hBXw24 := hBXw23.trans (hb24.mono hBXw23.size)
      have na := hO24.num
      go_wp2_with fail
      refine (num_ok (b) w24 (by omega) (by omega)).mono ?_
      rintro e w25 ⟨b25, p25, l25, c25, rfl, hO25, hb25⟩
      have hBXw25 := hBXw24.trans (hb25.mono hBXw24.size)
      have naw25 := na.later hb25
      have nb := hO25.num
      go_wp2_with fail
      refine (DivMod_fit _ _ a b q ((0 : Int)) w25 naw25 nb hb0 hF).mono ?_
      rintro e w26 ⟨b26, p26, l26, c26, b26', p26', l26', c26', rfl, hO26, hO26', hb26⟩
      have hBXw26 := hBXw25.trans (hb26.mono hBXw25.size)
      have naw26 := naw25.later hb26
      have nbw26 := nb.later hb26
      have nq := hO26.num
      have nr := hO26'.num
      clear hO26 hO26'
      go_wp2_with fail
      obtain ⟨x, hx⟩ : ∃ x, x = (w26.alloc (.cells #[.bool b26, .slice p26 l26 c26] 24)).alloc (.cells #[.bool b26', .slice p26' l26' c26'] 24) := ⟨_, rfl⟩
      rw [← hx]
      have hbx : Below w26.heap.size w26 x := by rw [hx]; exact ((Below.refl _ _).alloc (Nat.le_refl _) _).alloc (by simp) _
      have q11 : x.heap[w26.heap.size]? = some (.cells #[.bool b26, .slice p26 l26 c26] 24) := by rw [hx]; exact alloc_old _ _ (alloc_new _ _ rfl)
      have q12 : x.heap[w26.heap.size + 1]? = some (.cells #[.bool b26', .slice p26' l26' c26'] 24) := by rw [hx]; exact alloc_new _ _ (by rw [World.size_alloc])
      have n11 := nq.later hbx
      have n12 := nr.later hbx
      have hBx := hBXw26.trans (hbx.mono hBXw26.size)
      clear hx nq nr
      refine region_kinds (n := 9) [.val (.int .i64 0), .val (.bool true), .val (.bool true), .num ((0 : Int)), .val (.int .i64 ((0 : Int))), .num (((0 : Int)) : Int), .val (.bool true), .val (.bool true), .val (.bool true), .num q, .val (.int .i64 a), .val (.int .i64 ((0 : Int))), .val (.int .i64 (a - ((0 : Int)))), .val (.int .i64 b), .val (.int .i64 q), .num (q : Int), .val (.bool true), .val (.bool true), .val (.bool true)] [(0, 117), (1, 118), (2, 119), (3, 120), (4, 121), (5, 122), (6, 123), (7, 124), (8, 125), (9, 126), (10, 127), (11, 128), (12, 129), (13, 130), (14, 131), (15, 132), (16, 133), (17, 134), (18, 4)] (by kernel_rfl) (by kernel_rfl) (by kernel_rfl) ?hstep6 ?hend6
      case hstep6 =>
        intro i o ho a' W hI hM
        match i, ho with
        | 0, ho =>
          cases ho
          refine stepK_of (wanted_none rfl) ?_
          exact opMove rfl (hM.old 13 rfl) ⟨rfl, Below.refl _ _⟩
        | 1, ho =>
          cases ho
          refine stepK_of (wanted_none rfl) ?_
          exact opEql27 rfl (hM.dep ⟨0, .data⟩ (by simp) rfl 117 rfl) rfl ⟨rfl, Below.refl _ _⟩
        | 2, ho =>
          cases ho
          refine stepK_of (wanted_none rfl) ?_
          exact opMove rfl (hM.dep ⟨1, .data⟩ (by simp) rfl 118 rfl) ⟨rfl, Below.refl _ _⟩
        | 3, ho =>
          cases ho
          refine stepK_of (wantedK hM rfl rfl (hM.dep ⟨2, .guard⟩ (by simp) rfl 119 rfl) rfl (show 119 < 135 by decide)) ?_
          exact opLoad rfl (hM.old 12 rfl) ((hI.block _ (Array.getElem?_eq_some_iff.1 q12).1).trans q12) ⟨n12.later hI, Below.refl _ _⟩
        | 4, ho =>
          cases ho
          refine stepK_of (wantedK hM rfl rfl (hM.dep ⟨2, .guard⟩ (by simp) rfl 119 rfl) rfl (show 119 < 135 by decide)) ?_
          exact opMove rfl (hM.old 10 rfl) ⟨rfl, Below.refl _ _⟩
        | 5, ho =>
          cases ho
          refine stepK_of (wantedK hM rfl rfl (hM.dep ⟨2, .chain⟩ (by simp) rfl 119 rfl) rfl (show 119 < 135 by decide)) ?_
          exact opCall1 rfl may20 (hM.dep ⟨4, .data⟩ (by simp) rfl 121 rfl) (numK (num_ok (((0 : Int))) W (by first | decide | omega) (by first | decide | omega)))
        | 6, ho =>
          cases ho
          refine stepK_of (wantedK hM rfl rfl (hM.dep ⟨2, .guard⟩ (by simp) rfl 119 rfl) rfl (show 119 < 135 by decide)) ?_
          exact opCall2 rfl may18 rfl rfl (boolK (equal_true _ _ ((0 : Int)) (((0 : Int)) : Int) W (hM.dep ⟨3, .data⟩ (by simp) rfl 120 rfl) (hM.dep ⟨5, .data⟩ (by simp) rfl 122 rfl) (rfl)))
        | 7, ho =>
          cases ho
          refine stepK_of (wanted_none rfl) ?_
          exact opPick rfl (hM.dep ⟨2, .data⟩ (by simp) rfl 119 rfl) (hM.dep ⟨6, .data⟩ (by simp) rfl 123 rfl) ⟨rfl, Below.refl _ _⟩
        | 8, ho =>
          cases ho
          refine stepK_of (wanted_none rfl) ?_
          exact opMove rfl (hM.dep ⟨7, .data⟩ (by simp) rfl 124 rfl) ⟨rfl, Below.refl _ _⟩
        | 9, ho =>
          cases ho
          refine stepK_of (wantedK hM rfl rfl (hM.dep ⟨8, .guard⟩ (by simp) rfl 125 rfl) rfl (show 125 < 135 by decide)) ?_
          exact opLoad rfl (hM.old 11 rfl) ((hI.block _ (Array.getElem?_eq_some_iff.1 q11).1).trans q11) ⟨n11.later hI, Below.refl _ _⟩
        | 10, ho =>
          cases ho
          refine stepK_of (wantedK hM rfl rfl (hM.dep ⟨8, .guard⟩ (by simp) rfl 125 rfl) rfl (show 125 < 135 by decide)) ?_
          exact opMove rfl (hM.old 8 rfl) ⟨rfl, Below.refl _ _⟩
        | 11, ho =>
          cases ho
          refine stepK_of (wantedK hM rfl rfl (hM.dep ⟨8, .guard⟩ (by simp) rfl 125 rfl) rfl (show 125 < 135 by decide)) ?_
          exact opMove rfl (hM.old 10 rfl) ⟨rfl, Below.refl _ _⟩
        | 12, ho =>
          cases ho
          refine stepK_of (wantedK hM rfl rfl (hM.dep ⟨8, .guard⟩ (by simp) rfl 125 rfl) rfl (show 125 < 135 by decide)) ?_
          exact opSub3 rfl (hM.dep ⟨10, .data⟩ (by simp) rfl 127 rfl) (hM.dep ⟨11, .data⟩ (by simp) rfl 128 rfl) (by omega) (by omega) ⟨rfl, Below.refl _ _⟩
        | 13, ho =>
          cases ho
          refine stepK_of (wantedK hM rfl rfl (hM.dep ⟨8, .guard⟩ (by simp) rfl 125 rfl) rfl (show 125 < 135 by decide)) ?_
          exact opMove rfl (hM.old 9 rfl) ⟨rfl, Below.refl _ _⟩
        | 14, ho =>
          cases ho
          refine stepK_of (wantedK hM rfl rfl (hM.dep ⟨8, .guard⟩ (by simp) rfl 125 rfl) rfl (show 125 < 135 by decide)) ?_
          exact opQuo3 rfl (hM.dep ⟨12, .data⟩ (by simp) rfl 129 rfl) (hM.dep ⟨13, .data⟩ (by simp) rfl 130 rfl) hb0 hq (by omega) (by omega) ⟨rfl, Below.refl _ _⟩
        | 15, ho =>
          cases ho
          refine stepK_of (wantedK hM rfl rfl (hM.dep ⟨8, .chain⟩ (by simp) rfl 125 rfl) rfl (show 125 < 135 by decide)) ?_
          exact opCall1 rfl may20 (hM.dep ⟨14, .data⟩ (by simp) rfl 131 rfl) (numK (num_ok (q) W (by first | decide | omega) (by first | decide | omega)))
        | 16, ho =>
          cases ho
          refine stepK_of (wantedK hM rfl rfl (hM.dep ⟨8, .guard⟩ (by simp) rfl 125 rfl) rfl (show 125 < 135 by decide)) ?_
          exact opCall2 rfl may18 rfl rfl (boolK (equal_true _ _ q (q : Int) W (hM.dep ⟨9, .data⟩ (by simp) rfl 126 rfl) (hM.dep ⟨15, .data⟩ (by simp) rfl 132 rfl) (rfl)))
        | 17, ho =>
          cases ho
          refine stepK_of (wanted_none rfl) ?_
          exact opPick rfl (hM.dep ⟨8, .data⟩ (by simp) rfl 125 rfl) (hM.dep ⟨16, .data⟩ (by simp) rfl 133 rfl) ⟨rfl, Below.refl _ _⟩
        | 18, ho =>
          cases ho
          refine stepK_of (wanted_none rfl) ?_
          exact opAssign rfl (hM.dep ⟨17, .data⟩ (by simp) rfl 134 rfl) ⟨rfl, Below.refl _ _⟩
        | k + 19, ho => simp at ho
      case hend6 =>
        intro u6 W6 hI6 hV6
        have e6_18 : u6 18 = (.bool true) := hV6 18 4 rfl
        simp only [putAll, List.foldl_cons, List.foldl_nil, List.setIfInBounds_toArray, List.set_cons_zero, List.set_cons_succ, e6_18]
        clear e6_18 hV6
        have q11_6 := (hI6.block _ (Array.getElem?_eq_some_iff.1 q11).1).trans q11
        have n11_6 := n11.later hI6
        have q12_6 := (hI6.block _ (Array.getElem?_eq_some_iff.1 q12).1).trans q12
        have n12_6 := n12.later hI6
        have hBW6 := hBx.trans (hI6.mono hBx.size)
        go_wp2
        go_ret
        exact ⟨rfl, hBW6⟩
    · have hz' : (a.tmod b != 0) = true := bne_iff_ne.2 hz
      by_cases h2 : a.tmod b < 0
      · by_cases h3 : b < 0
        · -- neg neg
          have d2 : decide (a.tmod b < 0) = true := decide_eq_true h2
          have d3 : decide (b < 0) = true := decide_eq_true h3
          have hF : ∃ q, Floor a b q (a.tmod b) ∧ -2147483648 ≤ q ∧ q ≤ 2147483648 ∧ -9223372036854775808 ≤ a.tmod b ∧ a.tmod b < 9223372036854775808 := floor_ts hb0 rfl (by rw [decide_eq_true (h2), decide_eq_true (h3)]) a0 a1 b0 b1'
          obtain ⟨q, hF, q0, q1, _, _⟩ := hF
          have hq := quo_floor hb0 hF
          have rb : (a.tmod b).natAbs < b.natAbs := by have h1 := hF.pos; have h2 := hF.neg; omega
          go_wp2_with fail
          refine (num_ok a w23 (by omega) (by omega)).mono ?_
          rintro e w27 ⟨b27, p27, l27, c27, rfl, hO27, hb27⟩
          have hBXw27 := hBXw23.trans (hb27.mono hBXw23.size)
          have na := hO27.num
          go_wp2_with fail
          refine (num_ok (b) w27 (by omega) (by omega)).mono ?_
          rintro e w28 ⟨b28, p28, l28, c28, rfl, hO28, hb28⟩
          have hBXw28 := hBXw27.trans (hb28.mono hBXw27.size)
          have naw28 := na.later hb28
          have nb := hO28.num
          go_wp2_with fail
          refine (DivMod_fit _ _ a b q (a.tmod b) w28 naw28 nb hb0 hF).mono ?_
          rintro e w29 ⟨b29, p29, l29, c29, b29', p29', l29', c29', rfl, hO29, hO29', hb29⟩
          have hBXw29 := hBXw28.trans (hb29.mono hBXw28.size)
          have naw29 := naw28.later hb29
          have nbw29 := nb.later hb29
          have nq := hO29.num
          have nr := hO29'.num
          clear hO29 hO29'
          go_wp2_with fail
          obtain ⟨x, hx⟩ : ∃ x, x = (w29.alloc (.cells #[.bool b29, .slice p29 l29 c29] 24)).alloc (.cells #[.bool b29', .slice p29' l29' c29'] 24) := ⟨_, rfl⟩
          rw [← hx]
          have hbx : Below w29.heap.size w29 x := by rw [hx]; exact ((Below.refl _ _).alloc (Nat.le_refl _) _).alloc (by simp) _
          have q11 : x.heap[w29.heap.size]? = some (.cells #[.bool b29, .slice p29 l29 c29] 24) := by rw [hx]; exact alloc_old _ _ (alloc_new _ _ rfl)
          have q12 : x.heap[w29.heap.size + 1]? = some (.cells #[.bool b29', .slice p29' l29' c29'] 24) := by rw [hx]; exact alloc_new _ _ (by rw [World.size_alloc])
          have n11 := nq.later hbx
          have n12 := nr.later hbx
          have hBx := hBXw29.trans (hbx.mono hBXw29.size)
          clear hx nq nr
          refine region_kinds (n := 9) [.val (.int .i64 0), .val (.bool true), .val (.bool true), .num (a.tmod b), .val (.int .i64 (a.tmod b)), .num ((a.tmod b) : Int), .val (.bool true), .val (.bool true), .val (.bool true), .num q, .val (.int .i64 a), .val (.int .i64 (a.tmod b)), .val (.int .i64 (a - (a.tmod b))), .val (.int .i64 b), .val (.int .i64 q), .num (q : Int), .val (.bool true), .val (.bool true), .val (.bool true)] [(0, 117), (1, 118), (2, 119), (3, 120), (4, 121), (5, 122), (6, 123), (7, 124), (8, 125), (9, 126), (10, 127), (11, 128), (12, 129), (13, 130), (14, 131), (15, 132), (16, 133), (17, 134), (18, 4)] (by kernel_rfl) (by kernel_rfl) (by kernel_rfl) ?hstep7 ?hend7
          case hstep7 =>
            intro i o ho a' W hI hM
            match i, ho with
            | 0, ho =>
              cases ho
              refine stepK_of (wanted_none rfl) ?_
              exact opMove rfl (hM.old 13 rfl) ⟨rfl, Below.refl _ _⟩
            | 1, ho =>
              cases ho
              refine stepK_of (wanted_none rfl) ?_
              exact opEql27 rfl (hM.dep ⟨0, .data⟩ (by simp) rfl 117 rfl) rfl ⟨rfl, Below.refl _ _⟩
            | 2, ho =>
              cases ho
              refine stepK_of (wanted_none rfl) ?_
              exact opMove rfl (hM.dep ⟨1, .data⟩ (by simp) rfl 118 rfl) ⟨rfl, Below.refl _ _⟩
            | 3, ho =>
              cases ho
              refine stepK_of (wantedK hM rfl rfl (hM.dep ⟨2, .guard⟩ (by simp) rfl 119 rfl) rfl (show 119 < 135 by decide)) ?_
              exact opLoad rfl (hM.old 12 rfl) ((hI.block _ (Array.getElem?_eq_some_iff.1 q12).1).trans q12) ⟨n12.later hI, Below.refl _ _⟩
            | 4, ho =>
              cases ho
              refine stepK_of (wantedK hM rfl rfl (hM.dep ⟨2, .guard⟩ (by simp) rfl 119 rfl) rfl (show 119 < 135 by decide)) ?_
              exact opMove rfl (hM.old 10 rfl) ⟨rfl, Below.refl _ _⟩
            | 5, ho =>
              cases ho
              refine stepK_of (wantedK hM rfl rfl (hM.dep ⟨2, .chain⟩ (by simp) rfl 119 rfl) rfl (show 119 < 135 by decide)) ?_
              exact opCall1 rfl may20 (hM.dep ⟨4, .data⟩ (by simp) rfl 121 rfl) (numK (num_ok ((a.tmod b)) W (by first | decide | omega) (by first | decide | omega)))
            | 6, ho =>
              cases ho
              refine stepK_of (wantedK hM rfl rfl (hM.dep ⟨2, .guard⟩ (by simp) rfl 119 rfl) rfl (show 119 < 135 by decide)) ?_
              exact opCall2 rfl may18 rfl rfl (boolK (equal_true _ _ (a.tmod b) ((a.tmod b) : Int) W (hM.dep ⟨3, .data⟩ (by simp) rfl 120 rfl) (hM.dep ⟨5, .data⟩ (by simp) rfl 122 rfl) (rfl)))
            | 7, ho =>
              cases ho
              refine stepK_of (wanted_none rfl) ?_
              exact opPick rfl (hM.dep ⟨2, .data⟩ (by simp) rfl 119 rfl) (hM.dep ⟨6, .data⟩ (by simp) rfl 123 rfl) ⟨rfl, Below.refl _ _⟩
            | 8, ho =>
              cases ho
              refine stepK_of (wanted_none rfl) ?_
              exact opMove rfl (hM.dep ⟨7, .data⟩ (by simp) rfl 124 rfl) ⟨rfl, Below.refl _ _⟩
            | 9, ho =>
              cases ho
              refine stepK_of (wantedK hM rfl rfl (hM.dep ⟨8, .guard⟩ (by simp) rfl 125 rfl) rfl (show 125 < 135 by decide)) ?_
              exact opLoad rfl (hM.old 11 rfl) ((hI.block _ (Array.getElem?_eq_some_iff.1 q11).1).trans q11) ⟨n11.later hI, Below.refl _ _⟩
            | 10, ho =>
              cases ho
              refine stepK_of (wantedK hM rfl rfl (hM.dep ⟨8, .guard⟩ (by simp) rfl 125 rfl) rfl (show 125 < 135 by decide)) ?_
              exact opMove rfl (hM.old 8 rfl) ⟨rfl, Below.refl _ _⟩
            | 11, ho =>
              cases ho
              refine stepK_of (wantedK hM rfl rfl (hM.dep ⟨8, .guard⟩ (by simp) rfl 125 rfl) rfl (show 125 < 135 by decide)) ?_
              exact opMove rfl (hM.old 10 rfl) ⟨rfl, Below.refl _ _⟩
            | 12, ho =>
              cases ho
              refine stepK_of (wantedK hM rfl rfl (hM.dep ⟨8, .guard⟩ (by simp) rfl 125 rfl) rfl (show 125 < 135 by decide)) ?_
              exact opSub3 rfl (hM.dep ⟨10, .data⟩ (by simp) rfl 127 rfl) (hM.dep ⟨11, .data⟩ (by simp) rfl 128 rfl) (by omega) (by omega) ⟨rfl, Below.refl _ _⟩
            | 13, ho =>
              cases ho
              refine stepK_of (wantedK hM rfl rfl (hM.dep ⟨8, .guard⟩ (by simp) rfl 125 rfl) rfl (show 125 < 135 by decide)) ?_
              exact opMove rfl (hM.old 9 rfl) ⟨rfl, Below.refl _ _⟩
            | 14, ho =>
              cases ho
              refine stepK_of (wantedK hM rfl rfl (hM.dep ⟨8, .guard⟩ (by simp) rfl 125 rfl) rfl (show 125 < 135 by decide)) ?_
              exact opQuo3 rfl (hM.dep ⟨12, .data⟩ (by simp) rfl 129 rfl) (hM.dep ⟨13, .data⟩ (by simp) rfl 130 rfl) hb0 hq (by omega) (by omega) ⟨rfl, Below.refl _ _⟩
            | 15, ho =>
              cases ho
              refine stepK_of (wantedK hM rfl rfl (hM.dep ⟨8, .chain⟩ (by simp) rfl 125 rfl) rfl (show 125 < 135 by decide)) ?_
              exact opCall1 rfl may20 (hM.dep ⟨14, .data⟩ (by simp) rfl 131 rfl) (numK (num_ok (q) W (by first | decide | omega) (by first | decide | omega)))
            | 16, ho =>
              cases ho
              refine stepK_of (wantedK hM rfl rfl (hM.dep ⟨8, .guard⟩ (by simp) rfl 125 rfl) rfl (show 125 < 135 by decide)) ?_
              exact opCall2 rfl may18 rfl rfl (boolK (equal_true _ _ q (q : Int) W (hM.dep ⟨9, .data⟩ (by simp) rfl 126 rfl) (hM.dep ⟨15, .data⟩ (by simp) rfl 132 rfl) (rfl)))
            | 17, ho =>
              cases ho
              refine stepK_of (wanted_none rfl) ?_
              exact opPick rfl (hM.dep ⟨8, .data⟩ (by simp) rfl 125 rfl) (hM.dep ⟨16, .data⟩ (by simp) rfl 133 rfl) ⟨rfl, Below.refl _ _⟩
            | 18, ho =>
              cases ho
              refine stepK_of (wanted_none rfl) ?_
              exact opAssign rfl (hM.dep ⟨17, .data⟩ (by simp) rfl 134 rfl) ⟨rfl, Below.refl _ _⟩
            | k + 19, ho => simp at ho
          case hend7 =>
            intro u7 W7 hI7 hV7
            have e7_18 : u7 18 = (.bool true) := hV7 18 4 rfl
            simp only [putAll, List.foldl_cons, List.foldl_nil, List.setIfInBounds_toArray, List.set_cons_zero, List.set_cons_succ, e7_18]
            clear e7_18 hV7
            have q11_7 := (hI7.block _ (Array.getElem?_eq_some_iff.1 q11).1).trans q11
            have n11_7 := n11.later hI7
            have q12_7 := (hI7.block _ (Array.getElem?_eq_some_iff.1 q12).1).trans q12
            have n12_7 := n12.later hI7
            have hBW7 := hBx.trans (hI7.mono hBx.size)
            go_wp2
            go_ret
            exact ⟨rfl, hBW7⟩
        · -- neg pos
          have d2 : decide (a.tmod b < 0) = true := decide_eq_true h2
          have d3 : decide (b < 0) = false := decide_eq_false h3
          have hF : ∃ q, Floor a b q (a.tmod b + b) ∧ -2147483648 ≤ q ∧ q ≤ 2147483648 ∧ -9223372036854775808 ≤ a.tmod b + b ∧ a.tmod b + b < 9223372036854775808 := floor_ta hb0 rfl hz (by rw [decide_eq_true h2, decide_eq_false h3]; decide) a0 a1 b0 b1'
          obtain ⟨q, hF, q0, q1, _, _⟩ := hF
          have hq := quo_floor hb0 hF
          have rb : (a.tmod b + b).natAbs < b.natAbs := by have h1 := hF.pos; have h2 := hF.neg; omega
          go_wp2_with fail
          refine (num_ok a w23 (by omega) (by omega)).mono ?_
          rintro e w30 ⟨b30, p30, l30, c30, rfl, hO30, hb30⟩
          have hBXw30 := hBXw23.trans (hb30.mono hBXw23.size)
          have na := hO30.num
          go_wp2_with fail
          refine (num_ok (b) w30 (by omega) (by omega)).mono ?_
          rintro e w31 ⟨b31, p31, l31, c31, rfl, hO31, hb31⟩
          have hBXw31 := hBXw30.trans (hb31.mono hBXw30.size)
          have naw31 := na.later hb31
          have nb := hO31.num
          go_wp2_with fail
          refine (DivMod_fit _ _ a b q (a.tmod b + b) w31 naw31 nb hb0 hF).mono ?_
          rintro e w32 ⟨b32, p32, l32, c32, b32', p32', l32', c32', rfl, hO32, hO32', hb32⟩
          have hBXw32 := hBXw31.trans (hb32.mono hBXw31.size)
          have naw32 := naw31.later hb32
          have nbw32 := nb.later hb32
          have nq := hO32.num
          have nr := hO32'.num
          clear hO32 hO32'
          go_wp2_with fail
          obtain ⟨x, hx⟩ : ∃ x, x = (w32.alloc (.cells #[.bool b32, .slice p32 l32 c32] 24)).alloc (.cells #[.bool b32', .slice p32' l32' c32'] 24) := ⟨_, rfl⟩
          rw [← hx]
          have hbx : Below w32.heap.size w32 x := by rw [hx]; exact ((Below.refl _ _).alloc (Nat.le_refl _) _).alloc (by simp) _
          have q11 : x.heap[w32.heap.size]? = some (.cells #[.bool b32, .slice p32 l32 c32] 24) := by rw [hx]; exact alloc_old _ _ (alloc_new _ _ rfl)
          have q12 : x.heap[w32.heap.size + 1]? = some (.cells #[.bool b32', .slice p32' l32' c32'] 24) := by rw [hx]; exact alloc_new _ _ (by rw [World.size_alloc])
          have n11 := nq.later hbx
          have n12 := nr.later hbx
          have hBx := hBXw32.trans (hbx.mono hBXw32.size)
          clear hx nq nr
          refine region_kinds (n := 9) [.val (.int .i64 0), .val (.bool true), .val (.bool true), .num (a.tmod b + b), .val (.int .i64 (a.tmod b + b)), .num ((a.tmod b + b) : Int), .val (.bool true), .val (.bool true), .val (.bool true), .num q, .val (.int .i64 a), .val (.int .i64 (a.tmod b + b)), .val (.int .i64 (a - (a.tmod b + b))), .val (.int .i64 b), .val (.int .i64 q), .num (q : Int), .val (.bool true), .val (.bool true), .val (.bool true)] [(0, 117), (1, 118), (2, 119), (3, 120), (4, 121), (5, 122), (6, 123), (7, 124), (8, 125), (9, 126), (10, 127), (11, 128), (12, 129), (13, 130), (14, 131), (15, 132), (16, 133), (17, 134), (18, 4)] (by kernel_rfl) (by kernel_rfl) (by kernel_rfl) ?hstep8 ?hend8
          case hstep8 =>
            intro i o ho a' W hI hM
            match i, ho with
            | 0, ho =>
              cases ho
              refine stepK_of (wanted_none rfl) ?_
              exact opMove rfl (hM.old 13 rfl) ⟨rfl, Below.refl _ _⟩
            | 1, ho =>
              cases ho
              refine stepK_of (wanted_none rfl) ?_
              exact opEql27 rfl (hM.dep ⟨0, .data⟩ (by simp) rfl 117 rfl) rfl ⟨rfl, Below.refl _ _⟩
            | 2, ho =>
              cases ho
              refine stepK_of (wanted_none rfl) ?_
              exact opMove rfl (hM.dep ⟨1, .data⟩ (by simp) rfl 118 rfl) ⟨rfl, Below.refl _ _⟩
            | 3, ho =>
              cases ho
              refine stepK_of (wantedK hM rfl rfl (hM.dep ⟨2, .guard⟩ (by simp) rfl 119 rfl) rfl (show 119 < 135 by decide)) ?_
              exact opLoad rfl (hM.old 12 rfl) ((hI.block _ (Array.getElem?_eq_some_iff.1 q12).1).trans q12) ⟨n12.later hI, Below.refl _ _⟩
            | 4, ho =>
              cases ho
              refine stepK_of (wantedK hM rfl rfl (hM.dep ⟨2, .guard⟩ (by simp) rfl 119 rfl) rfl (show 119 < 135 by decide)) ?_
              exact opMove rfl (hM.old 10 rfl) ⟨rfl, Below.refl _ _⟩
            | 5, ho =>
              cases ho
              refine stepK_of (wantedK hM rfl rfl (hM.dep ⟨2, .chain⟩ (by simp) rfl 119 rfl) rfl (show 119 < 135 by decide)) ?_
              exact opCall1 rfl may20 (hM.dep ⟨4, .data⟩ (by simp) rfl 121 rfl) (numK (num_ok ((a.tmod b + b)) W (by first | decide | omega) (by first | decide | omega)))
            | 6, ho =>
              cases ho
              refine stepK_of (wantedK hM rfl rfl (hM.dep ⟨2, .guard⟩ (by simp) rfl 119 rfl) rfl (show 119 < 135 by decide)) ?_
              exact opCall2 rfl may18 rfl rfl (boolK (equal_true _ _ (a.tmod b + b) ((a.tmod b + b) : Int) W (hM.dep ⟨3, .data⟩ (by simp) rfl 120 rfl) (hM.dep ⟨5, .data⟩ (by simp) rfl 122 rfl) (rfl)))
            | 7, ho =>
              cases ho
              refine stepK_of (wanted_none rfl) ?_
              exact opPick rfl (hM.dep ⟨2, .data⟩ (by simp) rfl 119 rfl) (hM.dep ⟨6, .data⟩ (by simp) rfl 123 rfl) ⟨rfl, Below.refl _ _⟩
            | 8, ho =>
              cases ho
              refine stepK_of (wanted_none rfl) ?_
              exact opMove rfl (hM.dep ⟨7, .data⟩ (by simp) rfl 124 rfl) ⟨rfl, Below.refl _ _⟩
            | 9, ho =>
              cases ho
              refine stepK_of (wantedK hM rfl rfl (hM.dep ⟨8, .guard⟩ (by simp) rfl 125 rfl) rfl (show 125 < 135 by decide)) ?_
              exact opLoad rfl (hM.old 11 rfl) ((hI.block _ (Array.getElem?_eq_some_iff.1 q11).1).trans q11) ⟨n11.later hI, Below.refl _ _⟩
            | 10, ho =>
              cases ho
              refine stepK_of (wantedK hM rfl rfl (hM.dep ⟨8, .guard⟩ (by simp) rfl 125 rfl) rfl (show 125 < 135 by decide)) ?_
              exact opMove rfl (hM.old 8 rfl) ⟨rfl, Below.refl _ _⟩
            | 11, ho =>
              cases ho
              refine stepK_of (wantedK hM rfl rfl (hM.dep ⟨8, .guard⟩ (by simp) rfl 125 rfl) rfl (show 125 < 135 by decide)) ?_
              exact opMove rfl (hM.old 10 rfl) ⟨rfl, Below.refl _ _⟩
            | 12, ho =>
              cases ho
              refine stepK_of (wantedK hM rfl rfl (hM.dep ⟨8, .guard⟩ (by simp) rfl 125 rfl) rfl (show 125 < 135 by decide)) ?_
              exact opSub3 rfl (hM.dep ⟨10, .data⟩ (by simp) rfl 127 rfl) (hM.dep ⟨11, .data⟩ (by simp) rfl 128 rfl) (by omega) (by omega) ⟨rfl, Below.refl _ _⟩
            | 13, ho =>
              cases ho
              refine stepK_of (wantedK hM rfl rfl (hM.dep ⟨8, .guard⟩ (by simp) rfl 125 rfl) rfl (show 125 < 135 by decide)) ?_
              exact opMove rfl (hM.old 9 rfl) ⟨rfl, Below.refl _ _⟩
            | 14, ho =>
              cases ho
              refine stepK_of (wantedK hM rfl rfl (hM.dep ⟨8, .guard⟩ (by simp) rfl 125 rfl) rfl (show 125 < 135 by decide)) ?_
              exact opQuo3 rfl (hM.dep ⟨12, .data⟩ (by simp) rfl 129 rfl) (hM.dep ⟨13, .data⟩ (by simp) rfl 130 rfl) hb0 hq (by omega) (by omega) ⟨rfl, Below.refl _ _⟩
            | 15, ho =>
              cases ho
              refine stepK_of (wantedK hM rfl rfl (hM.dep ⟨8, .chain⟩ (by simp) rfl 125 rfl) rfl (show 125 < 135 by decide)) ?_
              exact opCall1 rfl may20 (hM.dep ⟨14, .data⟩ (by simp) rfl 131 rfl) (numK (num_ok (q) W (by first | decide | omega) (by first | decide | omega)))
            | 16, ho =>
              cases ho
              refine stepK_of (wantedK hM rfl rfl (hM.dep ⟨8, .guard⟩ (by simp) rfl 125 rfl) rfl (show 125 < 135 by decide)) ?_
              exact opCall2 rfl may18 rfl rfl (boolK (equal_true _ _ q (q : Int) W (hM.dep ⟨9, .data⟩ (by simp) rfl 126 rfl) (hM.dep ⟨15, .data⟩ (by simp) rfl 132 rfl) (rfl)))
            | 17, ho =>
              cases ho
              refine stepK_of (wanted_none rfl) ?_
              exact opPick rfl (hM.dep ⟨8, .data⟩ (by simp) rfl 125 rfl) (hM.dep ⟨16, .data⟩ (by simp) rfl 133 rfl) ⟨rfl, Below.refl _ _⟩
            | 18, ho =>
              cases ho
              refine stepK_of (wanted_none rfl) ?_
              exact opAssign rfl (hM.dep ⟨17, .data⟩ (by simp) rfl 134 rfl) ⟨rfl, Below.refl _ _⟩
            | k + 19, ho => simp at ho
          case hend8 =>
            intro u8 W8 hI8 hV8
            have e8_18 : u8 18 = (.bool true) := hV8 18 4 rfl
            simp only [putAll, List.foldl_cons, List.foldl_nil, List.setIfInBounds_toArray, List.set_cons_zero, List.set_cons_succ, e8_18]
            clear e8_18 hV8
            have q11_8 := (hI8.block _ (Array.getElem?_eq_some_iff.1 q11).1).trans q11
            have n11_8 := n11.later hI8
            have q12_8 := (hI8.block _ (Array.getElem?_eq_some_iff.1 q12).1).trans q12
            have n12_8 := n12.later hI8
            have hBW8 := hBx.trans (hI8.mono hBx.size)
            go_wp2
            go_ret
            exact ⟨rfl, hBW8⟩
      · by_cases h3 : b < 0
        · -- pos neg
          have d2 : decide (a.tmod b < 0) = false := decide_eq_false h2
          have d3 : decide (b < 0) = true := decide_eq_true h3
          have hF : ∃ q, Floor a b q (a.tmod b + b) ∧ -2147483648 ≤ q ∧ q ≤ 2147483648 ∧ -9223372036854775808 ≤ a.tmod b + b ∧ a.tmod b + b < 9223372036854775808 := floor_ta hb0 rfl hz (by rw [decide_eq_false h2, decide_eq_true h3]; decide) a0 a1 b0 b1'
          obtain ⟨q, hF, q0, q1, _, _⟩ := hF
          have hq := quo_floor hb0 hF
          have rb : (a.tmod b + b).natAbs < b.natAbs := by have h1 := hF.pos; have h2 := hF.neg; omega
          go_wp2_with fail
          refine (num_ok a w23 (by omega) (by omega)).mono ?_
          rintro e w33 ⟨b33, p33, l33, c33, rfl, hO33, hb33⟩
          have hBXw33 := hBXw23.trans (hb33.mono hBXw23.size)
          have na := hO33.num
          go_wp2_with fail
          refine (num_ok (b) w33 (by omega) (by omega)).mono ?_
          rintro e w34 ⟨b34, p34, l34, c34, rfl, hO34, hb34⟩
          have hBXw34 := hBXw33.trans (hb34.mono hBXw33.size)
          have naw34 := na.later hb34
          have nb := hO34.num
          go_wp2_with fail
          refine (DivMod_fit _ _ a b q (a.tmod b + b) w34 naw34 nb hb0 hF).mono ?_
          rintro e w35 ⟨b35, p35, l35, c35, b35', p35', l35', c35', rfl, hO35, hO35', hb35⟩
          have hBXw35 := hBXw34.trans (hb35.mono hBXw34.size)
          have naw35 := naw34.later hb35
          have nbw35 := nb.later hb35
          have nq := hO35.num
          have nr := hO35'.num
          clear hO35 hO35'
          go_wp2_with fail
          obtain ⟨x, hx⟩ : ∃ x, x = (w35.alloc (.cells #[.bool b35, .slice p35 l35 c35] 24)).alloc (.cells #[.bool b35', .slice p35' l35' c35'] 24) := ⟨_, rfl⟩
          rw [← hx]
          have hbx : Below w35.heap.size w35 x := by rw [hx]; exact ((Below.refl _ _).alloc (Nat.le_refl _) _).alloc (by simp) _
          have q11 : x.heap[w35.heap.size]? = some (.cells #[.bool b35, .slice p35 l35 c35] 24) := by rw [hx]; exact alloc_old _ _ (alloc_new _ _ rfl)
          have q12 : x.heap[w35.heap.size + 1]? = some (.cells #[.bool b35', .slice p35' l35' c35'] 24) := by rw [hx]; exact alloc_new _ _ (by rw [World.size_alloc])
          have n11 := nq.later hbx
          have n12 := nr.later hbx
          have hBx := hBXw35.trans (hbx.mono hBXw35.size)
          clear hx nq nr
          refine region_kinds (n := 9) [.val (.int .i64 0), .val (.bool true), .val (.bool true), .num (a.tmod b + b), .val (.int .i64 (a.tmod b + b)), .num ((a.tmod b + b) : Int), .val (.bool true), .val (.bool true), .val (.bool true), .num q, .val (.int .i64 a), .val (.int .i64 (a.tmod b + b)), .val (.int .i64 (a - (a.tmod b + b))), .val (.int .i64 b), .val (.int .i64 q), .num (q : Int), .val (.bool true), .val (.bool true), .val (.bool true)] [(0, 117), (1, 118), (2, 119), (3, 120), (4, 121), (5, 122), (6, 123), (7, 124), (8, 125), (9, 126), (10, 127), (11, 128), (12, 129), (13, 130), (14, 131), (15, 132), (16, 133), (17, 134), (18, 4)] (by kernel_rfl) (by kernel_rfl) (by kernel_rfl) ?hstep9 ?hend9
          case hstep9 =>
            intro i o ho a' W hI hM
            match i, ho with
            | 0, ho =>
              cases ho
              refine stepK_of (wanted_none rfl) ?_
              exact opMove rfl (hM.old 13 rfl) ⟨rfl, Below.refl _ _⟩
            | 1, ho =>
              cases ho
              refine stepK_of (wanted_none rfl) ?_
              exact opEql27 rfl (hM.dep ⟨0, .data⟩ (by simp) rfl 117 rfl) rfl ⟨rfl, Below.refl _ _⟩
            | 2, ho =>
              cases ho
              refine stepK_of (wanted_none rfl) ?_
              exact opMove rfl (hM.dep ⟨1, .data⟩ (by simp) rfl 118 rfl) ⟨rfl, Below.refl _ _⟩
            | 3, ho =>
              cases ho
              refine stepK_of (wantedK hM rfl rfl (hM.dep ⟨2, .guard⟩ (by simp) rfl 119 rfl) rfl (show 119 < 135 by decide)) ?_
              exact opLoad rfl (hM.old 12 rfl) ((hI.block _ (Array.getElem?_eq_some_iff.1 q12).1).trans q12) ⟨n12.later hI, Below.refl _ _⟩
            | 4, ho =>
              cases ho
              refine stepK_of (wantedK hM rfl rfl (hM.dep ⟨2, .guard⟩ (by simp) rfl 119 rfl) rfl (show 119 < 135 by decide)) ?_
              exact opMove rfl (hM.old 10 rfl) ⟨rfl, Below.refl _ _⟩
            | 5, ho =>
              cases ho
              refine stepK_of (wantedK hM rfl rfl (hM.dep ⟨2, .chain⟩ (by simp) rfl 119 rfl) rfl (show 119 < 135 by decide)) ?_
              exact opCall1 rfl may20 (hM.dep ⟨4, .data⟩ (by simp) rfl 121 rfl) (numK (num_ok ((a.tmod b + b)) W (by first | decide | omega) (by first | decide | omega)))
            | 6, ho =>
              cases ho
              refine stepK_of (wantedK hM rfl rfl (hM.dep ⟨2, .guard⟩ (by simp) rfl 119 rfl) rfl (show 119 < 135 by decide)) ?_
              exact opCall2 rfl may18 rfl rfl (boolK (equal_true _ _ (a.tmod b + b) ((a.tmod b + b) : Int) W (hM.dep ⟨3, .data⟩ (by simp) rfl 120 rfl) (hM.dep ⟨5, .data⟩ (by simp) rfl 122 rfl) (rfl)))
            | 7, ho =>
              cases ho
              refine stepK_of (wanted_none rfl) ?_
              exact opPick rfl (hM.dep ⟨2, .data⟩ (by simp) rfl 119 rfl) (hM.dep ⟨6, .data⟩ (by simp) rfl 123 rfl) ⟨rfl, Below.refl _ _⟩
            | 8, ho =>
              cases ho
              refine stepK_of (wanted_none rfl) ?_
              exact opMove rfl (hM.dep ⟨7, .data⟩ (by simp) rfl 124 rfl) ⟨rfl, Below.refl _ _⟩
            | 9, ho =>
              cases ho
              refine stepK_of (wantedK hM rfl rfl (hM.dep ⟨8, .guard⟩ (by simp) rfl 125 rfl) rfl (show 125 < 135 by decide)) ?_
              exact opLoad rfl (hM.old 11 rfl) ((hI.block _ (Array.getElem?_eq_some_iff.1 q11).1).trans q11) ⟨n11.later hI, Below.refl _ _⟩
            | 10, ho =>
              cases ho
              refine stepK_of (wantedK hM rfl rfl (hM.dep ⟨8, .guard⟩ (by simp) rfl 125 rfl) rfl (show 125 < 135 by decide)) ?_
              exact opMove rfl (hM.old 8 rfl) ⟨rfl, Below.refl _ _⟩
            | 11, ho =>
              cases ho
              refine stepK_of (wantedK hM rfl rfl (hM.dep ⟨8, .guard⟩ (by simp) rfl 125 rfl) rfl (show 125 < 135 by decide)) ?_
              exact opMove rfl (hM.old 10 rfl) ⟨rfl, Below.refl _ _⟩
            | 12, ho =>
              cases ho
              refine stepK_of (wantedK hM rfl rfl (hM.dep ⟨8, .guard⟩ (by simp) rfl 125 rfl) rfl (show 125 < 135 by decide)) ?_
              exact opSub3 rfl (hM.dep ⟨10, .data⟩ (by simp) rfl 127 rfl) (hM.dep ⟨11, .data⟩ (by simp) rfl 128 rfl) (by omega) (by omega) ⟨rfl, Below.refl _ _⟩
            | 13, ho =>
              cases ho
              refine stepK_of (wantedK hM rfl rfl (hM.dep ⟨8, .guard⟩ (by simp) rfl 125 rfl) rfl (show 125 < 135 by decide)) ?_
              exact opMove rfl (hM.old 9 rfl) ⟨rfl, Below.refl _ _⟩
            | 14, ho =>
              cases ho
              refine stepK_of (wantedK hM rfl rfl (hM.dep ⟨8, .guard⟩ (by simp) rfl 125 rfl) rfl (show 125 < 135 by decide)) ?_
              exact opQuo3 rfl (hM.dep ⟨12, .data⟩ (by simp) rfl 129 rfl) (hM.dep ⟨13, .data⟩ (by simp) rfl 130 rfl) hb0 hq (by omega) (by omega) ⟨rfl, Below.refl _ _⟩
            | 15, ho =>
              cases ho
              refine stepK_of (wantedK hM rfl rfl (hM.dep ⟨8, .chain⟩ (by simp) rfl 125 rfl) rfl (show 125 < 135 by decide)) ?_
              exact opCall1 rfl may20 (hM.dep ⟨14, .data⟩ (by simp) rfl 131 rfl) (numK (num_ok (q) W (by first | decide | omega) (by first | decide | omega)))
            | 16, ho =>
              cases ho
              refine stepK_of (wantedK hM rfl rfl (hM.dep ⟨8, .guard⟩ (by simp) rfl 125 rfl) rfl (show 125 < 135 by decide)) ?_
              exact opCall2 rfl may18 rfl rfl (boolK (equal_true _ _ q (q : Int) W (hM.dep ⟨9, .data⟩ (by simp) rfl 126 rfl) (hM.dep ⟨15, .data⟩ (by simp) rfl 132 rfl) (rfl)))
            | 17, ho =>
              cases ho
              refine stepK_of (wanted_none rfl) ?_
              exact opPick rfl (hM.dep ⟨8, .data⟩ (by simp) rfl 125 rfl) (hM.dep ⟨16, .data⟩ (by simp) rfl 133 rfl) ⟨rfl, Below.refl _ _⟩
            | 18, ho =>
              cases ho
              refine stepK_of (wanted_none rfl) ?_
              exact opAssign rfl (hM.dep ⟨17, .data⟩ (by simp) rfl 134 rfl) ⟨rfl, Below.refl _ _⟩
            | k + 19, ho => simp at ho
          case hend9 =>
            intro u9 W9 hI9 hV9
            have e9_18 : u9 18 = (.bool true) := hV9 18 4 rfl
            simp only [putAll, List.foldl_cons, List.foldl_nil, List.setIfInBounds_toArray, List.set_cons_zero, List.set_cons_succ, e9_18]
            clear e9_18 hV9
            have q11_9 := (hI9.block _ (Array.getElem?_eq_some_iff.1 q11).1).trans q11
            have n11_9 := n11.later hI9
            have q12_9 := (hI9.block _ (Array.getElem?_eq_some_iff.1 q12).1).trans q12
            have n12_9 := n12.later hI9
            have hBW9 := hBx.trans (hI9.mono hBx.size)
            go_wp2
            go_ret
            exact ⟨rfl, hBW9⟩
        · -- pos pos
          have d2 : decide (a.tmod b < 0) = false := decide_eq_false h2
          have d3 : decide (b < 0) = false := decide_eq_false h3
          have hF : ∃ q, Floor a b q (a.tmod b) ∧ -2147483648 ≤ q ∧ q ≤ 2147483648 ∧ -9223372036854775808 ≤ a.tmod b ∧ a.tmod b < 9223372036854775808 := floor_ts hb0 rfl (by rw [decide_eq_false (h2), decide_eq_false (h3)]) a0 a1 b0 b1'
          obtain ⟨q, hF, q0, q1, _, _⟩ := hF
          have hq := quo_floor hb0 hF
          have rb : (a.tmod b).natAbs < b.natAbs := by have h1 := hF.pos; have h2 := hF.neg; omega
          go_wp2_with fail
          refine (num_ok a w23 (by omega) (by omega)).mono ?_
          rintro e w36 ⟨b36, p36, l36, c36, rfl, hO36, hb36⟩
          have hBXw36 := hBXw23.trans (hb36.mono hBXw23.size)
          have na := hO36.num
          go_wp2_with fail
          refine (num_ok (b) w36 (by omega) (by omega)).mono ?_
          rintro e w37 ⟨b37, p37, l37, c37, rfl, hO37, hb37⟩
          have hBXw37 := hBXw36.trans (hb37.mono hBXw36.size)
          have naw37 := na.later hb37
          have nb := hO37.num
          go_wp2_with fail
          refine (DivMod_fit _ _ a b q (a.tmod b) w37 naw37 nb hb0 hF).mono ?_
          rintro e w38 ⟨b38, p38, l38, c38, b38', p38', l38', c38', rfl, hO38, hO38', hb38⟩
          have hBXw38 := hBXw37.trans (hb38.mono hBXw37.size)
          have naw38 := naw37.later hb38
          have nbw38 := nb.later hb38
          have nq := hO38.num
          have nr := hO38'.num
          clear hO38 hO38'
          go_wp2_with fail
          obtain ⟨x, hx⟩ : ∃ x, x = (w38.alloc (.cells #[.bool b38, .slice p38 l38 c38] 24)).alloc (.cells #[.bool b38', .slice p38' l38' c38'] 24) := ⟨_, rfl⟩
          rw [← hx]
          have hbx : Below w38.heap.size w38 x := by rw [hx]; exact ((Below.refl _ _).alloc (Nat.le_refl _) _).alloc (by simp) _
          have q11 : x.heap[w38.heap.size]? = some (.cells #[.bool b38, .slice p38 l38 c38] 24) := by rw [hx]; exact alloc_old _ _ (alloc_new _ _ rfl)
          have q12 : x.heap[w38.heap.size + 1]? = some (.cells #[.bool b38', .slice p38' l38' c38'] 24) := by rw [hx]; exact alloc_new _ _ (by rw [World.size_alloc])
          have n11 := nq.later hbx
          have n12 := nr.later hbx
          have hBx := hBXw38.trans (hbx.mono hBXw38.size)
          clear hx nq nr
          refine region_kinds (n := 9) [.val (.int .i64 0), .val (.bool true), .val (.bool true), .num (a.tmod b), .val (.int .i64 (a.tmod b)), .num ((a.tmod b) : Int), .val (.bool true), .val (.bool true), .val (.bool true), .num q, .val (.int .i64 a), .val (.int .i64 (a.tmod b)), .val (.int .i64 (a - (a.tmod b))), .val (.int .i64 b), .val (.int .i64 q), .num (q : Int), .val (.bool true), .val (.bool true), .val (.bool true)] [(0, 117), (1, 118), (2, 119), (3, 120), (4, 121), (5, 122), (6, 123), (7, 124), (8, 125), (9, 126), (10, 127), (11, 128), (12, 129), (13, 130), (14, 131), (15, 132), (16, 133), (17, 134), (18, 4)] (by kernel_rfl) (by kernel_rfl) (by kernel_rfl) ?hstep10 ?hend10
          case hstep10 =>
            intro i o ho a' W hI hM
            match i, ho with
            | 0, ho =>
              cases ho
              refine stepK_of (wanted_none rfl) ?_
              exact opMove rfl (hM.old 13 rfl) ⟨rfl, Below.refl _ _⟩
            | 1, ho =>
              cases ho
              refine stepK_of (wanted_none rfl) ?_
              exact opEql27 rfl (hM.dep ⟨0, .data⟩ (by simp) rfl 117 rfl) rfl ⟨rfl, Below.refl _ _⟩
            | 2, ho =>
              cases ho
              refine stepK_of (wanted_none rfl) ?_
              exact opMove rfl (hM.dep ⟨1, .data⟩ (by simp) rfl 118 rfl) ⟨rfl, Below.refl _ _⟩
            | 3, ho =>
              cases ho
              refine stepK_of (wantedK hM rfl rfl (hM.dep ⟨2, .guard⟩ (by simp) rfl 119 rfl) rfl (show 119 < 135 by decide)) ?_
              exact opLoad rfl (hM.old 12 rfl) ((hI.block _ (Array.getElem?_eq_some_iff.1 q12).1).trans q12) ⟨n12.later hI, Below.refl _ _⟩
            | 4, ho =>
              cases ho
              refine stepK_of (wantedK hM rfl rfl (hM.dep ⟨2, .guard⟩ (by simp) rfl 119 rfl) rfl (show 119 < 135 by decide)) ?_
              exact opMove rfl (hM.old 10 rfl) ⟨rfl, Below.refl _ _⟩
            | 5, ho =>
              cases ho
              refine stepK_of (wantedK hM rfl rfl (hM.dep ⟨2, .chain⟩ (by simp) rfl 119 rfl) rfl (show 119 < 135 by decide)) ?_
              exact opCall1 rfl may20 (hM.dep ⟨4, .data⟩ (by simp) rfl 121 rfl) (numK (num_ok ((a.tmod b)) W (by first | decide | omega) (by first | decide | omega)))
            | 6, ho =>
              cases ho
              refine stepK_of (wantedK hM rfl rfl (hM.dep ⟨2, .guard⟩ (by simp) rfl 119 rfl) rfl (show 119 < 135 by decide)) ?_
              exact opCall2 rfl may18 rfl rfl (boolK (equal_true _ _ (a.tmod b) ((a.tmod b) : Int) W (hM.dep ⟨3, .data⟩ (by simp) rfl 120 rfl) (hM.dep ⟨5, .data⟩ (by simp) rfl 122 rfl) (rfl)))
            | 7, ho =>
              cases ho
              refine stepK_of (wanted_none rfl) ?_
              exact opPick rfl (hM.dep ⟨2, .data⟩ (by simp) rfl 119 rfl) (hM.dep ⟨6, .data⟩ (by simp) rfl 123 rfl) ⟨rfl, Below.refl _ _⟩
            | 8, ho =>
              cases ho
              refine stepK_of (wanted_none rfl) ?_
              exact opMove rfl (hM.dep ⟨7, .data⟩ (by simp) rfl 124 rfl) ⟨rfl, Below.refl _ _⟩
            | 9, ho =>
              cases ho
              refine stepK_of (wantedK hM rfl rfl (hM.dep ⟨8, .guard⟩ (by simp) rfl 125 rfl) rfl (show 125 < 135 by decide)) ?_
              exact opLoad rfl (hM.old 11 rfl) ((hI.block _ (Array.getElem?_eq_some_iff.1 q11).1).trans q11) ⟨n11.later hI, Below.refl _ _⟩
            | 10, ho =>
              cases ho
              refine stepK_of (wantedK hM rfl rfl (hM.dep ⟨8, .guard⟩ (by simp) rfl 125 rfl) rfl (show 125 < 135 by decide)) ?_
              exact opMove rfl (hM.old 8 rfl) ⟨rfl, Below.refl _ _⟩
            | 11, ho =>
              cases ho
              refine stepK_of (wantedK hM rfl rfl (hM.dep ⟨8, .guard⟩ (by simp) rfl 125 rfl) rfl (show 125 < 135 by decide)) ?_
              exact opMove rfl (hM.old 10 rfl) ⟨rfl, Below.refl _ _⟩
            | 12, ho =>
              cases ho
              refine stepK_of (wantedK hM rfl rfl (hM.dep ⟨8, .guard⟩ (by simp) rfl 125 rfl) rfl (show 125 < 135 by decide)) ?_
              exact opSub3 rfl (hM.dep ⟨10, .data⟩ (by simp) rfl 127 rfl) (hM.dep ⟨11, .data⟩ (by simp) rfl 128 rfl) (by omega) (by omega) ⟨rfl, Below.refl _ _⟩
            | 13, ho =>
              cases ho
              refine stepK_of (wantedK hM rfl rfl (hM.dep ⟨8, .guard⟩ (by simp) rfl 125 rfl) rfl (show 125 < 135 by decide)) ?_
              exact opMove rfl (hM.old 9 rfl) ⟨rfl, Below.refl _ _⟩
            | 14, ho =>
              cases ho
              refine stepK_of (wantedK hM rfl rfl (hM.dep ⟨8, .guard⟩ (by simp) rfl 125 rfl) rfl (show 125 < 135 by decide)) ?_
              exact opQuo3 rfl (hM.dep ⟨12, .data⟩ (by simp) rfl 129 rfl) (hM.dep ⟨13, .data⟩ (by simp) rfl 130 rfl) hb0 hq (by omega) (by omega) ⟨rfl, Below.refl _ _⟩
            | 15, ho =>
              cases ho
              refine stepK_of (wantedK hM rfl rfl (hM.dep ⟨8, .chain⟩ (by simp) rfl 125 rfl) rfl (show 125 < 135 by decide)) ?_
              exact opCall1 rfl may20 (hM.dep ⟨14, .data⟩ (by simp) rfl 131 rfl) (numK (num_ok (q) W (by first | decide | omega) (by first | decide | omega)))
            | 16, ho =>
              cases ho
              refine stepK_of (wantedK hM rfl rfl (hM.dep ⟨8, .guard⟩ (by simp) rfl 125 rfl) rfl (show 125 < 135 by decide)) ?_
              exact opCall2 rfl may18 rfl rfl (boolK (equal_true _ _ q (q : Int) W (hM.dep ⟨9, .data⟩ (by simp) rfl 126 rfl) (hM.dep ⟨15, .data⟩ (by simp) rfl 132 rfl) (rfl)))
            | 17, ho =>
              cases ho
              refine stepK_of (wanted_none rfl) ?_
              exact opPick rfl (hM.dep ⟨8, .data⟩ (by simp) rfl 125 rfl) (hM.dep ⟨16, .data⟩ (by simp) rfl 133 rfl) ⟨rfl, Below.refl _ _⟩
            | 18, ho =>
              cases ho
              refine stepK_of (wanted_none rfl) ?_
              exact opAssign rfl (hM.dep ⟨17, .data⟩ (by simp) rfl 134 rfl) ⟨rfl, Below.refl _ _⟩
            | k + 19, ho => simp at ho
          case hend10 =>
            intro u10 W10 hI10 hV10
            have e10_18 : u10 18 = (.bool true) := hV10 18 4 rfl
            simp only [putAll, List.foldl_cons, List.foldl_nil, List.setIfInBounds_toArray, List.set_cons_zero, List.set_cons_succ, e10_18]
            clear e10_18 hV10
            have q11_10 := (hI10.block _ (Array.getElem?_eq_some_iff.1 q11).1).trans q11
            have n11_10 := n11.later hI10
            have q12_10 := (hI10.block _ (Array.getElem?_eq_some_iff.1 q12).1).trans q12
            have n12_10 := n12.later hI10
            have hBW10 := hBx.trans (hI10.mono hBx.size)
            go_wp2
            go_ret
            exact ⟨rfl, hBW10⟩
set_option maxRecDepth 100000 in
set_option maxHeartbeats 4000000 in
theorem Ints_eq (A B : Int) (w : World) (hA0 : -9223372036854775808 ≤ A) (hA1 : A < 9223372036854775808) (hB0' : -9223372036854775808 ≤ B) (hB1 : B < 9223372036854775808) (hAB : ¬ A < B) (hBA : ¬ B < A) (htab : Tab w) : Calls Tryd.prog 10 #[.int .i64 A, .int .i64 B] w (BoolP true w) := by
  have hB0 := Below.refl w.heap.size w
  have hc : cmpI A B = 0 := by unfold cmpI; rw [if_neg hAB, if_pos (by omega)]
  have HC := Lib.hid hc
  clear hc
  have haw := awake_ok w htab
  go_enter Tryd.func10, Tryd.ntmps10
  go_wp2_with fail
  refine (haw).mono ?_
  rintro e w1 ⟨rfl, hb1⟩
  have hBXw1 := hB0.trans (hb1.mono hB0.size)
  clear haw
  go_wp2_with fail
  refine (num_ok (A) w1 (by omega) (by omega)).mono ?_
  rintro e w2 ⟨b2, p2, l2, c2, rfl, hO2, hb2⟩
  have hBXw2 := hBXw1.trans (hb2.mono hBXw1.size)
  have na := hO2.num
  go_wp2_with fail
  refine (Int_ok _ A w2 na).mono ?_
  rintro e w3 ⟨k3, er3, rfl, hk3, hb3⟩
  obtain ⟨rfl, rfl⟩ : k3 = A ∧ er3 = 0 := by omega
  have hBXw3 := hBXw2.trans (hb3.mono hBXw2.size)
  have naw3 := na.later hb3
  go_wp2_with fail
  refine (num_ok (k3) w3 (by omega) (by omega)).mono ?_
  rintro e w4 ⟨b4, p4, l4, c4, rfl, hO4, hb4⟩
  have hBXw4 := hBXw3.trans (hb4.mono hBXw3.size)
  have na := hO4.num
  go_wp2_with fail
  refine (Valid_num _ k3 w4 na).mono ?_
  rintro e w5 ⟨rfl, hb5⟩
  have hBXw5 := hBXw4.trans (hb5.mono hBXw4.size)
  have naw5 := na.later hb5
  go_wp2_with fail
  refine (num_ok (k3) w5 (by omega) (by omega)).mono ?_
  rintro e w6 ⟨b6, p6, l6, c6, rfl, hO6, hb6⟩
  have hBXw6 := hBXw5.trans (hb6.mono hBXw5.size)
  have na := hO6.num
  go_wp2_with fail
  refine (num_ok (B) w6 (by omega) (by omega)).mono ?_
  rintro e w7 ⟨b7, p7, l7, c7, rfl, hO7, hb7⟩
  have hBXw7 := hBXw6.trans (hb7.mono hBXw6.size)
  have naw7 := na.later hb7
  have nb := hO7.num
  go_wp2_with fail
  refine (Cmp_ok _ _ k3 B w7 naw7 nb).mono ?_
  rintro e w8 ⟨rfl, hb8⟩
  rw [HC.out]
  have hBXw8 := hBXw7.trans (hb8.mono hBXw7.size)
  have naw8 := naw7.later hb8
  have nbw8 := nb.later hb8
  obtain ⟨a, ha⟩ : ∃ a, a = k3.tmod 2147483648 := ⟨_, rfl⟩
  obtain ⟨b, hb⟩ : ∃ b, b = B.tmod 2147483648 := ⟨_, rfl⟩
  have a0 : -2147483648 < a := by rw [ha]; exact Int.lt_tmod_of_pos _ (by decide)
  have a1 : a < 2147483648 := by rw [ha]; exact Int.tmod_lt_of_pos _ (by decide)
  have b0 : -2147483648 < b := by rw [hb]; exact Int.lt_tmod_of_pos _ (by decide)
  have b1' : b < 2147483648 := by rw [hb]; exact Int.tmod_lt_of_pos _ (by decide)
  have HA := Lib.hid ha
  have HB := Lib.hid hb
  clear ha hb
  obtain ⟨m0, m1⟩ := mul_small a0 a1 b0 b1'
  go_wp2_with fail
  rw [← HA.out]
  refine (num_ok (a) w8 (by omega) (by omega)).mono ?_
  rintro e w9 ⟨b9, p9, l9, c9, rfl, hO9, hb9⟩
  have hBXw9 := hBXw8.trans (hb9.mono hBXw8.size)
  have na := hO9.num
  go_wp2_with fail
  rw [← HB.out]
  refine (num_ok (b) w9 (by omega) (by omega)).mono ?_
  rintro e w10 ⟨b10, p10, l10, c10, rfl, hO10, hb10⟩
  have hBXw10 := hBXw9.trans (hb10.mono hBXw9.size)
  have naw10 := na.later hb10
  have nb := hO10.num
  go_wp2_with fail
  refine (sum_ok _ _ a b w10 naw10 nb (cap_small (by omega))).mono ?_
  rintro e w11 ⟨b11, p11, l11, c11, rfl, hO11, hb11⟩
  have hBXw11 := hBXw10.trans (hb11.mono hBXw10.size)
  have naw11 := naw10.later hb11
  have nbw11 := nb.later hb11
  have ns := hO11.num
  go_wp2_with fail
  refine (num_ok (a + b) w11 (by omega) (by omega)).mono ?_
  rintro e w12 ⟨b12, p12, l12, c12, rfl, hO12, hb12⟩
  have hBXw12 := hBXw11.trans (hb12.mono hBXw11.size)
  have naw12 := naw11.later hb12
  have nbw12 := nbw11.later hb12
  have nsw12 := ns.later hb12
  have nt := hO12.num
  go_wp2_with fail
  refine (equal_true _ _ (a + b) (a + b) w12 nsw12 nt rfl).mono ?_
  rintro e w13 ⟨rfl, hb13⟩
  have hBXw13 := hBXw12.trans (hb13.mono hBXw12.size)
  have naw13 := naw12.later hb13
  have nbw13 := nbw12.later hb13
  have nsw13 := nsw12.later hb13
  have ntw13 := nt.later hb13
  go_wp2_with fail
  refine (num_ok (a) w13 (by omega) (by omega)).mono ?_
  rintro e w14 ⟨b14, p14, l14, c14, rfl, hO14, hb14⟩
  have hBXw14 := hBXw13.trans (hb14.mono hBXw13.size)
  have na := hO14.num
  go_wp2_with fail
  refine (num_ok (b) w14 (by omega) (by omega)).mono ?_
  rintro e w15 ⟨b15, p15, l15, c15, rfl, hO15, hb15⟩
  have hBXw15 := hBXw14.trans (hb15.mono hBXw14.size)
  have naw15 := na.later hb15
  have nb := hO15.num
  go_wp2_with fail
  refine (product_ok _ _ a b w15 naw15 nb (cap_small (by omega))).mono ?_
  rintro e w16 ⟨b16, p16, l16, c16, rfl, hO16, hb16⟩
  have hBXw16 := hBXw15.trans (hb16.mono hBXw15.size)
  have naw16 := naw15.later hb16
  have nbw16 := nb.later hb16
  have ns := hO16.num
  go_wp2_with fail
  refine (num_ok (a * b) w16 (by omega) (by omega)).mono ?_
  rintro e w17 ⟨b17, p17, l17, c17, rfl, hO17, hb17⟩
  have hBXw17 := hBXw16.trans (hb17.mono hBXw16.size)
  have naw17 := naw16.later hb17
  have nbw17 := nbw16.later hb17
  have nsw17 := ns.later hb17
  have nt := hO17.num
  go_wp2_with fail
  refine (equal_true _ _ (a * b) (a * b) w17 nsw17 nt rfl).mono ?_
  rintro e w18 ⟨rfl, hb18⟩
  have hBXw18 := hBXw17.trans (hb18.mono hBXw17.size)
  have naw18 := naw17.later hb18
  have nbw18 := nbw17.later hb18
  have nsw18 := nsw17.later hb18
  have ntw18 := nt.later hb18
  go_wp2_with fail
  refine (num_ok (a) w18 (by omega) (by omega)).mono ?_
  rintro e w19 ⟨b19, p19, l19, c19, rfl, hO19, hb19⟩
  have hBXw19 := hBXw18.trans (hb19.mono hBXw18.size)
  have na := hO19.num
  go_wp2_with fail
  refine (num_ok (b) w19 (by omega) (by omega)).mono ?_
  rintro e w20 ⟨b20, p20, l20, c20, rfl, hO20, hb20⟩
  have hBXw20 := hBXw19.trans (hb20.mono hBXw19.size)
  have naw20 := na.later hb20
  have nb := hO20.num
  go_wp2_with fail
  refine (less_ok _ _ a b w20 naw20 nb (cap_small (by omega))).mono ?_
  rintro e w21 ⟨b21, p21, l21, c21, rfl, hO21, hb21⟩
  have hBXw21 := hBXw20.trans (hb21.mono hBXw20.size)
  have naw21 := naw20.later hb21
  have nbw21 := nb.later hb21
  have ns := hO21.num
  go_wp2_with fail
  refine (num_ok (a - b) w21 (by omega) (by omega)).mono ?_
  rintro e w22 ⟨b22, p22, l22, c22, rfl, hO22, hb22⟩
  have hBXw22 := hBXw21.trans (hb22.mono hBXw21.size)
  have naw22 := naw21.later hb22
  have nbw22 := nbw21.later hb22
  have nsw22 := ns.later hb22
  have nt := hO22.num
  go_wp2_with fail
  refine (equal_true _ _ (a - b) (a - b) w22 nsw22 nt rfl).mono ?_
  rintro e w23 ⟨rfl, hb23⟩
  have hBXw23 := hBXw22.trans (hb23.mono hBXw22.size)
  have naw23 := naw22.later hb23
  have nbw23 := nbw22.later hb23
  have nsw23 := nsw22.later hb23
  have ntw23 := nt.later hb23
  by_cases hb0 : b = 0
  · subst hb0
    go_wp2
    go_ret
    exact ⟨rfl, hBXw23⟩
  · have z0 := (tmod_facts hb0 (rfl : a.tmod b = a.tmod b)).1
    by_cases hz : a.tmod b = 0
    · -- no rest
      have hF : ∃ q, Floor a b q ((0 : Int)) ∧ -2147483648 ≤ q ∧ q ≤ 2147483648 ∧ -9223372036854775808 ≤ (0 : Int) ∧ (0 : Int) < 9223372036854775808 := floor_t0 hb0 hz.symm rfl a0 a1 b0 b1'
      obtain ⟨q, hF, q0, q1, _, _⟩ := hF
      have hq := quo_floor hb0 hF
      have rb : ((0 : Int)).natAbs < b.natAbs := by have h1 := hF.pos; have h2 := hF.neg; omega
      go_wp2_with fail
      refine (num_ok a w23 (by omega) (by omega)).mono ?_
      rintro e w24 ⟨b24, p24, l24, c24, rfl, hO24, hb24⟩
      have hBXw24 := hBXw23.trans (hb24.mono hBXw23.size)
      have na := hO24.num
      go_wp2_with fail
      refine (num_ok (b) w24 (by omega) (by omega)).mono ?_
      rintro e w25 ⟨b25, p25, l25, c25, rfl, hO25, hb25⟩
      have hBXw25 := hBXw24.trans (hb25.mono hBXw24.size)
      have naw25 := na.later hb25
      have nb := hO25.num
      go_wp2_with fail
      refine (DivMod_fit _ _ a b q ((0 : Int)) w25 naw25 nb hb0 hF).mono ?_
      rintro e w26 ⟨b26, p26, l26, c26, b26', p26', l26', c26', rfl, hO26, hO26', hb26⟩
      have hBXw26 := hBXw25.trans (hb26.mono hBXw25.size)
      have naw26 := naw25.later hb26
      have nbw26 := nb.later hb26
      have nq := hO26.num
      have nr := hO26'.num
      clear hO26 hO26'
      go_wp2_with fail
      obtain ⟨x, hx⟩ : ∃ x, x = (w26.alloc (.cells #[.bool b26, .slice p26 l26 c26] 24)).alloc (.cells #[.bool b26', .slice p26' l26' c26'] 24) := ⟨_, rfl⟩
      rw [← hx]
      have hbx : Below w26.heap.size w26 x := by rw [hx]; exact ((Below.refl _ _).alloc (Nat.le_refl _) _).alloc (by simp) _
      have q11 : x.heap[w26.heap.size]? = some (.cells #[.bool b26, .slice p26 l26 c26] 24) := by rw [hx]; exact alloc_old _ _ (alloc_new _ _ rfl)
      have q12 : x.heap[w26.heap.size + 1]? = some (.cells #[.bool b26', .slice p26' l26' c26'] 24) := by rw [hx]; exact alloc_new _ _ (by rw [World.size_alloc])
      have n11 := nq.later hbx
      have n12 := nr.later hbx
      have hBx := hBXw26.trans (hbx.mono hBXw26.size)
      clear hx nq nr
      refine region_kinds (n := 9) [.val (.int .i64 0), .val (.bool true), .val (.bool true), .num ((0 : Int)), .val (.int .i64 ((0 : Int))), .num (((0 : Int)) : Int), .val (.bool true), .val (.bool true), .val (.bool true), .num q, .val (.int .i64 a), .val (.int .i64 ((0 : Int))), .val (.int .i64 (a - ((0 : Int)))), .val (.int .i64 b), .val (.int .i64 q), .num (q : Int), .val (.bool true), .val (.bool true), .val (.bool true)] [(0, 117), (1, 118), (2, 119), (3, 120), (4, 121), (5, 122), (6, 123), (7, 124), (8, 125), (9, 126), (10, 127), (11, 128), (12, 129), (13, 130), (14, 131), (15, 132), (16, 133), (17, 134), (18, 4)] (by kernel_rfl) (by kernel_rfl) (by kernel_rfl) ?hstep11 ?hend11
      case hstep11 =>
        intro i o ho a' W hI hM
        match i, ho with
        | 0, ho =>
          cases ho
          refine stepK_of (wanted_none rfl) ?_
          exact opMove rfl (hM.old 13 rfl) ⟨rfl, Below.refl _ _⟩
        | 1, ho =>
          cases ho
          refine stepK_of (wanted_none rfl) ?_
          exact opEql27 rfl (hM.dep ⟨0, .data⟩ (by simp) rfl 117 rfl) rfl ⟨rfl, Below.refl _ _⟩
        | 2, ho =>
          cases ho
          refine stepK_of (wanted_none rfl) ?_
          exact opMove rfl (hM.dep ⟨1, .data⟩ (by simp) rfl 118 rfl) ⟨rfl, Below.refl _ _⟩
        | 3, ho =>
          cases ho
          refine stepK_of (wantedK hM rfl rfl (hM.dep ⟨2, .guard⟩ (by simp) rfl 119 rfl) rfl (show 119 < 135 by decide)) ?_
          exact opLoad rfl (hM.old 12 rfl) ((hI.block _ (Array.getElem?_eq_some_iff.1 q12).1).trans q12) ⟨n12.later hI, Below.refl _ _⟩
        | 4, ho =>
          cases ho
          refine stepK_of (wantedK hM rfl rfl (hM.dep ⟨2, .guard⟩ (by simp) rfl 119 rfl) rfl (show 119 < 135 by decide)) ?_
          exact opMove rfl (hM.old 10 rfl) ⟨rfl, Below.refl _ _⟩
        | 5, ho =>
          cases ho
          refine stepK_of (wantedK hM rfl rfl (hM.dep ⟨2, .chain⟩ (by simp) rfl 119 rfl) rfl (show 119 < 135 by decide)) ?_
          exact opCall1 rfl may20 (hM.dep ⟨4, .data⟩ (by simp) rfl 121 rfl) (numK (num_ok (((0 : Int))) W (by first | decide | omega) (by first | decide | omega)))
        | 6, ho =>
          cases ho
          refine stepK_of (wantedK hM rfl rfl (hM.dep ⟨2, .guard⟩ (by simp) rfl 119 rfl) rfl (show 119 < 135 by decide)) ?_
          exact opCall2 rfl may18 rfl rfl (boolK (equal_true _ _ ((0 : Int)) (((0 : Int)) : Int) W (hM.dep ⟨3, .data⟩ (by simp) rfl 120 rfl) (hM.dep ⟨5, .data⟩ (by simp) rfl 122 rfl) (rfl)))
        | 7, ho =>
          cases ho
          refine stepK_of (wanted_none rfl) ?_
          exact opPick rfl (hM.dep ⟨2, .data⟩ (by simp) rfl 119 rfl) (hM.dep ⟨6, .data⟩ (by simp) rfl 123 rfl) ⟨rfl, Below.refl _ _⟩
        | 8, ho =>
          cases ho
          refine stepK_of (wanted_none rfl) ?_
          exact opMove rfl (hM.dep ⟨7, .data⟩ (by simp) rfl 124 rfl) ⟨rfl, Below.refl _ _⟩
        | 9, ho =>
          cases ho
          refine stepK_of (wantedK hM rfl rfl (hM.dep ⟨8, .guard⟩ (by simp) rfl 125 rfl) rfl (show 125 < 135 by decide)) ?_
          exact opLoad rfl (hM.old 11 rfl) ((hI.block _ (Array.getElem?_eq_some_iff.1 q11).1).trans q11) ⟨n11.later hI, Below.refl _ _⟩
        | 10, ho =>
          cases ho
          refine stepK_of (wantedK hM rfl rfl (hM.dep ⟨8, .guard⟩ (by simp) rfl 125 rfl) rfl (show 125 < 135 by decide)) ?_
          exact opMove rfl (hM.old 8 rfl) ⟨rfl, Below.refl _ _⟩
        | 11, ho =>
          cases ho
          refine stepK_of (wantedK hM rfl rfl (hM.dep ⟨8, .guard⟩ (by simp) rfl 125 rfl) rfl (show 125 < 135 by decide)) ?_
          exact opMove rfl (hM.old 10 rfl) ⟨rfl, Below.refl _ _⟩
        | 12, ho =>
          cases ho
          refine stepK_of (wantedK hM rfl rfl (hM.dep ⟨8, .guard⟩ (by simp) rfl 125 rfl) rfl (show 125 < 135 by decide)) ?_
          exact opSub3 rfl (hM.dep ⟨10, .data⟩ (by simp) rfl 127 rfl) (hM.dep ⟨11, .data⟩ (by simp) rfl 128 rfl) (by omega) (by omega) ⟨rfl, Below.refl _ _⟩
        | 13, ho =>
          cases ho
          refine stepK_of (wantedK hM rfl rfl (hM.dep ⟨8, .guard⟩ (by simp) rfl 125 rfl) rfl (show 125 < 135 by decide)) ?_
          exact opMove rfl (hM.old 9 rfl) ⟨rfl, Below.refl _ _⟩
        | 14, ho =>
          cases ho
          refine stepK_of (wantedK hM rfl rfl (hM.dep ⟨8, .guard⟩ (by simp) rfl 125 rfl) rfl (show 125 < 135 by decide)) ?_
          exact opQuo3 rfl (hM.dep ⟨12, .data⟩ (by simp) rfl 129 rfl) (hM.dep ⟨13, .data⟩ (by simp) rfl 130 rfl) hb0 hq (by omega) (by omega) ⟨rfl, Below.refl _ _⟩
        | 15, ho =>
          cases ho
          refine stepK_of (wantedK hM rfl rfl (hM.dep ⟨8, .chain⟩ (by simp) rfl 125 rfl) rfl (show 125 < 135 by decide)) ?_
          exact opCall1 rfl may20 (hM.dep ⟨14, .data⟩ (by simp) rfl 131 rfl) (numK (num_ok (q) W (by first | decide | omega) (by first | decide | omega)))
        | 16, ho =>
          cases ho
          refine stepK_of (wantedK hM rfl rfl (hM.dep ⟨8, .guard⟩ (by simp) rfl 125 rfl) rfl (show 125 < 135 by decide)) ?_
          exact opCall2 rfl may18 rfl rfl (boolK (equal_true _ _ q (q : Int) W (hM.dep ⟨9, .data⟩ (by simp) rfl 126 rfl) (hM.dep ⟨15, .data⟩ (by simp) rfl 132 rfl) (rfl)))
        | 17, ho =>
          cases ho
          refine stepK_of (wanted_none rfl) ?_
          exact opPick rfl (hM.dep ⟨8, .data⟩ (by simp) rfl 125 rfl) (hM.dep ⟨16, .data⟩ (by simp) rfl 133 rfl) ⟨rfl, Below.refl _ _⟩
        | 18, ho =>
          cases ho
          refine stepK_of (wanted_none rfl) ?_
          exact opAssign rfl (hM.dep ⟨17, .data⟩ (by simp) rfl 134 rfl) ⟨rfl, Below.refl _ _⟩
        | k + 19, ho => simp at ho
      case hend11 =>
        intro u11 W11 hI11 hV11
        have e11_18 : u11 18 = (.bool true) := hV11 18 4 rfl
        simp only [putAll, List.foldl_cons, List.foldl_nil, List.setIfInBounds_toArray, List.set_cons_zero, List.set_cons_succ, e11_18]
        clear e11_18 hV11
        have q11_11 := (hI11.block _ (Array.getElem?_eq_some_iff.1 q11).1).trans q11
        have n11_11 := n11.later hI11
        have q12_11 := (hI11.block _ (Array.getElem?_eq_some_iff.1 q12).1).trans q12
        have n12_11 := n12.later hI11
        have hBW11 := hBx.trans (hI11.mono hBx.size)
        go_wp2
        go_ret
        exact ⟨rfl, hBW11⟩
    · have hz' : (a.tmod b != 0) = true := bne_iff_ne.2 hz
      by_cases h2 : a.tmod b < 0
      · by_cases h3 : b < 0
        · -- neg neg
          have d2 : decide (a.tmod b < 0) = true := decide_eq_true h2
          have d3 : decide (b < 0) = true := decide_eq_true h3
          have hF : ∃ q, Floor a b q (a.tmod b) ∧ -2147483648 ≤ q ∧ q ≤ 2147483648 ∧ -9223372036854775808 ≤ a.tmod b ∧ a.tmod b < 9223372036854775808 := floor_ts hb0 rfl (by rw [decide_eq_true (h2), decide_eq_true (h3)]) a0 a1 b0 b1'
          obtain ⟨q, hF, q0, q1, _, _⟩ := hF
          have hq := quo_floor hb0 hF
          have rb : (a.tmod b).natAbs < b.natAbs := by have h1 := hF.pos; have h2 := hF.neg; omega
          go_wp2_with fail
          refine (num_ok a w23 (by omega) (by omega)).mono ?_
          rintro e w27 ⟨b27, p27, l27, c27, rfl, hO27, hb27⟩
          have hBXw27 := hBXw23.trans (hb27.mono hBXw23.size)
          have na := hO27.num
          go_wp2_with fail
          refine (num_ok (b) w27 (by omega) (by omega)).mono ?_
          rintro e w28 ⟨b28, p28, l28, c28, rfl, hO28, hb28⟩
          have hBXw28 := hBXw27.trans (hb28.mono hBXw27.size)
          have naw28 := na.later hb28
          have nb := hO28.num
          go_wp2_with fail
          refine (DivMod_fit _ _ a b q (a.tmod b) w28 naw28 nb hb0 hF).mono ?_
          rintro e w29 ⟨b29, p29, l29, c29, b29', p29', l29', c29', rfl, hO29, hO29', hb29⟩
          have hBXw29 := hBXw28.trans (hb29.mono hBXw28.size)
          have naw29 := naw28.later hb29
          have nbw29 := nb.later hb29
          have nq := hO29.num
          have nr := hO29'.num
          clear hO29 hO29'
          go_wp2_with fail
          obtain ⟨x, hx⟩ : ∃ x, x = (w29.alloc (.cells #[.bool b29, .slice p29 l29 c29] 24)).alloc (.cells #[.bool b29', .slice p29' l29' c29'] 24) := ⟨_, rfl⟩
          rw [← hx]
          have hbx : Below w29.heap.size w29 x := by rw [hx]; exact ((Below.refl _ _).alloc (Nat.le_refl _) _).alloc (by simp) _
          have q11 : x.heap[w29.heap.size]? = some (.cells #[.bool b29, .slice p29 l29 c29] 24) := by rw [hx]; exact alloc_old _ _ (alloc_new _ _ rfl)
          have q12 : x.heap[w29.heap.size + 1]? = some (.cells #[.bool b29', .slice p29' l29' c29'] 24) := by rw [hx]; exact alloc_new _ _ (by rw [World.size_alloc])
          have n11 := nq.later hbx
          have n12 := nr.later hbx
          have hBx := hBXw29.trans (hbx.mono hBXw29.size)
          clear hx nq nr
          refine region_kinds (n := 9) [.val (.int .i64 0), .val (.bool true), .val (.bool true), .num (a.tmod b), .val (.int .i64 (a.tmod b)), .num ((a.tmod b) : Int), .val (.bool true), .val (.bool true), .val (.bool true), .num q, .val (.int .i64 a), .val (.int .i64 (a.tmod b)), .val (.int .i64 (a - (a.tmod b))), .val (.int .i64 b), .val (.int .i64 q), .num (q : Int), .val (.bool true), .val (.bool true), .val (.bool true)] [(0, 117), (1, 118), (2, 119), (3, 120), (4, 121), (5, 122), (6, 123), (7, 124), (8, 125), (9, 126), (10, 127), (11, 128), (12, 129), (13, 130), (14, 131), (15, 132), (16, 133), (17, 134), (18, 4)] (by kernel_rfl) (by kernel_rfl) (by kernel_rfl) ?hstep12 ?hend12
          case hstep12 =>
            intro i o ho a' W hI hM
            match i, ho with
            | 0, ho =>
              cases ho
              refine stepK_of (wanted_none rfl) ?_
              exact opMove rfl (hM.old 13 rfl) ⟨rfl, Below.refl _ _⟩
            | 1, ho =>
              cases ho
              refine stepK_of (wanted_none rfl) ?_
              exact opEql27 rfl (hM.dep ⟨0, .data⟩ (by simp) rfl 117 rfl) rfl ⟨rfl, Below.refl _ _⟩
            | 2, ho =>
              cases ho
              refine stepK_of (wanted_none rfl) ?_
              exact opMove rfl (hM.dep ⟨1, .data⟩ (by simp) rfl 118 rfl) ⟨rfl, Below.refl _ _⟩
            | 3, ho =>
              cases ho
              refine stepK_of (wantedK hM rfl rfl (hM.dep ⟨2, .guard⟩ (by simp) rfl 119 rfl) rfl (show 119 < 135 by decide)) ?_
              exact opLoad rfl (hM.old 12 rfl) ((hI.block _ (Array.getElem?_eq_some_iff.1 q12).1).trans q12) ⟨n12.later hI, Below.refl _ _⟩
            | 4, ho =>
              cases ho
              refine stepK_of (wantedK hM rfl rfl (hM.dep ⟨2, .guard⟩ (by simp) rfl 119 rfl) rfl (show 119 < 135 by decide)) ?_
              exact opMove rfl (hM.old 10 rfl) ⟨rfl, Below.refl _ _⟩
            | 5, ho =>
              cases ho
              refine stepK_of (wantedK hM rfl rfl (hM.dep ⟨2, .chain⟩ (by simp) rfl 119 rfl) rfl (show 119 < 135 by decide)) ?_
              exact opCall1 rfl may20 (hM.dep ⟨4, .data⟩ (by simp) rfl 121 rfl) (numK (num_ok ((a.tmod b)) W (by first | decide | omega) (by first | decide | omega)))
            | 6, ho =>
              cases ho
              refine stepK_of (wantedK hM rfl rfl (hM.dep ⟨2, .guard⟩ (by simp) rfl 119 rfl) rfl (show 119 < 135 by decide)) ?_
              exact opCall2 rfl may18 rfl rfl (boolK (equal_true _ _ (a.tmod b) ((a.tmod b) : Int) W (hM.dep ⟨3, .data⟩ (by simp) rfl 120 rfl) (hM.dep ⟨5, .data⟩ (by simp) rfl 122 rfl) (rfl)))
            | 7, ho =>
              cases ho
              refine stepK_of (wanted_none rfl) ?_
              exact opPick rfl (hM.dep ⟨2, .data⟩ (by simp) rfl 119 rfl) (hM.dep ⟨6, .data⟩ (by simp) rfl 123 rfl) ⟨rfl, Below.refl _ _⟩
            | 8, ho =>
              cases ho
              refine stepK_of (wanted_none rfl) ?_
              exact opMove rfl (hM.dep ⟨7, .data⟩ (by simp) rfl 124 rfl) ⟨rfl, Below.refl _ _⟩
            | 9, ho =>
              cases ho
              refine stepK_of (wantedK hM rfl rfl (hM.dep ⟨8, .guard⟩ (by simp) rfl 125 rfl) rfl (show 125 < 135 by decide)) ?_
              exact opLoad rfl (hM.old 11 rfl) ((hI.block _ (Array.getElem?_eq_some_iff.1 q11).1).trans q11) ⟨n11.later hI, Below.refl _ _⟩
            | 10, ho =>
              cases ho
              refine stepK_of (wantedK hM rfl rfl (hM.dep ⟨8, .guard⟩ (by simp) rfl 125 rfl) rfl (show 125 < 135 by decide)) ?_
              exact opMove rfl (hM.old 8 rfl) ⟨rfl, Below.refl _ _⟩
            | 11, ho =>
              cases ho
              refine stepK_of (wantedK hM rfl rfl (hM.dep ⟨8, .guard⟩ (by simp) rfl 125 rfl) rfl (show 125 < 135 by decide)) ?_
              exact opMove rfl (hM.old 10 rfl) ⟨rfl, Below.refl _ _⟩
            | 12, ho =>
              cases ho
              refine stepK_of (wantedK hM rfl rfl (hM.dep ⟨8, .guard⟩ (by simp) rfl 125 rfl) rfl (show 125 < 135 by decide)) ?_
              exact opSub3 rfl (hM.dep ⟨10, .data⟩ (by simp) rfl 127 rfl) (hM.dep ⟨11, .data⟩ (by simp) rfl 128 rfl) (by omega) (by omega) ⟨rfl, Below.refl _ _⟩
            | 13, ho =>
              cases ho
              refine stepK_of (wantedK hM rfl rfl (hM.dep ⟨8, .guard⟩ (by simp) rfl 125 rfl) rfl (show 125 < 135 by decide)) ?_
              exact opMove rfl (hM.old 9 rfl) ⟨rfl, Below.refl _ _⟩
            | 14, ho =>
              cases ho
              refine stepK_of (wantedK hM rfl rfl (hM.dep ⟨8, .guard⟩ (by simp) rfl 125 rfl) rfl (show 125 < 135 by decide)) ?_
              exact opQuo3 rfl (hM.dep ⟨12, .data⟩ (by simp) rfl 129 rfl) (hM.dep ⟨13, .data⟩ (by simp) rfl 130 rfl) hb0 hq (by omega) (by omega) ⟨rfl, Below.refl _ _⟩
            | 15, ho =>
              cases ho
              refine stepK_of (wantedK hM rfl rfl (hM.dep ⟨8, .chain⟩ (by simp) rfl 125 rfl) rfl (show 125 < 135 by decide)) ?_
              exact opCall1 rfl may20 (hM.dep ⟨14, .data⟩ (by simp) rfl 131 rfl) (numK (num_ok (q) W (by first | decide | omega) (by first | decide | omega)))
            | 16, ho =>
              cases ho
              refine stepK_of (wantedK hM rfl rfl (hM.dep ⟨8, .guard⟩ (by simp) rfl 125 rfl) rfl (show 125 < 135 by decide)) ?_
              exact opCall2 rfl may18 rfl rfl (boolK (equal_true _ _ q (q : Int) W (hM.dep ⟨9, .data⟩ (by simp) rfl 126 rfl) (hM.dep ⟨15, .data⟩ (by simp) rfl 132 rfl) (rfl)))
            | 17, ho =>
              cases ho
              refine stepK_of (wanted_none rfl) ?_
              exact opPick rfl (hM.dep ⟨8, .data⟩ (by simp) rfl 125 rfl) (hM.dep ⟨16, .data⟩ (by simp) rfl 133 rfl) ⟨rfl, Below.refl _ _⟩
            | 18, ho =>
              cases ho
              refine stepK_of (wanted_none rfl) ?_
              exact opAssign rfl (hM.dep ⟨17, .data⟩ (by simp) rfl 134 rfl) ⟨rfl, Below.refl _ _⟩
            | k + 19, ho => simp at ho
          case hend12 =>
            intro u12 W12 hI12 hV12
            have e12_18 : u12 18 = (.bool true) := hV12 18 4 rfl
            simp only [putAll, List.foldl_cons, List.foldl_nil, List.setIfInBounds_toArray, List.set_cons_zero, List.set_cons_succ, e12_18]
            clear e12_18 hV12
            have q11_12 := (hI12.block _ (Array.getElem?_eq_some_iff.1 q11).1).trans q11
            have n11_12 := n11.later hI12
            have q12_12 := (hI12.block _ (Array.getElem?_eq_some_iff.1 q12).1).trans q12
            have n12_12 := n12.later hI12
            have hBW12 := hBx.trans (hI12.mono hBx.size)
            go_wp2
            go_ret
            exact ⟨rfl, hBW12⟩
        · -- neg pos
          have d2 : decide (a.tmod b < 0) = true := decide_eq_true h2
          have d3 : decide (b < 0) = false := decide_eq_false h3
          have hF : ∃ q, Floor a b q (a.tmod b + b) ∧ -2147483648 ≤ q ∧ q ≤ 2147483648 ∧ -9223372036854775808 ≤ a.tmod b + b ∧ a.tmod b + b < 9223372036854775808 := floor_ta hb0 rfl hz (by rw [decide_eq_true h2, decide_eq_false h3]; decide) a0 a1 b0 b1'
          obtain ⟨q, hF, q0, q1, _, _⟩ := hF
          have hq := quo_floor hb0 hF
          have rb : (a.tmod b + b).natAbs < b.natAbs := by have h1 := hF.pos; have h2 := hF.neg; omega
          go_wp2_with fail
          refine (num_ok a w23 (by omega) (by omega)).mono ?_
          rintro e w30 ⟨b30, p30, l30, c30, rfl, hO30, hb30⟩
          have hBXw30 := hBXw23.trans (hb30.mono hBXw23.size)
          have na := hO30.num
          go_wp2_with fail
          refine (num_ok (b) w30 (by omega) (by omega)).mono ?_
          rintro e w31 ⟨b31, p31, l31, c31, rfl, hO31, hb31⟩
          have hBXw31 := hBXw30.trans (hb31.mono hBXw30.size)
          have naw31 := na.later hb31
          have nb := hO31.num
          go_wp2_with fail
          refine (DivMod_fit _ _ a b q (a.tmod b + b) w31 naw31 nb hb0 hF).mono ?_
          rintro e w32 ⟨b32, p32, l32, c32, b32', p32', l32', c32', rfl, hO32, hO32', hb32⟩
          have hBXw32 := hBXw31.trans (hb32.mono hBXw31.size)
          have naw32 := naw31.later hb32
          have nbw32 := nb.later hb32
          have nq := hO32.num
          have nr := hO32'.num
          clear hO32 hO32'
          go_wp2_with fail
          obtain ⟨x, hx⟩ : ∃ x, x = (w32.alloc (.cells #[.bool b32, .slice p32 l32 c32] 24)).alloc (.cells #[.bool b32', .slice p32' l32' c32'] 24) := ⟨_, rfl⟩
          rw [← hx]
          have hbx : Below w32.heap.size w32 x := by rw [hx]; exact ((Below.refl _ _).alloc (Nat.le_refl _) _).alloc (by simp) _
          have q11 : x.heap[w32.heap.size]? = some (.cells #[.bool b32, .slice p32 l32 c32] 24) := by rw [hx]; exact alloc_old _ _ (alloc_new _ _ rfl)
          have q12 : x.heap[w32.heap.size + 1]? = some (.cells #[.bool b32', .slice p32' l32' c32'] 24) := by rw [hx]; exact alloc_new _ _ (by rw [World.size_alloc])
          have n11 := nq.later hbx
          have n12 := nr.later hbx
          have hBx := hBXw32.trans (hbx.mono hBXw32.size)
          clear hx nq nr
          refine region_kinds (n := 9) [.val (.int .i64 0), .val (.bool true), .val (.bool true), .num (a.tmod b + b), .val (.int .i64 (a.tmod b + b)), .num ((a.tmod b + b) : Int), .val (.bool true), .val (.bool true), .val (.bool true), .num q, .val (.int .i64 a), .val (.int .i64 (a.tmod b + b)), .val (.int .i64 (a - (a.tmod b + b))), .val (.int .i64 b), .val (.int .i64 q), .num (q : Int), .val (.bool true), .val (.bool true), .val (.bool true)] [(0, 117), (1, 118), (2, 119), (3, 120), (4, 121), (5, 122), (6, 123), (7, 124), (8, 125), (9, 126), (10, 127), (11, 128), (12, 129), (13, 130), (14, 131), (15, 132), (16, 133), (17, 134), (18, 4)] (by kernel_rfl) (by kernel_rfl) (by kernel_rfl) ?hstep13 ?hend13
          case hstep13 =>
            intro i o ho a' W hI hM
            match i, ho with
            | 0, ho =>
              cases ho
              refine stepK_of (wanted_none rfl) ?_
              exact opMove rfl (hM.old 13 rfl) ⟨rfl, Below.refl _ _⟩
            | 1, ho =>
              cases ho
              refine stepK_of (wanted_none rfl) ?_
              exact opEql27 rfl (hM.dep ⟨0, .data⟩ (by simp) rfl 117 rfl) rfl ⟨rfl, Below.refl _ _⟩
            | 2, ho =>
              cases ho
              refine stepK_of (wanted_none rfl) ?_
              exact opMove rfl (hM.dep ⟨1, .data⟩ (by simp) rfl 118 rfl) ⟨rfl, Below.refl _ _⟩
            | 3, ho =>
              cases ho
              refine stepK_of (wantedK hM rfl rfl (hM.dep ⟨2, .guard⟩ (by simp) rfl 119 rfl) rfl (show 119 < 135 by decide)) ?_
              exact opLoad rfl (hM.old 12 rfl) ((hI.block _ (Array.getElem?_eq_some_iff.1 q12).1).trans q12) ⟨n12.later hI, Below.refl _ _⟩
            | 4, ho =>
              cases ho
              refine stepK_of (wantedK hM rfl rfl (hM.dep ⟨2, .guard⟩ (by simp) rfl 119 rfl) rfl (show 119 < 135 by decide)) ?_
              exact opMove rfl (hM.old 10 rfl) ⟨rfl, Below.refl _ _⟩
            | 5, ho =>
              cases ho
              refine stepK_of (wantedK hM rfl rfl (hM.dep ⟨2, .chain⟩ (by simp) rfl 119 rfl) rfl (show 119 < 135 by decide)) ?_
              exact opCall1 rfl may20 (hM.dep ⟨4, .data⟩ (by simp) rfl 121 rfl) (numK (num_ok ((a.tmod b + b)) W (by first | decide | omega) (by first | decide | omega)))
            | 6, ho =>
              cases ho
              refine stepK_of (wantedK hM rfl rfl (hM.dep ⟨2, .guard⟩ (by simp) rfl 119 rfl) rfl (show 119 < 135 by decide)) ?_
              exact opCall2 rfl may18 rfl rfl (boolK (equal_true _ _ (a.tmod b + b) ((a.tmod b + b) : Int) W (hM.dep ⟨3, .data⟩ (by simp) rfl 120 rfl) (hM.dep ⟨5, .data⟩ (by simp) rfl 122 rfl) (rfl)))
            | 7, ho =>
              cases ho
              refine stepK_of (wanted_none rfl) ?_
              exact opPick rfl (hM.dep ⟨2, .data⟩ (by simp) rfl 119 rfl) (hM.dep ⟨6, .data⟩ (by simp) rfl 123 rfl) ⟨rfl, Below.refl _ _⟩
            | 8, ho =>
              cases ho
              refine stepK_of (wanted_none rfl) ?_
              exact opMove rfl (hM.dep ⟨7, .data⟩ (by simp) rfl 124 rfl) ⟨rfl, Below.refl _ _⟩
            | 9, ho =>
              cases ho
              refine stepK_of (wantedK hM rfl rfl (hM.dep ⟨8, .guard⟩ (by simp) rfl 125 rfl) rfl (show 125 < 135 by decide)) ?_
              exact opLoad rfl (hM.old 11 rfl) ((hI.block _ (Array.getElem?_eq_some_iff.1 q11).1).trans q11) ⟨n11.later hI, Below.refl _ _⟩
            | 10, ho =>
              cases ho
              refine stepK_of (wantedK hM rfl rfl (hM.dep ⟨8, .guard⟩ (by simp) rfl 125 rfl) rfl (show 125 < 135 by decide)) ?_
              exact opMove rfl (hM.old 8 rfl) ⟨rfl, Below.refl _ _⟩
            | 11, ho =>
              cases ho
              refine stepK_of (wantedK hM rfl rfl (hM.dep ⟨8, .guard⟩ (by simp) rfl 125 rfl) rfl (show 125 < 135 by decide)) ?_
              exact opMove rfl (hM.old 10 rfl) ⟨rfl, Below.refl _ _⟩
            | 12, ho =>
              cases ho
              refine stepK_of (wantedK hM rfl rfl (hM.dep ⟨8, .guard⟩ (by simp) rfl 125 rfl) rfl (show 125 < 135 by decide)) ?_
              exact opSub3 rfl (hM.dep ⟨10, .data⟩ (by simp) rfl 127 rfl) (hM.dep ⟨11, .data⟩ (by simp) rfl 128 rfl) (by omega) (by omega) ⟨rfl, Below.refl _ _⟩
            | 13, ho =>
              cases ho
              refine stepK_of (wantedK hM rfl rfl (hM.dep ⟨8, .guard⟩ (by simp) rfl 125 rfl) rfl (show 125 < 135 by decide)) ?_
              exact opMove rfl (hM.old 9 rfl) ⟨rfl, Below.refl _ _⟩
            | 14, ho =>
              cases ho
              refine stepK_of (wantedK hM rfl rfl (hM.dep ⟨8, .guard⟩ (by simp) rfl 125 rfl) rfl (show 125 < 135 by decide)) ?_
              exact opQuo3 rfl (hM.dep ⟨12, .data⟩ (by simp) rfl 129 rfl) (hM.dep ⟨13, .data⟩ (by simp) rfl 130 rfl) hb0 hq (by omega) (by omega) ⟨rfl, Below.refl _ _⟩
            | 15, ho =>
              cases ho
              refine stepK_of (wantedK hM rfl rfl (hM.dep ⟨8, .chain⟩ (by simp) rfl 125 rfl) rfl (show 125 < 135 by decide)) ?_
              exact opCall1 rfl may20 (hM.dep ⟨14, .data⟩ (by simp) rfl 131 rfl) (numK (num_ok (q) W (by first | decide | omega) (by first | decide | omega)))
            | 16, ho =>
              cases ho
              refine stepK_of (wantedK hM rfl rfl (hM.dep ⟨8, .guard⟩ (by simp) rfl 125 rfl) rfl (show 125 < 135 by decide)) ?_
              exact opCall2 rfl may18 rfl rfl (boolK (equal_true _ _ q (q : Int) W (hM.dep ⟨9, .data⟩ (by simp) rfl 126 rfl) (hM.dep ⟨15, .data⟩ (by simp) rfl 132 rfl) (rfl)))
            | 17, ho =>
              cases ho
              refine stepK_of (wanted_none rfl) ?_
              exact opPick rfl (hM.dep ⟨8, .data⟩ (by simp) rfl 125 rfl) (hM.dep ⟨16, .data⟩ (by simp) rfl 133 rfl) ⟨rfl, Below.refl _ _⟩
            | 18, ho =>
              cases ho
              refine stepK_of (wanted_none rfl) ?_
              exact opAssign rfl (hM.dep ⟨17, .data⟩ (by simp) rfl 134 rfl) ⟨rfl, Below.refl _ _⟩
            | k + 19, ho => simp at ho
          case hend13 =>
            intro u13 W13 hI13 hV13
            have e13_18 : u13 18 = (.bool true) := hV13 18 4 rfl
            simp only [putAll, List.foldl_cons, List.foldl_nil, List.setIfInBounds_toArray, List.set_cons_zero, List.set_cons_succ, e13_18]
            clear e13_18 hV13
            have q11_13 := (hI13.block _ (Array.getElem?_eq_some_iff.1 q11).1).trans q11
            have n11_13 := n11.later hI13
            have q12_13 := (hI13.block _ (Array.getElem?_eq_some_iff.1 q12).1).trans q12
            have n12_13 := n12.later hI13
            have hBW13 := hBx.trans (hI13.mono hBx.size)
            go_wp2
            go_ret
            exact ⟨rfl, hBW13⟩
      · by_cases h3 : b < 0
        · -- pos neg
          have d2 : decide (a.tmod b < 0) = false := decide_eq_false h2
          have d3 : decide (b < 0) = true := decide_eq_true h3
          have hF : ∃ q, Floor a b q (a.tmod b + b) ∧ -2147483648 ≤ q ∧ q ≤ 2147483648 ∧ -9223372036854775808 ≤ a.tmod b + b ∧ a.tmod b + b < 9223372036854775808 := floor_ta hb0 rfl hz (by rw [decide_eq_false h2, decide_eq_true h3]; decide) a0 a1 b0 b1'
          obtain ⟨q, hF, q0, q1, _, _⟩ := hF
          have hq := quo_floor hb0 hF
          have rb : (a.tmod b + b).natAbs < b.natAbs := by have h1 := hF.pos; have h2 := hF.neg; omega
          go_wp2_with fail
          refine (num_ok a w23 (by omega) (by omega)).mono ?_
          rintro e w33 ⟨b33, p33, l33, c33, rfl, hO33, hb33⟩
          have hBXw33 := hBXw23.trans (hb33.mono hBXw23.size)
          have na := hO33.num
          go_wp2_with fail
          refine (num_ok (b) w33 (by omega) (by omega)).mono ?_
          rintro e w34 ⟨b34, p34, l34, c34, rfl, hO34, hb34⟩
          have hBXw34 := hBXw33.trans (hb34.mono hBXw33.size)
          have naw34 := na.later hb34
          have nb := hO34.num
          go_wp2_with fail
          refine (DivMod_fit _ _ a b q (a.tmod b + b) w34 naw34 nb hb0 hF).mono ?_
          rintro e w35 ⟨b35, p35, l35, c35, b35', p35', l35', c35', rfl, hO35, hO35', hb35⟩
          have hBXw35 := hBXw34.trans (hb35.mono hBXw34.size)
          have naw35 := naw34.later hb35
          have nbw35 := nb.later hb35
          have nq := hO35.num
          have nr := hO35'.num
          clear hO35 hO35'
          go_wp2_with fail
          obtain ⟨x, hx⟩ : ∃ x, x = (w35.alloc (.cells #[.bool b35, .slice p35 l35 c35] 24)).alloc (.cells #[.bool b35', .slice p35' l35' c35'] 24) := ⟨_, rfl⟩
          rw [← hx]
          have hbx : Below w35.heap.size w35 x := by rw [hx]; exact ((Below.refl _ _).alloc (Nat.le_refl _) _).alloc (by simp) _
          have q11 : x.heap[w35.heap.size]? = some (.cells #[.bool b35, .slice p35 l35 c35] 24) := by rw [hx]; exact alloc_old _ _ (alloc_new _ _ rfl)
          have q12 : x.heap[w35.heap.size + 1]? = some (.cells #[.bool b35', .slice p35' l35' c35'] 24) := by rw [hx]; exact alloc_new _ _ (by rw [World.size_alloc])
          have n11 := nq.later hbx
          have n12 := nr.later hbx
          have hBx := hBXw35.trans (hbx.mono hBXw35.size)
          clear hx nq nr
          refine region_kinds (n := 9) [.val (.int .i64 0), .val (.bool true), .val (.bool true), .num (a.tmod b + b), .val (.int .i64 (a.tmod b + b)), .num ((a.tmod b + b) : Int), .val (.bool true), .val (.bool true), .val (.bool true), .num q, .val (.int .i64 a), .val (.int .i64 (a.tmod b + b)), .val (.int .i64 (a - (a.tmod b + b))), .val (.int .i64 b), .val (.int .i64 q), .num (q : Int), .val (.bool true), .val (.bool true), .val (.bool true)] [(0, 117), (1, 118), (2, 119), (3, 120), (4, 121), (5, 122), (6, 123), (7, 124), (8, 125), (9, 126), (10, 127), (11, 128), (12, 129), (13, 130), (14, 131), (15, 132), (16, 133), (17, 134), (18, 4)] (by kernel_rfl) (by kernel_rfl) (by kernel_rfl) ?hstep14 ?hend14
          case hstep14 =>
            intro i o ho a' W hI hM
            match i, ho with
            | 0, ho =>
              cases ho
              refine stepK_of (wanted_none rfl) ?_
              exact opMove rfl (hM.old 13 rfl) ⟨rfl, Below.refl _ _⟩
            | 1, ho =>
              cases ho
              refine stepK_of (wanted_none rfl) ?_
              exact opEql27 rfl (hM.dep ⟨0, .data⟩ (by simp) rfl 117 rfl) rfl ⟨rfl, Below.refl _ _⟩
            | 2, ho =>
              cases ho
              refine stepK_of (wanted_none rfl) ?_
              exact opMove rfl (hM.dep ⟨1, .data⟩ (by simp) rfl 118 rfl) ⟨rfl, Below.refl _ _⟩
            | 3, ho =>
              cases ho
              refine stepK_of (wantedK hM rfl rfl (hM.dep ⟨2, .guard⟩ (by simp) rfl 119 rfl) rfl (show 119 < 135 by decide)) ?_
              exact opLoad rfl (hM.old 12 rfl) ((hI.block _ (Array.getElem?_eq_some_iff.1 q12).1).trans q12) ⟨n12.later hI, Below.refl _ _⟩
            | 4, ho =>
              cases ho
              refine stepK_of (wantedK hM rfl rfl (hM.dep ⟨2, .guard⟩ (by simp) rfl 119 rfl) rfl (show 119 < 135 by decide)) ?_
              exact opMove rfl (hM.old 10 rfl) ⟨rfl, Below.refl _ _⟩
            | 5, ho =>
              cases ho
              refine stepK_of (wantedK hM rfl rfl (hM.dep ⟨2, .chain⟩ (by simp) rfl 119 rfl) rfl (show 119 < 135 by decide)) ?_
              exact opCall1 rfl may20 (hM.dep ⟨4, .data⟩ (by simp) rfl 121 rfl) (numK (num_ok ((a.tmod b + b)) W (by first | decide | omega) (by first | decide | omega)))
            | 6, ho =>
              cases ho
              refine stepK_of (wantedK hM rfl rfl (hM.dep ⟨2, .guard⟩ (by simp) rfl 119 rfl) rfl (show 119 < 135 by decide)) ?_
              exact opCall2 rfl may18 rfl rfl (boolK (equal_true _ _ (a.tmod b + b) ((a.tmod b + b) : Int) W (hM.dep ⟨3, .data⟩ (by simp) rfl 120 rfl) (hM.dep ⟨5, .data⟩ (by simp) rfl 122 rfl) (rfl)))
            | 7, ho =>
              cases ho
              refine stepK_of (wanted_none rfl) ?_
              exact opPick rfl (hM.dep ⟨2, .data⟩ (by simp) rfl 119 rfl) (hM.dep ⟨6, .data⟩ (by simp) rfl 123 rfl) ⟨rfl, Below.refl _ _⟩
            | 8, ho =>
              cases ho
              refine stepK_of (wanted_none rfl) ?_
              exact opMove rfl (hM.dep ⟨7, .data⟩ (by simp) rfl 124 rfl) ⟨rfl, Below.refl _ _⟩
            | 9, ho =>
              cases ho
              refine stepK_of (wantedK hM rfl rfl (hM.dep ⟨8, .guard⟩ (by simp) rfl 125 rfl) rfl (show 125 < 135 by decide)) ?_
              exact opLoad rfl (hM.old 11 rfl) ((hI.block _ (Array.getElem?_eq_some_iff.1 q11).1).trans q11) ⟨n11.later hI, Below.refl _ _⟩
            | 10, ho =>
              cases ho
              refine stepK_of (wantedK hM rfl rfl (hM.dep ⟨8, .guard⟩ (by simp) rfl 125 rfl) rfl (show 125 < 135 by decide)) ?_
              exact opMove rfl (hM.old 8 rfl) ⟨rfl, Below.refl _ _⟩
            | 11, ho =>
              cases ho
              refine stepK_of (wantedK hM rfl rfl (hM.dep ⟨8, .guard⟩ (by simp) rfl 125 rfl) rfl (show 125 < 135 by decide)) ?_
              exact opMove rfl (hM.old 10 rfl) ⟨rfl, Below.refl _ _⟩
            | 12, ho =>
              cases ho
              refine stepK_of (wantedK hM rfl rfl (hM.dep ⟨8, .guard⟩ (by simp) rfl 125 rfl) rfl (show 125 < 135 by decide)) ?_
              exact opSub3 rfl (hM.dep ⟨10, .data⟩ (by simp) rfl 127 rfl) (hM.dep ⟨11, .data⟩ (by simp) rfl 128 rfl) (by omega) (by omega) ⟨rfl, Below.refl _ _⟩
            | 13, ho =>
              cases ho
              refine stepK_of (wantedK hM rfl rfl (hM.dep ⟨8, .guard⟩ (by simp) rfl 125 rfl) rfl (show 125 < 135 by decide)) ?_
              exact opMove rfl (hM.old 9 rfl) ⟨rfl, Below.refl _ _⟩
            | 14, ho =>
              cases ho
              refine stepK_of (wantedK hM rfl rfl (hM.dep ⟨8, .guard⟩ (by simp) rfl 125 rfl) rfl (show 125 < 135 by decide)) ?_
              exact opQuo3 rfl (hM.dep ⟨12, .data⟩ (by simp) rfl 129 rfl) (hM.dep ⟨13, .data⟩ (by simp) rfl 130 rfl) hb0 hq (by omega) (by omega) ⟨rfl, Below.refl _ _⟩
            | 15, ho =>
              cases ho
              refine stepK_of (wantedK hM rfl rfl (hM.dep ⟨8, .chain⟩ (by simp) rfl 125 rfl) rfl (show 125 < 135 by decide)) ?_
              exact opCall1 rfl may20 (hM.dep ⟨14, .data⟩ (by simp) rfl 131 rfl) (numK (num_ok (q) W (by first | decide | omega) (by first | decide | omega)))
            | 16, ho =>
              cases ho
              refine stepK_of (wantedK hM rfl rfl (hM.dep ⟨8, .guard⟩ (by simp) rfl 125 rfl) rfl (show 125 < 135 by decide)) ?_
              exact opCall2 rfl may18 rfl rfl (boolK (equal_true _ _ q (q : Int) W (hM.dep ⟨9, .data⟩ (by simp) rfl 126 rfl) (hM.dep ⟨15, .data⟩ (by simp) rfl 132 rfl) (rfl)))
            | 17, ho =>
              cases ho
              refine stepK_of (wanted_none rfl) ?_
              exact opPick rfl (hM.dep ⟨8, .data⟩ (by simp) rfl 125 rfl) (hM.dep ⟨16, .data⟩ (by simp) rfl 133 rfl) ⟨rfl, Below.refl _ _⟩
            | 18, ho =>
              cases ho
              refine stepK_of (wanted_none rfl) ?_
              exact opAssign rfl (hM.dep ⟨17, .data⟩ (by simp) rfl 134 rfl) ⟨rfl, Below.refl _ _⟩
            | k + 19, ho => simp at ho
          case hend14 =>
            intro u14 W14 hI14 hV14
            have e14_18 : u14 18 = (.bool true) := hV14 18 4 rfl
            simp only [putAll, List.foldl_cons, List.foldl_nil, List.setIfInBounds_toArray, List.set_cons_zero, List.set_cons_succ, e14_18]
            clear e14_18 hV14
            have q11_14 := (hI14.block _ (Array.getElem?_eq_some_iff.1 q11).1).trans q11
            have n11_14 := n11.later hI14
            have q12_14 := (hI14.block _ (Array.getElem?_eq_some_iff.1 q12).1).trans q12
            have n12_14 := n12.later hI14
            have hBW14 := hBx.trans (hI14.mono hBx.size)
            go_wp2
            go_ret
            exact ⟨rfl, hBW14⟩
        · -- pos pos
          have d2 : decide (a.tmod b < 0) = false := decide_eq_false h2
          have d3 : decide (b < 0) = false := decide_eq_false h3
          have hF : ∃ q, Floor a b q (a.tmod b) ∧ -2147483648 ≤ q ∧ q ≤ 2147483648 ∧ -9223372036854775808 ≤ a.tmod b ∧ a.tmod b < 9223372036854775808 := floor_ts hb0 rfl (by rw [decide_eq_false (h2), decide_eq_false (h3)]) a0 a1 b0 b1'
          obtain ⟨q, hF, q0, q1, _, _⟩ := hF
          have hq := quo_floor hb0 hF
          have rb : (a.tmod b).natAbs < b.natAbs := by have h1 := hF.pos; have h2 := hF.neg; omega
          go_wp2_with fail
          refine (num_ok a w23 (by omega) (by omega)).mono ?_
          rintro e w36 ⟨b36, p36, l36, c36, rfl, hO36, hb36⟩
          have hBXw36 := hBXw23.trans (hb36.mono hBXw23.size)
          have na := hO36.num
          go_wp2_with fail
          refine (num_ok (b) w36 (by omega) (by omega)).mono ?_
          rintro e w37 ⟨b37, p37, l37, c37, rfl, hO37, hb37⟩
          have hBXw37 := hBXw36.trans (hb37.mono hBXw36.size)
          have naw37 := na.later hb37
          have nb := hO37.num
          go_wp2_with fail
          refine (DivMod_fit _ _ a b q (a.tmod b) w37 naw37 nb hb0 hF).mono ?_
          rintro e w38 ⟨b38, p38, l38, c38, b38', p38', l38', c38', rfl, hO38, hO38', hb38⟩
          have hBXw38 := hBXw37.trans (hb38.mono hBXw37.size)
          have naw38 := naw37.later hb38
          have nbw38 := nb.later hb38
          have nq := hO38.num
          have nr := hO38'.num
          clear hO38 hO38'
          go_wp2_with fail
          obtain ⟨x, hx⟩ : ∃ x, x = (w38.alloc (.cells #[.bool b38, .slice p38 l38 c38] 24)).alloc (.cells #[.bool b38', .slice p38' l38' c38'] 24) := ⟨_, rfl⟩
          rw [← hx]
          have hbx : Below w38.heap.size w38 x := by rw [hx]; exact ((Below.refl _ _).alloc (Nat.le_refl _) _).alloc (by simp) _
          have q11 : x.heap[w38.heap.size]? = some (.cells #[.bool b38, .slice p38 l38 c38] 24) := by rw [hx]; exact alloc_old _ _ (alloc_new _ _ rfl)
          have q12 : x.heap[w38.heap.size + 1]? = some (.cells #[.bool b38', .slice p38' l38' c38'] 24) := by rw [hx]; exact alloc_new _ _ (by rw [World.size_alloc])
          have n11 := nq.later hbx
          have n12 := nr.later hbx
          have hBx := hBXw38.trans (hbx.mono hBXw38.size)
          clear hx nq nr
          refine region_kinds (n := 9) [.val (.int .i64 0), .val (.bool true), .val (.bool true), .num (a.tmod b), .val (.int .i64 (a.tmod b)), .num ((a.tmod b) : Int), .val (.bool true), .val (.bool true), .val (.bool true), .num q, .val (.int .i64 a), .val (.int .i64 (a.tmod b)), .val (.int .i64 (a - (a.tmod b))), .val (.int .i64 b), .val (.int .i64 q), .num (q : Int), .val (.bool true), .val (.bool true), .val (.bool true)] [(0, 117), (1, 118), (2, 119), (3, 120), (4, 121), (5, 122), (6, 123), (7, 124), (8, 125), (9, 126), (10, 127), (11, 128), (12, 129), (13, 130), (14, 131), (15, 132), (16, 133), (17, 134), (18, 4)] (by kernel_rfl) (by kernel_rfl) (by kernel_rfl) ?hstep15 ?hend15
          case hstep15 =>
            intro i o ho a' W hI hM
            match i, ho with
            | 0, ho =>
              cases ho
              refine stepK_of (wanted_none rfl) ?_
              exact opMove rfl (hM.old 13 rfl) ⟨rfl, Below.refl _ _⟩
            | 1, ho =>
              cases ho
              refine stepK_of (wanted_none rfl) ?_
              exact opEql27 rfl (hM.dep ⟨0, .data⟩ (by simp) rfl 117 rfl) rfl ⟨rfl, Below.refl _ _⟩
            | 2, ho =>
              cases ho
              refine stepK_of (wanted_none rfl) ?_
              exact opMove rfl (hM.dep ⟨1, .data⟩ (by simp) rfl 118 rfl) ⟨rfl, Below.refl _ _⟩
            | 3, ho =>
              cases ho
              refine stepK_of (wantedK hM rfl rfl (hM.dep ⟨2, .guard⟩ (by simp) rfl 119 rfl) rfl (show 119 < 135 by decide)) ?_
              exact opLoad rfl (hM.old 12 rfl) ((hI.block _ (Array.getElem?_eq_some_iff.1 q12).1).trans q12) ⟨n12.later hI, Below.refl _ _⟩
            | 4, ho =>
              cases ho
              refine stepK_of (wantedK hM rfl rfl (hM.dep ⟨2, .guard⟩ (by simp) rfl 119 rfl) rfl (show 119 < 135 by decide)) ?_
              exact opMove rfl (hM.old 10 rfl) ⟨rfl, Below.refl _ _⟩
            | 5, ho =>
              cases ho
              refine stepK_of (wantedK hM rfl rfl (hM.dep ⟨2, .chain⟩ (by simp) rfl 119 rfl) rfl (show 119 < 135 by decide)) ?_
              exact opCall1 rfl may20 (hM.dep ⟨4, .data⟩ (by simp) rfl 121 rfl) (numK (num_ok ((a.tmod b)) W (by first | decide | omega) (by first | decide | omega)))
            | 6, ho =>
              cases ho
              refine stepK_of (wantedK hM rfl rfl (hM.dep ⟨2, .guard⟩ (by simp) rfl 119 rfl) rfl (show 119 < 135 by decide)) ?_
              exact opCall2 rfl may18 rfl rfl (boolK (equal_true _ _ (a.tmod b) ((a.tmod b) : Int) W (hM.dep ⟨3, .data⟩ (by simp) rfl 120 rfl) (hM.dep ⟨5, .data⟩ (by simp) rfl 122 rfl) (rfl)))
            | 7, ho =>
              cases ho
              refine stepK_of (wanted_none rfl) ?_
              exact opPick rfl (hM.dep ⟨2, .data⟩ (by simp) rfl 119 rfl) (hM.dep ⟨6, .data⟩ (by simp) rfl 123 rfl) ⟨rfl, Below.refl _ _⟩
            | 8, ho =>
              cases ho
              refine stepK_of (wanted_none rfl) ?_
              exact opMove rfl (hM.dep ⟨7, .data⟩ (by simp) rfl 124 rfl) ⟨rfl, Below.refl _ _⟩
            | 9, ho =>
              cases ho
              refine stepK_of (wantedK hM rfl rfl (hM.dep ⟨8, .guard⟩ (by simp) rfl 125 rfl) rfl (show 125 < 135 by decide)) ?_
              exact opLoad rfl (hM.old 11 rfl) ((hI.block _ (Array.getElem?_eq_some_iff.1 q11).1).trans q11) ⟨n11.later hI, Below.refl _ _⟩
            | 10, ho =>
              cases ho
              refine stepK_of (wantedK hM rfl rfl (hM.dep ⟨8, .guard⟩ (by simp) rfl 125 rfl) rfl (show 125 < 135 by decide)) ?_
              exact opMove rfl (hM.old 8 rfl) ⟨rfl, Below.refl _ _⟩
            | 11, ho =>
              cases ho
              refine stepK_of (wantedK hM rfl rfl (hM.dep ⟨8, .guard⟩ (by simp) rfl 125 rfl) rfl (show 125 < 135 by decide)) ?_
              exact opMove rfl (hM.old 10 rfl) ⟨rfl, Below.refl _ _⟩
            | 12, ho =>
              cases ho
              refine stepK_of (wantedK hM rfl rfl (hM.dep ⟨8, .guard⟩ (by simp) rfl 125 rfl) rfl (show 125 < 135 by decide)) ?_
              exact opSub3 rfl (hM.dep ⟨10, .data⟩ (by simp) rfl 127 rfl) (hM.dep ⟨11, .data⟩ (by simp) rfl 128 rfl) (by omega) (by omega) ⟨rfl, Below.refl _ _⟩
            | 13, ho =>
              cases ho
              refine stepK_of (wantedK hM rfl rfl (hM.dep ⟨8, .guard⟩ (by simp) rfl 125 rfl) rfl (show 125 < 135 by decide)) ?_
              exact opMove rfl (hM.old 9 rfl) ⟨rfl, Below.refl _ _⟩
            | 14, ho =>
              cases ho
              refine stepK_of (wantedK hM rfl rfl (hM.dep ⟨8, .guard⟩ (by simp) rfl 125 rfl) rfl (show 125 < 135 by decide)) ?_
              exact opQuo3 rfl (hM.dep ⟨12, .data⟩ (by simp) rfl 129 rfl) (hM.dep ⟨13, .data⟩ (by simp) rfl 130 rfl) hb0 hq (by omega) (by omega) ⟨rfl, Below.refl _ _⟩
            | 15, ho =>
              cases ho
              refine stepK_of (wantedK hM rfl rfl (hM.dep ⟨8, .chain⟩ (by simp) rfl 125 rfl) rfl (show 125 < 135 by decide)) ?_
              exact opCall1 rfl may20 (hM.dep ⟨14, .data⟩ (by simp) rfl 131 rfl) (numK (num_ok (q) W (by first | decide | omega) (by first | decide | omega)))
            | 16, ho =>
              cases ho
              refine stepK_of (wantedK hM rfl rfl (hM.dep ⟨8, .guard⟩ (by simp) rfl 125 rfl) rfl (show 125 < 135 by decide)) ?_
              exact opCall2 rfl may18 rfl rfl (boolK (equal_true _ _ q (q : Int) W (hM.dep ⟨9, .data⟩ (by simp) rfl 126 rfl) (hM.dep ⟨15, .data⟩ (by simp) rfl 132 rfl) (rfl)))
            | 17, ho =>
              cases ho
              refine stepK_of (wanted_none rfl) ?_
              exact opPick rfl (hM.dep ⟨8, .data⟩ (by simp) rfl 125 rfl) (hM.dep ⟨16, .data⟩ (by simp) rfl 133 rfl) ⟨rfl, Below.refl _ _⟩
            | 18, ho =>
              cases ho
              refine stepK_of (wanted_none rfl) ?_
              exact opAssign rfl (hM.dep ⟨17, .data⟩ (by simp) rfl 134 rfl) ⟨rfl, Below.refl _ _⟩
            | k + 19, ho => simp at ho
          case hend15 =>
            intro u15 W15 hI15 hV15
            have e15_18 : u15 18 = (.bool true) := hV15 18 4 rfl
            simp only [putAll, List.foldl_cons, List.foldl_nil, List.setIfInBounds_toArray, List.set_cons_zero, List.set_cons_succ, e15_18]
            clear e15_18 hV15
            have q11_15 := (hI15.block _ (Array.getElem?_eq_some_iff.1 q11).1).trans q11
            have n11_15 := n11.later hI15
            have q12_15 := (hI15.block _ (Array.getElem?_eq_some_iff.1 q12).1).trans q12
            have n12_15 := n12.later hI15
            have hBW15 := hBx.trans (hI15.mono hBx.size)
            go_wp2
            go_ret
            exact ⟨rfl, hBW15⟩
theorem Ints_any (A B : Int) (w : World) (hA : (Lit.int .i64 A).wf = true) (hB : (Lit.int .i64 B).wf = true) (htab : Tab w) : Calls Tryd.prog 10 #[.int .i64 A, .int .i64 B] w (BoolP true w) := by
  have h1 : -9223372036854775808 ≤ A ∧ A < 9223372036854775808 := by have := int_in hA; omega
  have h2 : -9223372036854775808 ≤ B ∧ B < 9223372036854775808 := by have := int_in hB; omega
  rcases (show A < B ∨ B < A ∨ A = B by omega) with h | h | h
  · exact Ints_lt A B w h1.1 h1.2 h2.1 h2.2 h htab
  · exact Ints_gt A B w h1.1 h1.2 h2.1 h2.2 h htab
  · exact Ints_eq A B w h1.1 h1.2 h2.1 h2.2 (by omega) (by omega) htab

end Go.Proofs.YtbaiohjladddlaaDoor
