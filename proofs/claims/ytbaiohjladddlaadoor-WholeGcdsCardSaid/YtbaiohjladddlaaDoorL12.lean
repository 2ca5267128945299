import Derived.Test.YtbaiohjladddlaaDoorF3
/- The law WholeGcds, walked. -/
namespace Go.Proofs.YtbaiohjladddlaaDoor
open Go.RowKit Go.WM Go.WR
attribute [local go_sem] Oper.semAt_some

theorem gcd_pos {a b : Int} (h : Int.gcd a b ≠ 0) : (0 : Int) < Int.gcd a b := by omega
theorem gcd_shift (a b c : Int) : ((Int.gcd (b + a * c) a : Nat) : Int) = ((Int.gcd a b : Nat) : Int) := by
  rw [Int.gcd_comm a b]; simp
theorem gcd_scale (a b c : Int) : ((Int.gcd (a * c) (b * c) : Nat) : Int) = ((Int.gcd a b : Nat) : Int) * (c.natAbs : Int) := by
  rw [Int.gcd_mul_right]; simp
theorem gcd_zero {a b : Int} (h : ((Int.gcd a b : Nat) : Int) = 0) : a = 0 ∧ b = 0 := Int.gcd_eq_zero_iff.1 (by omega)
theorem floor_dvd {a g : Int} (hg : 0 < g) (h : g ∣ a) : Floor a g (a / g) 0 := ⟨by rw [Int.ediv_mul_cancel h]; omega, fun _ => ⟨by omega, hg⟩, fun k => by omega⟩
theorem floor_gl {a b : Int} (h : ((Int.gcd a b : Nat) : Int) ≠ 0) : Floor a ((Int.gcd a b : Nat) : Int) (a / ((Int.gcd a b : Nat) : Int)) 0 := floor_dvd (by omega) (Int.gcd_dvd_left a b)
theorem floor_gr {a b : Int} (h : ((Int.gcd a b : Nat) : Int) ≠ 0) : Floor b ((Int.gcd a b : Nat) : Int) (b / ((Int.gcd a b : Nat) : Int)) 0 := floor_dvd (by omega) (Int.gcd_dvd_right a b)
theorem gcd_one {a b : Int} (h : ((Int.gcd a b : Nat) : Int) ≠ 0) : ((Int.gcd (a / ((Int.gcd a b : Nat) : Int)) (b / ((Int.gcd a b : Nat) : Int)) : Nat) : Int) = 1 := by
  rw [Int.gcd_ediv_gcd_ediv_gcd (by omega)]; rfl
theorem sz_abs {j k : Nat} {c : Int} (h : Sz j k c) : Sz j k (c.natAbs : Int) := by
  unfold Sz at *; rw [Int.natAbs_natCast]; exact h
theorem sz_gcd {j k : Nat} {a b : Int} (ha : Sz j k a) (hb : Sz j k b) : Sz j k ((Int.gcd a b : Nat) : Int) := by
  unfold Sz at *
  rw [Int.natAbs_natCast]
  by_cases h : a = 0
  · subst h; rw [Int.gcd_zero_left]; exact hb
  · exact Nat.lt_of_le_of_lt (Int.gcd_le_natAbs_left _ h) ha
set_option maxRecDepth 100000 in
set_option maxHeartbeats 4000000 in
theorem Gcds_any (va vb vc : Value) (na nb nc : Bool) (A B C : List Int) (w : World) (hA : Wr w.heap.size w va na A) (hB : Wr w.heap.size w vb nb B) (hC : Wr w.heap.size w vc nc C) (hla : A.length ≤ 140737488355328) (hlb : B.length ≤ 140737488355328) (hlc : C.length ≤ 140737488355328) (hma : Lm A) (hmb : Lm B) (hmc : Lm C) (htab : Tab w) : Calls Tryd.prog 3 #[va, vb, vc] w (BoolP true w) := by
  by_cases hu : (A.length ≤ 40 ∧ okB na A = true) ∧ (B.length ≤ 40 ∧ okB nb B = true) ∧ (C.length ≤ 40 ∧ okB nc C = true)
  · -- usable
    obtain ⟨⟨hua, hoa⟩, ⟨hub, hob⟩, ⟨huc, hoc⟩⟩ := hu
    obtain ⟨a, hNa, hSa⟩ := num_of_ok 1 hA (by omega) hoa hma
    obtain ⟨b, hNb, hSb⟩ := num_of_ok 1 hB (by omega) hob hmb
    obtain ⟨c, hNc, hSc⟩ := num_of_ok 1 hC (by omega) hoc hmc
    obtain ⟨sa, rfl, hLa⟩ := hA
    obtain ⟨pa, la, ca, rfl⟩ := hLa.form
    obtain ⟨sb, rfl, hLb⟩ := hB
    obtain ⟨pb, lb, cb, rfl⟩ := hLb.form
    obtain ⟨sc, rfl, hLc⟩ := hC
    obtain ⟨pc, lc, cc, rfl⟩ := hLc.form
    obtain ⟨w3, hw3⟩ : ∃ x, x = (((w.alloc (.cells #[.bool na, .slice pa la ca] 24)).alloc (.cells #[.bool nb, .slice pb lb cb] 24)).alloc (.cells #[.bool nc, .slice pc lc cc] 24)) := ⟨_, rfl⟩
    have hB3 : Below w.heap.size w w3 := by rw [hw3]; exact (((Below.refl _ w).alloc (by omega) _).alloc (by simp) _).alloc (by simp; omega) _
    have hs3 : w3.heap.size = w.heap.size + 3 := by rw [hw3]; simp
    obtain ⟨q0, q1, q2⟩ := alloc3 w (.cells #[.bool na, .slice pa la ca] 24) (.cells #[.bool nb, .slice pb lb cb] 24) (.cells #[.bool nc, .slice pc lc cc] 24)
    rw [← hw3] at q0 q1 q2
    have haw := awake_ok w3 (htab.below' hB3)
    have HW := Lib.hid hw3
    clear hw3
    go_enter Tryd.func3, Tryd.ntmps3
    go_wp2_with fail
    rw [← HW.out]
    refine haw.mono ?_
    rintro e w4 ⟨rfl, hb4⟩
    have hz4 := hb4.size
    have r0 := (hb4.block _ (Array.getElem?_eq_some_iff.1 q0).1).trans q0
    have d0 := cell_of r0 0 rfl
    have d1 := cell_of r0 1 rfl
    have r1 := (hb4.block _ (Array.getElem?_eq_some_iff.1 q1).1).trans q1
    have d2 := cell_of r1 0 rfl
    have d3 := cell_of r1 1 rfl
    have r2 := (hb4.block _ (Array.getElem?_eq_some_iff.1 q2).1).trans q2
    have d4 := cell_of r2 0 rfl
    have d5 := cell_of r2 1 rfl
    go_wp2_with fail
    obtain ⟨w5, hw5⟩ : ∃ x, x = w4.alloc (.cells #[.bool na, .slice pa la ca, .bool nb, .slice pb lb cb, .bool nc, .slice pc lc cc] 24) := ⟨_, rfl⟩
    rw [← hw5]
    have hb5 : Below w4.heap.size w4 w5 := by rw [hw5]; exact (Below.refl _ _).alloc (Nat.le_refl _) _
    have qg : w5.heap[w4.heap.size]? = some (.cells #[.bool na, .slice pa la ca, .bool nb, .slice pb lb cb, .bool nc, .slice pc lc cc] 24) := by rw [hw5]; exact alloc_new _ _ rfl
    have HW5 := Lib.hid hw5
    clear hw5 d0 d1 d2 d3 d4 d5
    have hB5 : Below w.heap.size w w5 := hB3.trans ((hb4.trans (hb5.mono hb4.size)).mono hB3.size)
    refine (usable3 w4.heap.size 40 na nb nc _ _ _ A B C w5 (Array.getElem?_eq_some_iff.1 qg).1 (by omega) hla hlb hlc qg ((hLa.below hB5).mono hB5.size) ((hLb.below hB5).mono hB5.size) ((hLc.below hB5).mono hB5.size) true ?_).mono ?_
    · exact ⟨fun _ => ⟨⟨hua, hoa⟩, ⟨hub, hob⟩, ⟨huc, hoc⟩⟩, fun _ => rfl⟩
    rintro e w6 ⟨rfl, hb6⟩
    have hB6 : Below w.heap.size w w6 := hB5.trans (hb6.mono hB5.size)
    have t0 := (hb6.block _ (Array.getElem?_eq_some_iff.1 ((hb5.block _ (Array.getElem?_eq_some_iff.1 r0).1).trans r0)).1).trans ((hb5.block _ (Array.getElem?_eq_some_iff.1 r0).1).trans r0)
    have ma : Wn w6.heap.size w6 (.agg #[.bool na, .slice pa la ca]) a := hNa.later hB6
    have t1 := (hb6.block _ (Array.getElem?_eq_some_iff.1 ((hb5.block _ (Array.getElem?_eq_some_iff.1 r1).1).trans r1)).1).trans ((hb5.block _ (Array.getElem?_eq_some_iff.1 r1).1).trans r1)
    have mb : Wn w6.heap.size w6 (.agg #[.bool nb, .slice pb lb cb]) b := hNb.later hB6
    have t2 := (hb6.block _ (Array.getElem?_eq_some_iff.1 ((hb5.block _ (Array.getElem?_eq_some_iff.1 r2).1).trans r2)).1).trans ((hb5.block _ (Array.getElem?_eq_some_iff.1 r2).1).trans r2)
    have mc : Wn w6.heap.size w6 (.agg #[.bool nc, .slice pc lc cc]) c := hNc.later hB6
    clear r0 r1 r2 q0 q1 q2 qg hz4 hs3 hNa hNb hNc hLa hLb hLc hua hoa hub hob huc hoc
    have y3_0 := cell_of t0 0 rfl
    have y3_1 := cell_of t0 1 rfl
    have y4_0 := cell_of t1 0 rfl
    have y4_1 := cell_of t1 1 rfl
    have y5_0 := cell_of t2 0 rfl
    have y5_1 := cell_of t2 1 rfl
    go_wp2_with fail
    clear y3_0 y3_1 y4_0 y4_1 y5_0 y5_1
    refine (Gcd_fit _ _ a b w6 ma mb).mono ?_
    rintro e w7 ⟨b7, p7, l7, c7, rfl, hO7, hbw7⟩
    have q3w7 := (hbw7.block _ (Array.getElem?_eq_some_iff.1 t0).1).trans t0
    have n3w7 := ma.later hbw7
    have q4w7 := (hbw7.block _ (Array.getElem?_eq_some_iff.1 t1).1).trans t1
    have n4w7 := mb.later hbw7
    have q5w7 := (hbw7.block _ (Array.getElem?_eq_some_iff.1 t2).1).trans t2
    have n5w7 := mc.later hbw7
    have hBXw7 := hB6.trans (hbw7.mono hB6.size)
    have g7 := hO7.num
    clear hO7
    have hs7 : b7 = false := by rw [g7.sign, decide_eq_false (by omega)]
    subst hs7
    obtain ⟨x7, hwx7⟩ : ∃ x, x = (w7.alloc (.cells #[.bool false, .slice p7 l7 c7] 24)) := ⟨_, rfl⟩
    have hbx7 : Below w7.heap.size w7 x7 := by rw [hwx7]; exact (Below.refl _ _).alloc (by exact Nat.le_refl _) _
    have qn7 : x7.heap[w7.heap.size]? = some (.cells #[.bool false, .slice p7 l7 c7] 24) := by rw [hwx7]; exact alloc_new _ _ rfl
    have q3x7 := (hbx7.block _ (Array.getElem?_eq_some_iff.1 q3w7).1).trans q3w7
    have n3x7 := n3w7.later hbx7
    have q4x7 := (hbx7.block _ (Array.getElem?_eq_some_iff.1 q4w7).1).trans q4w7
    have n4x7 := n4w7.later hbx7
    have q5x7 := (hbx7.block _ (Array.getElem?_eq_some_iff.1 q5w7).1).trans q5w7
    have n5x7 := n5w7.later hbx7
    have n7x7 := g7.later hbx7
    have hBYx7 := hBXw7.trans (hbx7.mono hBXw7.size)
    have y3_0 := cell_of q3x7 0 rfl
    have y3_1 := cell_of q3x7 1 rfl
    have y4_0 := cell_of q4x7 0 rfl
    have y4_1 := cell_of q4x7 1 rfl
    have y5_0 := cell_of q5x7 0 rfl
    have y5_1 := cell_of q5x7 1 rfl
    have y7_0 := cell_of qn7 0 rfl
    have y7_1 := cell_of qn7 1 rfl
    rw [hwx7] at y3_0 y3_1 y4_0 y4_1 y5_0 y5_1 y7_0 y7_1
    have HHx7 := Lib.hid hwx7
    clear hwx7
    go_wp2_with fail
    clear y3_0 y3_1 y4_0 y4_1 y5_0 y5_1 y7_0 y7_1
    rw [← HHx7.out]
    refine (Valid_num _ _ x7 n7x7).mono ?_
    rintro e w8 ⟨rfl, hbw8⟩
    have q3w8 := (hbw8.block _ (Array.getElem?_eq_some_iff.1 q3x7).1).trans q3x7
    have n3w8 := n3x7.later hbw8
    have q4w8 := (hbw8.block _ (Array.getElem?_eq_some_iff.1 q4x7).1).trans q4x7
    have n4w8 := n4x7.later hbw8
    have q5w8 := (hbw8.block _ (Array.getElem?_eq_some_iff.1 q5x7).1).trans q5x7
    have n5w8 := n5x7.later hbw8
    have q7w8 := (hbw8.block _ (Array.getElem?_eq_some_iff.1 qn7).1).trans qn7
    have n7w8 := n7x7.later hbw8
    have hBXw8 := hBYx7.trans (hbw8.mono hBYx7.size)
    go_wp2
    refine region_boxes (n := 9) [.num b, .num a, .num c, .num (a * c), .num (b + (a * c)), .num a, .pair ((Int.gcd (b + (a * c)) a : Nat) : Int) 0, .pair ((Int.gcd (b + (a * c)) a : Nat) : Int) 0, .num ((Int.gcd (b + (a * c)) a : Nat) : Int), .val (.int .i64 0), .any, .any, .val (.int .i64 0)] [(0, 41), (1, 42), (2, 43), (3, 44), (4, 45), (5, 46), (6, 47), (7, 40), (8, 48), (9, 49), (10, 9), (12, 10)] [(10, 8, 11)] (by kernel_rfl) (by kernel_rfl) (by kernel_rfl) ?hbx1 (kd_nobox rfl) (by decide) ?hstep1 ?hend1
    case hbx1 =>
      intro t ht
      simp only [List.mem_cons, List.not_mem_nil, or_false] at ht
      rcases ht with rfl
      · exact ⟨⟨_, rfl, rfl, rfl⟩, ⟨_, _, _, rfl, rfl, rfl, rfl, rfl, rfl, ⟨⟨10, .data⟩, by simp, rfl, rfl⟩, ⟨⟨8, .data⟩, by simp, rfl, rfl⟩⟩, ⟨_, rfl⟩, ⟨rfl, rfl⟩⟩
    case hstep1 =>
      intro i o ho hne a' W hI hM
      match i, ho with
      | 0, ho =>
        cases ho
        refine stepK_of (wanted_none rfl) ?_
        exact opLoad rfl (hM.old 4 rfl) ((hI.block _ (Array.getElem?_eq_some_iff.1 q4w8).1).trans q4w8) ⟨n4w8.later hI, Below.refl _ _⟩
      | 1, ho =>
        cases ho
        refine stepK_of (wanted_none rfl) ?_
        exact opLoad rfl (hM.old 3 rfl) ((hI.block _ (Array.getElem?_eq_some_iff.1 q3w8).1).trans q3w8) ⟨n3w8.later hI, Below.refl _ _⟩
      | 2, ho =>
        cases ho
        refine stepK_of (wanted_none rfl) ?_
        exact opLoad rfl (hM.old 5 rfl) ((hI.block _ (Array.getElem?_eq_some_iff.1 q5w8).1).trans q5w8) ⟨n5w8.later hI, Below.refl _ _⟩
      | 3, ho =>
        cases ho
        refine stepK_of (wanted_none rfl) ?_
        exact opCall2 rfl may17 rfl rfl (numK (product_ok _ _ a c W (hM.dep ⟨1, .data⟩ (by simp) rfl 42 rfl) (hM.dep ⟨2, .data⟩ (by simp) rfl 43 rfl) (Sz.cap (Sz.mul hSa hSc) (by decide) (by decide))))
      | 4, ho =>
        cases ho
        refine stepK_of (wanted_none rfl) ?_
        exact opCall2 rfl may16 rfl rfl (numK (sum_ok _ _ b (a * c) W (hM.dep ⟨0, .data⟩ (by simp) rfl 41 rfl) (hM.dep ⟨3, .data⟩ (by simp) rfl 44 rfl) (Sz.cap (Sz.add (j := 0) (k := 2) (hSb.up (by decide) (by decide)) (Sz.mul hSa hSc)) (by decide) (by decide))))
      | 5, ho =>
        cases ho
        refine stepK_of (wanted_none rfl) ?_
        exact opLoad rfl (hM.old 3 rfl) ((hI.block _ (Array.getElem?_eq_some_iff.1 q3w8).1).trans q3w8) ⟨n3w8.later hI, Below.refl _ _⟩
      | 6, ho =>
        cases ho
        refine stepK_of (wanted_none rfl) ?_
        exact opCall2 rfl may14 rfl rfl (pairK (Gcd_fit _ _ (b + (a * c)) a W (hM.dep ⟨4, .data⟩ (by simp) rfl 45 rfl) (hM.dep ⟨5, .data⟩ (by simp) rfl 46 rfl)))
      | 7, ho =>
        cases ho
        refine stepK_of (wanted_none rfl) ?_
        exact opMoveK rfl (hM.dep ⟨6, .data⟩ (by simp) rfl 47 rfl)
      | 8, ho =>
        cases ho
        refine stepK_of (wanted_none rfl) ?_
        exact exNum rfl (hM.dep ⟨7, .data⟩ (by simp) rfl 40 rfl)
      | 9, ho =>
        cases ho
        refine stepK_of (wanted_none rfl) ?_
        exact exErr rfl (hM.dep ⟨7, .data⟩ (by simp) rfl 40 rfl)
      | 10, ho =>
        cases ho
        exact absurd rfl (hne (10, 8, 11) (by simp)).1
      | 11, ho =>
        cases ho
        exact absurd rfl (hne (10, 8, 11) (by simp)).2
      | 12, ho =>
        cases ho
        refine stepK_of (wanted_none rfl) ?_
        exact opAssign rfl (hM.dep ⟨9, .data⟩ (by simp) rfl 49 rfl) ⟨rfl, Below.refl _ _⟩
      | k + 13, ho => simp at ho
    case hend1 =>
      intro u1 W1 hI1 hV1 hX1
      obtain ⟨B9, e9, hn9, bb9, pp9, ll9, cc9, ev9, qB9⟩ := hX1 (10, 8, 11) (by simp)
      have hs9 : KV (.num ((Int.gcd (b + (a * c)) a : Nat) : Int)) (u1 8) W1 := hV1 8 48 rfl
      rw [ev9] at hs9
      have ea12 : u1 12 = (.int .i64 0) := hV1 12 10 rfl
      simp only [putAll, List.foldl_cons, List.foldl_nil, List.setIfInBounds_toArray, List.set_cons_zero, List.set_cons_succ, e9, ev9, ea12]
      clear e9 ev9 ea12 hV1 hX1
      have q3_1 := (hI1.block _ (Array.getElem?_eq_some_iff.1 q3w8).1).trans q3w8
      have n3_1 := n3w8.later hI1
      have q4_1 := (hI1.block _ (Array.getElem?_eq_some_iff.1 q4w8).1).trans q4w8
      have n4_1 := n4w8.later hI1
      have q5_1 := (hI1.block _ (Array.getElem?_eq_some_iff.1 q5w8).1).trans q5w8
      have n5_1 := n5w8.later hI1
      have q7_1 := (hI1.block _ (Array.getElem?_eq_some_iff.1 q7w8).1).trans q7w8
      have n7_1 := n7w8.later hI1
      have hBW1 := hBXw8.trans (hI1.mono hBXw8.size)
      go_wp2
      refine region_boxes (n := 9) [.num a, .num c, .num (a * c), .num b, .num c, .num (b * c), .pair ((Int.gcd (a * c) (b * c) : Nat) : Int) 0, .pair ((Int.gcd (a * c) (b * c) : Nat) : Int) 0, .num ((Int.gcd (a * c) (b * c) : Nat) : Int), .val (.int .i64 0), .any, .any, .val (.int .i64 0)] [(0, 51), (1, 52), (2, 53), (3, 54), (4, 55), (5, 56), (6, 57), (7, 50), (8, 58), (9, 59), (10, 11), (12, 12)] [(10, 8, 11)] (by kernel_rfl) (by kernel_rfl) (by kernel_rfl) ?hbx2 (kd_nobox rfl) (by decide) ?hstep2 ?hend2
      case hbx2 =>
        intro t ht
        simp only [List.mem_cons, List.not_mem_nil, or_false] at ht
        rcases ht with rfl
        · exact ⟨⟨_, rfl, rfl, rfl⟩, ⟨_, _, _, rfl, rfl, rfl, rfl, rfl, rfl, ⟨⟨10, .data⟩, by simp, rfl, rfl⟩, ⟨⟨8, .data⟩, by simp, rfl, rfl⟩⟩, ⟨_, rfl⟩, ⟨rfl, rfl⟩⟩
      case hstep2 =>
        intro i o ho hne a' W hI hM
        match i, ho with
        | 0, ho =>
          cases ho
          refine stepK_of (wanted_none rfl) ?_
          exact opLoad rfl (hM.old 3 rfl) ((hI.block _ (Array.getElem?_eq_some_iff.1 q3_1).1).trans q3_1) ⟨n3_1.later hI, Below.refl _ _⟩
        | 1, ho =>
          cases ho
          refine stepK_of (wanted_none rfl) ?_
          exact opLoad rfl (hM.old 5 rfl) ((hI.block _ (Array.getElem?_eq_some_iff.1 q5_1).1).trans q5_1) ⟨n5_1.later hI, Below.refl _ _⟩
        | 2, ho =>
          cases ho
          refine stepK_of (wanted_none rfl) ?_
          exact opCall2 rfl may17 rfl rfl (numK (product_ok _ _ a c W (hM.dep ⟨0, .data⟩ (by simp) rfl 51 rfl) (hM.dep ⟨1, .data⟩ (by simp) rfl 52 rfl) (Sz.cap (Sz.mul hSa hSc) (by decide) (by decide))))
        | 3, ho =>
          cases ho
          refine stepK_of (wanted_none rfl) ?_
          exact opLoad rfl (hM.old 4 rfl) ((hI.block _ (Array.getElem?_eq_some_iff.1 q4_1).1).trans q4_1) ⟨n4_1.later hI, Below.refl _ _⟩
        | 4, ho =>
          cases ho
          refine stepK_of (wanted_none rfl) ?_
          exact opLoad rfl (hM.old 5 rfl) ((hI.block _ (Array.getElem?_eq_some_iff.1 q5_1).1).trans q5_1) ⟨n5_1.later hI, Below.refl _ _⟩
        | 5, ho =>
          cases ho
          refine stepK_of (wanted_none rfl) ?_
          exact opCall2 rfl may17 rfl rfl (numK (product_ok _ _ b c W (hM.dep ⟨3, .data⟩ (by simp) rfl 54 rfl) (hM.dep ⟨4, .data⟩ (by simp) rfl 55 rfl) (Sz.cap (Sz.mul hSb hSc) (by decide) (by decide))))
        | 6, ho =>
          cases ho
          refine stepK_of (wanted_none rfl) ?_
          exact opCall2 rfl may14 rfl rfl (pairK (Gcd_fit _ _ (a * c) (b * c) W (hM.dep ⟨2, .data⟩ (by simp) rfl 53 rfl) (hM.dep ⟨5, .data⟩ (by simp) rfl 56 rfl)))
        | 7, ho =>
          cases ho
          refine stepK_of (wanted_none rfl) ?_
          exact opMoveK rfl (hM.dep ⟨6, .data⟩ (by simp) rfl 57 rfl)
        | 8, ho =>
          cases ho
          refine stepK_of (wanted_none rfl) ?_
          exact exNum rfl (hM.dep ⟨7, .data⟩ (by simp) rfl 50 rfl)
        | 9, ho =>
          cases ho
          refine stepK_of (wanted_none rfl) ?_
          exact exErr rfl (hM.dep ⟨7, .data⟩ (by simp) rfl 50 rfl)
        | 10, ho =>
          cases ho
          exact absurd rfl (hne (10, 8, 11) (by simp)).1
        | 11, ho =>
          cases ho
          exact absurd rfl (hne (10, 8, 11) (by simp)).2
        | 12, ho =>
          cases ho
          refine stepK_of (wanted_none rfl) ?_
          exact opAssign rfl (hM.dep ⟨9, .data⟩ (by simp) rfl 59 rfl) ⟨rfl, Below.refl _ _⟩
        | k + 13, ho => simp at ho
      case hend2 =>
        intro u2 W2 hI2 hV2 hX2
        obtain ⟨B11, e11, hn11, bb11, pp11, ll11, cc11, ev11, qB11⟩ := hX2 (10, 8, 11) (by simp)
        have hs11 : KV (.num ((Int.gcd (a * c) (b * c) : Nat) : Int)) (u2 8) W2 := hV2 8 58 rfl
        rw [ev11] at hs11
        have ea12 : u2 12 = (.int .i64 0) := hV2 12 12 rfl
        simp only [putAll, List.foldl_cons, List.foldl_nil, List.setIfInBounds_toArray, List.set_cons_zero, List.set_cons_succ, e11, ev11, ea12]
        clear e11 ev11 ea12 hV2 hX2
        have q3_2 := (hI2.block _ (Array.getElem?_eq_some_iff.1 q3_1).1).trans q3_1
        have n3_2 := n3_1.later hI2
        have q4_2 := (hI2.block _ (Array.getElem?_eq_some_iff.1 q4_1).1).trans q4_1
        have n4_2 := n4_1.later hI2
        have q5_2 := (hI2.block _ (Array.getElem?_eq_some_iff.1 q5_1).1).trans q5_1
        have n5_2 := n5_1.later hI2
        have q7_2 := (hI2.block _ (Array.getElem?_eq_some_iff.1 q7_1).1).trans q7_1
        have n7_2 := n7_1.later hI2
        have q9_2 := (hI2.block _ (Array.getElem?_eq_some_iff.1 qB9).1).trans qB9
        have n9_2 := hs9.later hI2
        have hBW2 := hBW1.trans (hI2.mono hBW1.size)
        go_wp2
        refine region_kinds (n := 9) [.val (.int .i64 0), .val (.bool false), .val (.bool false), .val (.int .i64 0), .val (.bool false), .val (.bool false), .val (.bool false), .num ((Int.gcd (b + (a * c)) a : Nat) : Int), .num ((Int.gcd a b : Nat) : Int), .val (.bool true), .val (.bool false), .val (.bool false), .val (.bool false), .num ((Int.gcd (a * c) (b * c) : Nat) : Int), .num ((Int.gcd a b : Nat) : Int), .val (Value.pointer (some ⟨w.heap.size + 1 + 1, 1, none⟩)), .val (Value.slice pc lc cc), .num (c.natAbs : Int), .num (((Int.gcd a b : Nat) : Int) * (c.natAbs : Int)), .val (.bool true), .val (.bool false), .val (.bool false)] [(0, 60), (1, 61), (2, 62), (3, 63), (4, 64), (5, 65), (6, 66), (7, 67), (8, 68), (9, 69), (10, 70), (11, 71), (12, 72), (13, 73), (14, 74), (15, 75), (16, 76), (17, 77), (18, 78), (19, 79), (20, 80), (21, 81)] (by kernel_rfl) (by kernel_rfl) (by kernel_rfl) ?hstep3 ?hend3
        case hstep3 =>
          intro i o ho a' W hI hM
          match i, ho with
          | 0, ho =>
            cases ho
            refine stepK_of (wanted_none rfl) ?_
            exact opMove rfl (hM.old 10 rfl) ⟨rfl, Below.refl _ _⟩
          | 1, ho =>
            cases ho
            refine stepK_of (wanted_none rfl) ?_
            exact opNeq27 rfl (hM.dep ⟨0, .data⟩ (by simp) rfl 60 rfl) rfl ⟨rfl, Below.refl _ _⟩
          | 2, ho =>
            cases ho
            refine stepK_of (wanted_none rfl) ?_
            exact opMove rfl (hM.dep ⟨1, .data⟩ (by simp) rfl 61 rfl) ⟨rfl, Below.refl _ _⟩
          | 3, ho =>
            cases ho
            refine stepK_of (wantedK hM rfl rfl (hM.dep ⟨2, .guard⟩ (by simp) rfl 62 rfl) rfl (show 62 < 113 by decide)) ?_
            exact opMove rfl (hM.old 12 rfl) ⟨rfl, Below.refl _ _⟩
          | 4, ho =>
            cases ho
            refine stepK_of (wantedK hM rfl rfl (hM.dep ⟨2, .guard⟩ (by simp) rfl 62 rfl) rfl (show 62 < 113 by decide)) ?_
            exact opNeq27 rfl (hM.dep ⟨3, .data⟩ (by simp) rfl 63 rfl) rfl ⟨rfl, Below.refl _ _⟩
          | 5, ho =>
            cases ho
            refine stepK_of (wanted_none rfl) ?_
            exact opPick rfl (hM.dep ⟨2, .data⟩ (by simp) rfl 62 rfl) (hM.dep ⟨4, .data⟩ (by simp) rfl 64 rfl) ⟨rfl, Below.refl _ _⟩
          | 6, ho =>
            cases ho
            refine stepK_of (wanted_none rfl) ?_
            exact opMove rfl (hM.dep ⟨5, .data⟩ (by simp) rfl 65 rfl) ⟨rfl, Below.refl _ _⟩
          | 7, ho =>
            cases ho
            refine stepK_of (wantedK hM rfl rfl (hM.dep ⟨6, .guard⟩ (by simp) rfl 66 rfl) rfl (show 66 < 113 by decide)) ?_
            exact opLoad rfl (hM.old 9 rfl) ((hI.block _ (Array.getElem?_eq_some_iff.1 q9_2).1).trans q9_2) ⟨n9_2.later hI, Below.refl _ _⟩
          | 8, ho =>
            cases ho
            refine stepK_of (wantedK hM rfl rfl (hM.dep ⟨6, .guard⟩ (by simp) rfl 66 rfl) rfl (show 66 < 113 by decide)) ?_
            exact opLoad rfl (hM.old 7 rfl) ((hI.block _ (Array.getElem?_eq_some_iff.1 q7_2).1).trans q7_2) ⟨n7_2.later hI, Below.refl _ _⟩
          | 9, ho =>
            cases ho
            refine stepK_of (wantedK hM rfl rfl (hM.dep ⟨6, .chain⟩ (by simp) rfl 66 rfl) rfl (show 66 < 113 by decide)) ?_
            exact opCall2 rfl may18 rfl rfl (boolK (equal_true _ _ ((Int.gcd (b + (a * c)) a : Nat) : Int) ((Int.gcd a b : Nat) : Int) W (hM.dep ⟨7, .data⟩ (by simp) rfl 67 rfl) (hM.dep ⟨8, .data⟩ (by simp) rfl 68 rfl) (gcd_shift a b c)))
          | 10, ho =>
            cases ho
            refine stepK_of (wantedK hM rfl rfl (hM.dep ⟨6, .guard⟩ (by simp) rfl 66 rfl) rfl (show 66 < 113 by decide)) ?_
            exact opNot rfl (hM.dep ⟨9, .data⟩ (by simp) rfl 69 rfl) ⟨rfl, Below.refl _ _⟩
          | 11, ho =>
            cases ho
            refine stepK_of (wanted_none rfl) ?_
            exact opPick rfl (hM.dep ⟨6, .data⟩ (by simp) rfl 66 rfl) (hM.dep ⟨10, .data⟩ (by simp) rfl 70 rfl) ⟨rfl, Below.refl _ _⟩
          | 12, ho =>
            cases ho
            refine stepK_of (wanted_none rfl) ?_
            exact opMove rfl (hM.dep ⟨11, .data⟩ (by simp) rfl 71 rfl) ⟨rfl, Below.refl _ _⟩
          | 13, ho =>
            cases ho
            refine stepK_of (wantedK hM rfl rfl (hM.dep ⟨12, .guard⟩ (by simp) rfl 72 rfl) rfl (show 72 < 113 by decide)) ?_
            exact opLoad rfl (hM.old 11 rfl) ((hI.block _ (Array.getElem?_eq_some_iff.1 qB11).1).trans qB11) ⟨hs11.later hI, Below.refl _ _⟩
          | 14, ho =>
            cases ho
            refine stepK_of (wantedK hM rfl rfl (hM.dep ⟨12, .guard⟩ (by simp) rfl 72 rfl) rfl (show 72 < 113 by decide)) ?_
            exact opLoad rfl (hM.old 7 rfl) ((hI.block _ (Array.getElem?_eq_some_iff.1 q7_2).1).trans q7_2) ⟨n7_2.later hI, Below.refl _ _⟩
          | 15, ho =>
            cases ho
            refine stepK_of (wantedK hM rfl rfl (hM.dep ⟨12, .guard⟩ (by simp) rfl 72 rfl) rfl (show 72 < 113 by decide)) ?_
            exact opField (k := 1) (by decide) rfl (hM.old 5 rfl) ⟨rfl, Below.refl _ _⟩
          | 16, ho =>
            cases ho
            refine stepK_of (wantedK hM rfl rfl (hM.dep ⟨12, .guard⟩ (by simp) rfl 72 rfl) rfl (show 72 < 113 by decide)) ?_
            exact opLoad22 rfl (hM.dep ⟨15, .data⟩ (by simp) rfl 75 rfl) ((hI.block _ (Array.getElem?_eq_some_iff.1 q5_2).1).trans q5_2) ⟨rfl, Below.refl _ _⟩
          | 17, ho =>
            cases ho
            refine stepK_of (wantedK hM rfl rfl (hM.dep ⟨12, .guard⟩ (by simp) rfl 72 rfl) rfl (show 72 < 113 by decide)) ?_
            exact opBuild1 rfl (hM.dep ⟨16, .data⟩ (by simp) rfl 76 rfl) ⟨(Wn.abs n5_2).later hI, Below.refl _ _⟩
          | 18, ho =>
            cases ho
            refine stepK_of (wantedK hM rfl rfl (hM.dep ⟨12, .chain⟩ (by simp) rfl 72 rfl) rfl (show 72 < 113 by decide)) ?_
            exact opCall2 rfl may17 rfl rfl (numK (product_ok _ _ ((Int.gcd a b : Nat) : Int) (c.natAbs : Int) W (hM.dep ⟨14, .data⟩ (by simp) rfl 74 rfl) (hM.dep ⟨17, .data⟩ (by simp) rfl 77 rfl) (Sz.cap (Sz.mul (sz_gcd hSa hSb) (sz_abs hSc)) (by decide) (by decide))))
          | 19, ho =>
            cases ho
            refine stepK_of (wantedK hM rfl rfl (hM.dep ⟨12, .guard⟩ (by simp) rfl 72 rfl) rfl (show 72 < 113 by decide)) ?_
            exact opCall2 rfl may18 rfl rfl (boolK (equal_true _ _ ((Int.gcd (a * c) (b * c) : Nat) : Int) (((Int.gcd a b : Nat) : Int) * (c.natAbs : Int)) W (hM.dep ⟨13, .data⟩ (by simp) rfl 73 rfl) (hM.dep ⟨18, .data⟩ (by simp) rfl 78 rfl) (gcd_scale a b c)))
          | 20, ho =>
            cases ho
            refine stepK_of (wantedK hM rfl rfl (hM.dep ⟨12, .guard⟩ (by simp) rfl 72 rfl) rfl (show 72 < 113 by decide)) ?_
            exact opNot rfl (hM.dep ⟨19, .data⟩ (by simp) rfl 79 rfl) ⟨rfl, Below.refl _ _⟩
          | 21, ho =>
            cases ho
            refine stepK_of (wanted_none rfl) ?_
            exact opPick rfl (hM.dep ⟨12, .data⟩ (by simp) rfl 72 rfl) (hM.dep ⟨20, .data⟩ (by simp) rfl 80 rfl) ⟨rfl, Below.refl _ _⟩
          | k + 22, ho => simp at ho
        case hend3 =>
          intro u3 W3 hI3 hV3
          have e3_21 : u3 21 = (.bool false) := hV3 21 81 rfl
          simp only [putAll, List.foldl_cons, List.foldl_nil, List.setIfInBounds_toArray, List.set_cons_zero, List.set_cons_succ, e3_21]
          clear e3_21 hV3
          have q3_3 := (hI3.block _ (Array.getElem?_eq_some_iff.1 q3_2).1).trans q3_2
          have n3_3 := n3_2.later hI3
          have q4_3 := (hI3.block _ (Array.getElem?_eq_some_iff.1 q4_2).1).trans q4_2
          have n4_3 := n4_2.later hI3
          have q5_3 := (hI3.block _ (Array.getElem?_eq_some_iff.1 q5_2).1).trans q5_2
          have n5_3 := n5_2.later hI3
          have q7_3 := (hI3.block _ (Array.getElem?_eq_some_iff.1 q7_2).1).trans q7_2
          have n7_3 := n7_2.later hI3
          have q9_3 := (hI3.block _ (Array.getElem?_eq_some_iff.1 q9_2).1).trans q9_2
          have n9_3 := n9_2.later hI3
          have q11_3 := (hI3.block _ (Array.getElem?_eq_some_iff.1 qB11).1).trans qB11
          have n11_3 := hs11.later hI3
          have hBW3 := hBW2.trans (hI3.mono hBW2.size)
          have y3_0 := cell_of q3_3 0 rfl
          have y3_1 := cell_of q3_3 1 rfl
          have y4_0 := cell_of q4_3 0 rfl
          have y4_1 := cell_of q4_3 1 rfl
          have y5_0 := cell_of q5_3 0 rfl
          have y5_1 := cell_of q5_3 1 rfl
          have y7_0 := cell_of q7_3 0 rfl
          have y7_1 := cell_of q7_3 1 rfl
          by_cases h7 : l7 = 0
          · -- both are 0
            obtain ⟨za, zb⟩ := gcd_zero ((Wn.len n7_3).1 h7)
            have l7' : ((l7 : Int) == 0) = true := by rw [h7]; rfl
            have la' : ((la : Int) == 0) = true := by rw [(Wn.len n3_3).2 za]; rfl
            have lb' : ((lb : Int) == 0) = true := by rw [(Wn.len n4_3).2 zb]; rfl
            clear h7 za zb
            go_wp2
            go_ret
            exact ⟨rfl, hBW3⟩
          · have hg0 : ((Int.gcd a b : Nat) : Int) ≠ 0 := fun e => h7 ((Wn.len n7_3).2 e)
            have l7' : ((l7 : Int) == 0) = false := by rw [beq_eq_false_iff_ne]; omega
            clear h7
            go_wp2
            clear y3_0 y3_1 y4_0 y4_1 y5_0 y5_1 y7_0 y7_1
            refine region_boxes (n := 9) [.num a, .num ((Int.gcd a b : Nat) : Int), .num (a / ((Int.gcd a b : Nat) : Int)), .num b, .num ((Int.gcd a b : Nat) : Int), .num (b / ((Int.gcd a b : Nat) : Int)), .pair ((Int.gcd (a / ((Int.gcd a b : Nat) : Int)) (b / ((Int.gcd a b : Nat) : Int)) : Nat) : Int) 0, .pair ((Int.gcd (a / ((Int.gcd a b : Nat) : Int)) (b / ((Int.gcd a b : Nat) : Int)) : Nat) : Int) 0, .num ((Int.gcd (a / ((Int.gcd a b : Nat) : Int)) (b / ((Int.gcd a b : Nat) : Int)) : Nat) : Int), .val (.int .i64 0), .any, .any, .val (.int .i64 0)] [(0, 97), (1, 98), (2, 99), (3, 100), (4, 101), (5, 102), (6, 103), (7, 96), (8, 104), (9, 105), (10, 13), (12, 14)] [(10, 8, 11)] (by kernel_rfl) (by kernel_rfl) (by kernel_rfl) ?hbx4 (kd_nobox rfl) (by decide) ?hstep4 ?hend4
            case hbx4 =>
              intro t ht
              simp only [List.mem_cons, List.not_mem_nil, or_false] at ht
              rcases ht with rfl
              · exact ⟨⟨_, rfl, rfl, rfl⟩, ⟨_, _, _, rfl, rfl, rfl, rfl, rfl, rfl, ⟨⟨10, .data⟩, by simp, rfl, rfl⟩, ⟨⟨8, .data⟩, by simp, rfl, rfl⟩⟩, ⟨_, rfl⟩, ⟨rfl, rfl⟩⟩
            case hstep4 =>
              intro i o ho hne a' W hI hM
              match i, ho with
              | 0, ho =>
                cases ho
                refine stepK_of (wanted_none rfl) ?_
                exact opLoad rfl (hM.old 3 rfl) ((hI.block _ (Array.getElem?_eq_some_iff.1 q3_3).1).trans q3_3) ⟨n3_3.later hI, Below.refl _ _⟩
              | 1, ho =>
                cases ho
                refine stepK_of (wanted_none rfl) ?_
                exact opLoad rfl (hM.old 7 rfl) ((hI.block _ (Array.getElem?_eq_some_iff.1 q7_3).1).trans q7_3) ⟨n7_3.later hI, Below.refl _ _⟩
              | 2, ho =>
                cases ho
                refine stepK_of (wanted_none rfl) ?_
                exact opCall2 rfl may19 rfl rfl (numK (divided_ok _ _ a ((Int.gcd a b : Nat) : Int) (a / ((Int.gcd a b : Nat) : Int)) W (hM.dep ⟨0, .data⟩ (by simp) rfl 97 rfl) (hM.dep ⟨1, .data⟩ (by simp) rfl 98 rfl) hg0 (floor_gl hg0)))
              | 3, ho =>
                cases ho
                refine stepK_of (wanted_none rfl) ?_
                exact opLoad rfl (hM.old 4 rfl) ((hI.block _ (Array.getElem?_eq_some_iff.1 q4_3).1).trans q4_3) ⟨n4_3.later hI, Below.refl _ _⟩
              | 4, ho =>
                cases ho
                refine stepK_of (wanted_none rfl) ?_
                exact opLoad rfl (hM.old 7 rfl) ((hI.block _ (Array.getElem?_eq_some_iff.1 q7_3).1).trans q7_3) ⟨n7_3.later hI, Below.refl _ _⟩
              | 5, ho =>
                cases ho
                refine stepK_of (wanted_none rfl) ?_
                exact opCall2 rfl may19 rfl rfl (numK (divided_ok _ _ b ((Int.gcd a b : Nat) : Int) (b / ((Int.gcd a b : Nat) : Int)) W (hM.dep ⟨3, .data⟩ (by simp) rfl 100 rfl) (hM.dep ⟨4, .data⟩ (by simp) rfl 101 rfl) hg0 (floor_gr hg0)))
              | 6, ho =>
                cases ho
                refine stepK_of (wanted_none rfl) ?_
                exact opCall2 rfl may14 rfl rfl (pairK (Gcd_fit _ _ (a / ((Int.gcd a b : Nat) : Int)) (b / ((Int.gcd a b : Nat) : Int)) W (hM.dep ⟨2, .data⟩ (by simp) rfl 99 rfl) (hM.dep ⟨5, .data⟩ (by simp) rfl 102 rfl)))
              | 7, ho =>
                cases ho
                refine stepK_of (wanted_none rfl) ?_
                exact opMoveK rfl (hM.dep ⟨6, .data⟩ (by simp) rfl 103 rfl)
              | 8, ho =>
                cases ho
                refine stepK_of (wanted_none rfl) ?_
                exact exNum rfl (hM.dep ⟨7, .data⟩ (by simp) rfl 96 rfl)
              | 9, ho =>
                cases ho
                refine stepK_of (wanted_none rfl) ?_
                exact exErr rfl (hM.dep ⟨7, .data⟩ (by simp) rfl 96 rfl)
              | 10, ho =>
                cases ho
                exact absurd rfl (hne (10, 8, 11) (by simp)).1
              | 11, ho =>
                cases ho
                exact absurd rfl (hne (10, 8, 11) (by simp)).2
              | 12, ho =>
                cases ho
                refine stepK_of (wanted_none rfl) ?_
                exact opAssign rfl (hM.dep ⟨9, .data⟩ (by simp) rfl 105 rfl) ⟨rfl, Below.refl _ _⟩
              | k + 13, ho => simp at ho
            case hend4 =>
              intro u4 W4 hI4 hV4 hX4
              obtain ⟨B13, e13, hn13, bb13, pp13, ll13, cc13, ev13, qB13⟩ := hX4 (10, 8, 11) (by simp)
              have hs13 : KV (.num ((Int.gcd (a / ((Int.gcd a b : Nat) : Int)) (b / ((Int.gcd a b : Nat) : Int)) : Nat) : Int)) (u4 8) W4 := hV4 8 104 rfl
              rw [ev13] at hs13
              have ea12 : u4 12 = (.int .i64 0) := hV4 12 14 rfl
              simp only [putAll, List.foldl_cons, List.foldl_nil, List.setIfInBounds_toArray, List.set_cons_zero, List.set_cons_succ, e13, ev13, ea12]
              clear e13 ev13 ea12 hV4 hX4
              have q3_4 := (hI4.block _ (Array.getElem?_eq_some_iff.1 q3_3).1).trans q3_3
              have n3_4 := n3_3.later hI4
              have q4_4 := (hI4.block _ (Array.getElem?_eq_some_iff.1 q4_3).1).trans q4_3
              have n4_4 := n4_3.later hI4
              have q5_4 := (hI4.block _ (Array.getElem?_eq_some_iff.1 q5_3).1).trans q5_3
              have n5_4 := n5_3.later hI4
              have q7_4 := (hI4.block _ (Array.getElem?_eq_some_iff.1 q7_3).1).trans q7_3
              have n7_4 := n7_3.later hI4
              have q9_4 := (hI4.block _ (Array.getElem?_eq_some_iff.1 q9_3).1).trans q9_3
              have n9_4 := n9_3.later hI4
              have q11_4 := (hI4.block _ (Array.getElem?_eq_some_iff.1 q11_3).1).trans q11_3
              have n11_4 := n11_3.later hI4
              have hBW4 := hBW3.trans (hI4.mono hBW3.size)
              go_wp2
              refine region_kinds (n := 9) [.val (.int .i64 0), .val (.bool true), .val (.bool true), .num ((Int.gcd (a / ((Int.gcd a b : Nat) : Int)) (b / ((Int.gcd a b : Nat) : Int)) : Nat) : Int), .num (1 : Int), .val (.bool true), .val (.bool true), .val (.bool true)] [(0, 106), (1, 107), (2, 108), (3, 109), (4, 110), (5, 111), (6, 112), (7, 6)] (by kernel_rfl) (by kernel_rfl) (by kernel_rfl) ?hstep5 ?hend5
              case hstep5 =>
                intro i o ho a' W hI hM
                match i, ho with
                | 0, ho =>
                  cases ho
                  refine stepK_of (wanted_none rfl) ?_
                  exact opMove rfl (hM.old 14 rfl) ⟨rfl, Below.refl _ _⟩
                | 1, ho =>
                  cases ho
                  refine stepK_of (wanted_none rfl) ?_
                  exact opEql27 rfl (hM.dep ⟨0, .data⟩ (by simp) rfl 106 rfl) rfl ⟨rfl, Below.refl _ _⟩
                | 2, ho =>
                  cases ho
                  refine stepK_of (wanted_none rfl) ?_
                  exact opMove rfl (hM.dep ⟨1, .data⟩ (by simp) rfl 107 rfl) ⟨rfl, Below.refl _ _⟩
                | 3, ho =>
                  cases ho
                  refine stepK_of (wantedK hM rfl rfl (hM.dep ⟨2, .guard⟩ (by simp) rfl 108 rfl) rfl (show 108 < 113 by decide)) ?_
                  exact opLoad rfl (hM.old 13 rfl) ((hI.block _ (Array.getElem?_eq_some_iff.1 qB13).1).trans qB13) ⟨hs13.later hI, Below.refl _ _⟩
                | 4, ho =>
                  cases ho
                  refine stepK_of (wantedK hM rfl rfl (hM.dep ⟨2, .chain⟩ (by simp) rfl 108 rfl) rfl (show 108 < 113 by decide)) ?_
                  exact opCall1 rfl may20 rfl (numK (num_ok (1) W (by first | decide | omega) (by first | decide | omega)))
                | 5, ho =>
                  cases ho
                  refine stepK_of (wantedK hM rfl rfl (hM.dep ⟨2, .guard⟩ (by simp) rfl 108 rfl) rfl (show 108 < 113 by decide)) ?_
                  exact opCall2 rfl may18 rfl rfl (boolK (equal_true _ _ ((Int.gcd (a / ((Int.gcd a b : Nat) : Int)) (b / ((Int.gcd a b : Nat) : Int)) : Nat) : Int) (1 : Int) W (hM.dep ⟨3, .data⟩ (by simp) rfl 109 rfl) (hM.dep ⟨4, .data⟩ (by simp) rfl 110 rfl) (gcd_one hg0)))
                | 6, ho =>
                  cases ho
                  refine stepK_of (wanted_none rfl) ?_
                  exact opPick rfl (hM.dep ⟨2, .data⟩ (by simp) rfl 108 rfl) (hM.dep ⟨5, .data⟩ (by simp) rfl 111 rfl) ⟨rfl, Below.refl _ _⟩
                | 7, ho =>
                  cases ho
                  refine stepK_of (wanted_none rfl) ?_
                  exact opAssign rfl (hM.dep ⟨6, .data⟩ (by simp) rfl 112 rfl) ⟨rfl, Below.refl _ _⟩
                | k + 8, ho => simp at ho
              case hend5 =>
                intro u5 W5 hI5 hV5
                have e5_7 : u5 7 = (.bool true) := hV5 7 6 rfl
                simp only [putAll, List.foldl_cons, List.foldl_nil, List.setIfInBounds_toArray, List.set_cons_zero, List.set_cons_succ, e5_7]
                clear e5_7 hV5
                have q3_5 := (hI5.block _ (Array.getElem?_eq_some_iff.1 q3_4).1).trans q3_4
                have n3_5 := n3_4.later hI5
                have q4_5 := (hI5.block _ (Array.getElem?_eq_some_iff.1 q4_4).1).trans q4_4
                have n4_5 := n4_4.later hI5
                have q5_5 := (hI5.block _ (Array.getElem?_eq_some_iff.1 q5_4).1).trans q5_4
                have n5_5 := n5_4.later hI5
                have q7_5 := (hI5.block _ (Array.getElem?_eq_some_iff.1 q7_4).1).trans q7_4
                have n7_5 := n7_4.later hI5
                have q9_5 := (hI5.block _ (Array.getElem?_eq_some_iff.1 q9_4).1).trans q9_4
                have n9_5 := n9_4.later hI5
                have q11_5 := (hI5.block _ (Array.getElem?_eq_some_iff.1 q11_4).1).trans q11_4
                have n11_5 := n11_4.later hI5
                have q13_5 := (hI5.block _ (Array.getElem?_eq_some_iff.1 qB13).1).trans qB13
                have n13_5 := hs13.later hI5
                have hBW5 := hBW4.trans (hI5.mono hBW4.size)
                go_wp2
                go_ret
                exact ⟨rfl, hBW5⟩
  · -- not usable
    obtain ⟨sa, rfl, hLa⟩ := hA
    obtain ⟨pa, la, ca, rfl⟩ := hLa.form
    obtain ⟨sb, rfl, hLb⟩ := hB
    obtain ⟨pb, lb, cb, rfl⟩ := hLb.form
    obtain ⟨sc, rfl, hLc⟩ := hC
    obtain ⟨pc, lc, cc, rfl⟩ := hLc.form
    obtain ⟨w3, hw3⟩ : ∃ x, x = (((w.alloc (.cells #[.bool na, .slice pa la ca] 24)).alloc (.cells #[.bool nb, .slice pb lb cb] 24)).alloc (.cells #[.bool nc, .slice pc lc cc] 24)) := ⟨_, rfl⟩
    have hB3 : Below w.heap.size w w3 := by rw [hw3]; exact (((Below.refl _ w).alloc (by omega) _).alloc (by simp) _).alloc (by simp; omega) _
    have hs3 : w3.heap.size = w.heap.size + 3 := by rw [hw3]; simp
    obtain ⟨q0, q1, q2⟩ := alloc3 w (.cells #[.bool na, .slice pa la ca] 24) (.cells #[.bool nb, .slice pb lb cb] 24) (.cells #[.bool nc, .slice pc lc cc] 24)
    rw [← hw3] at q0 q1 q2
    have haw := awake_ok w3 (htab.below' hB3)
    have HW := Lib.hid hw3
    clear hw3
    go_enter Tryd.func3, Tryd.ntmps3
    go_wp2_with fail
    rw [← HW.out]
    refine haw.mono ?_
    rintro e w4 ⟨rfl, hb4⟩
    have hz4 := hb4.size
    have r0 := (hb4.block _ (Array.getElem?_eq_some_iff.1 q0).1).trans q0
    have d0 := cell_of r0 0 rfl
    have d1 := cell_of r0 1 rfl
    have r1 := (hb4.block _ (Array.getElem?_eq_some_iff.1 q1).1).trans q1
    have d2 := cell_of r1 0 rfl
    have d3 := cell_of r1 1 rfl
    have r2 := (hb4.block _ (Array.getElem?_eq_some_iff.1 q2).1).trans q2
    have d4 := cell_of r2 0 rfl
    have d5 := cell_of r2 1 rfl
    go_wp2_with fail
    obtain ⟨w5, hw5⟩ : ∃ x, x = w4.alloc (.cells #[.bool na, .slice pa la ca, .bool nb, .slice pb lb cb, .bool nc, .slice pc lc cc] 24) := ⟨_, rfl⟩
    rw [← hw5]
    have hb5 : Below w4.heap.size w4 w5 := by rw [hw5]; exact (Below.refl _ _).alloc (Nat.le_refl _) _
    have qg : w5.heap[w4.heap.size]? = some (.cells #[.bool na, .slice pa la ca, .bool nb, .slice pb lb cb, .bool nc, .slice pc lc cc] 24) := by rw [hw5]; exact alloc_new _ _ rfl
    have HW5 := Lib.hid hw5
    clear hw5 d0 d1 d2 d3 d4 d5
    have hB5 : Below w.heap.size w w5 := hB3.trans ((hb4.trans (hb5.mono hb4.size)).mono hB3.size)
    refine (usable3 w4.heap.size 40 na nb nc _ _ _ A B C w5 (Array.getElem?_eq_some_iff.1 qg).1 (by omega) hla hlb hlc qg ((hLa.below hB5).mono hB5.size) ((hLb.below hB5).mono hB5.size) ((hLc.below hB5).mono hB5.size) false ?_).mono ?_
    · exact ⟨fun h => (by cases h), fun h => absurd h hu⟩
    rintro e w6 ⟨rfl, hb6⟩
    have hB6 : Below w.heap.size w w6 := hB5.trans (hb6.mono hB5.size)
    go_wp2
    go_ret
    exact ⟨rfl, hB6⟩

end Go.Proofs.YtbaiohjladddlaaDoor
