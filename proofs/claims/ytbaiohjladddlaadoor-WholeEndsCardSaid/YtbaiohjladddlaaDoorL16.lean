import Derived.Test.YtbaiohjladddlaaDoorL15
import Derived.Test.YtbaiohjladddlaaDoorW27
/- The law WholeEnds, walked. -/
namespace Go.Proofs.YtbaiohjladddlaaDoor
open Go.RowKit Go.WM Go.WR
attribute [local go_sem] Oper.semAt_some

theorem field_any (b : Bool) (p : Option Addr) (l c : Nat) (w : World) : Sem.run Tryd.prog (Instr.field 24 (.agg #[.bool b, .slice p l c]) 1) w = .ok (.slice p l c) w := by
  simp [Instr.field, go_sem, asAgg]
theorem top_gt {n : Nat} (h : 0 < n) : 0 < top n := by
  have h1 := top_le (n := 1) (m := n) h
  have h2 : top 1 = 65535 := by decide
  omega
theorem top_one : Cap ≤ (top 1024 + 1).natAbs := by
  have h2 := top_pos 1024
  have h3 : top 1024 = Cap - 1 := by unfold top; rw [← Cap.eq]
  omega
theorem top_two : Cap ≤ (top 1024 * 2).natAbs := by
  have h2 := top_gt (n := 1024) (by decide)
  have h3 : top 1024 = Cap - 1 := by unfold top; rw [← Cap.eq]
  omega
theorem top_neg : Cap ≤ (-top 1024 - 1).natAbs := by
  have h2 := top_pos 1024
  have h3 : top 1024 = Cap - 1 := by unfold top; rw [← Cap.eq]
  omega
theorem top_sq_gen (k m : Nat) (e : k + k = m) : ((top k * top k).natAbs : Int) < 65536 ^ m := by
  have h0 := top_pos k
  have h1 : (top k).natAbs < 65536 ^ k := by
    have h2 : ((65536 ^ k : Nat) : Int) = (65536 : Int) ^ k := by rw [Int.natCast_pow]; rfl
    unfold top at *
    omega
  have h3 : (top k * top k).natAbs < 65536 ^ m := by
    rw [Int.natAbs_mul, ← e, Nat.pow_add]
    exact Nat.mul_lt_mul_of_lt_of_le h1 (Nat.le_of_lt h1) (Nat.pow_pos (by decide))
  have h4 : ((65536 ^ m : Nat) : Int) = (65536 : Int) ^ m := by rw [Int.natCast_pow]; rfl
  rw [← h4]
  exact Int.ofNat_lt.2 h3
theorem top_sq : (top 512 * top 512).natAbs < Cap := by
  rw [Cap.eq]
  exact top_sq_gen 512 1024 rfl

set_option maxRecDepth 100000 in
set_option maxHeartbeats 8000000 in
theorem Ends_any (w : World) (htab : Tab w) : Calls Tryd.prog 8 #[] w (BoolP true w) := by
  have hB0 := Below.refl w.heap.size w
  obtain ⟨M, hM⟩ : ∃ M, M = top 1024 := ⟨_, rfl⟩
  obtain ⟨S, hS⟩ : ∃ S, S = top 512 := ⟨_, rfl⟩
  have hM1 : 0 < M := by rw [hM]; exact top_gt (by decide)
  have hMo : Cap ≤ (M + 1).natAbs := by rw [hM]; exact top_one
  have hM2 : Cap ≤ (M * 2).natAbs := by rw [hM]; exact top_two
  have hM3 : Cap ≤ (-M - 1).natAbs := by rw [hM]; exact top_neg
  have hSS : (S * S).natAbs < Cap := by rw [hS]; exact top_sq
  have HhM := Lib.hid hM
  have HhS := Lib.hid hS
  have HhMo := Lib.hid hMo
  have HhM2 := Lib.hid hM2
  have HhM3 := Lib.hid hM3
  have HhSS := Lib.hid hSS
  clear hM hS hMo hM2 hM3 hSS
  go_enter Tryd.func8, Tryd.ntmps8
  go_wp2_with fail
  refine ((show Calls Tryd.prog 34 #[.int .i64 ((1024 : Nat) : Int)] w (NumP M w) from by rw [HhM.out]; exact large_num 1024 w (by decide) (by decide))).mono ?_
  rintro e w1 ⟨b1, p1, l1, c1, rfl, hO1, hb1⟩
  have hBXw1 := hB0.trans (hb1.mono hB0.size)
  have m1 := hO1.num
  obtain ⟨x1, hx1⟩ : ∃ x, x = w1.alloc (.cells #[.bool b1, .slice p1 l1 c1] 24) := ⟨_, rfl⟩
  have hbx1 : Below w1.heap.size w1 x1 := by rw [hx1]; exact (Below.refl _ _).alloc (Nat.le_refl _) _
  have qn1 : x1.heap[w1.heap.size]? = some (.cells #[.bool b1, .slice p1 l1 c1] 24) := by rw [hx1]; exact alloc_new _ _ rfl
  have hBXx1 := hBXw1.trans (hbx1.mono hBXw1.size)
  have m1x1 := m1.later hbx1
  have nn1 := m1.later hbx1
  go_wp2
  rw [← hx1]
  clear hx1
  refine region_boxes (n := 9) [.num M, .num (1 : Int), .pair 0 3, .pair 0 3, .num 0, .val (.int .i64 3), .any, .any, .val (.int .i64 3)] [(0, 22), (1, 23), (2, 24), (3, 21), (4, 25), (5, 26), (6, 3), (8, 4)] [(6, 4, 7)] (by kernel_rfl) (by kernel_rfl) (by kernel_rfl) ?hbx1 (kd_nobox rfl) (by decide) ?hstep1 ?hend1
  case hbx1 =>
    intro t ht
    simp only [List.mem_cons, List.not_mem_nil, or_false] at ht
    rcases ht with rfl
    · exact ⟨⟨_, rfl, rfl, rfl⟩, ⟨_, _, _, rfl, rfl, rfl, rfl, rfl, rfl, ⟨⟨6, .data⟩, by simp, rfl, rfl⟩, ⟨⟨4, .data⟩, by simp, rfl, rfl⟩⟩, ⟨_, rfl⟩, ⟨rfl, rfl⟩⟩
  case hstep1 =>
    intro i o ho hne a' W hI hM
    match i, ho with
    | 0, ho =>
      cases ho
      refine stepK_of (wanted_none rfl) ?_
      exact opLoad rfl (hM.old 1 rfl) ((hI.block _ (Array.getElem?_eq_some_iff.1 qn1).1).trans qn1) ⟨nn1.later hI, Below.refl _ _⟩
    | 1, ho =>
      cases ho
      refine stepK_of (wanted_none rfl) ?_
      exact opCall1 rfl may20 rfl (numK (num_ok (1) W (by first | decide | omega) (by first | decide | omega)))
    | 2, ho =>
      cases ho
      refine stepK_of (wanted_none rfl) ?_
      exact opCall2 rfl may24 rfl rfl (overK (over_fit (Add_ok _ _ M 1 W (hM.dep ⟨0, .data⟩ (by simp) rfl 22 rfl) (hM.dep ⟨1, .data⟩ (by simp) rfl 23 rfl)) HhMo.out))
    | 3, ho =>
      cases ho
      refine stepK_of (wanted_none rfl) ?_
      exact opMoveK rfl (hM.dep ⟨2, .data⟩ (by simp) rfl 24 rfl)
    | 4, ho =>
      cases ho
      refine stepK_of (wanted_none rfl) ?_
      exact exNum rfl (hM.dep ⟨3, .data⟩ (by simp) rfl 21 rfl)
    | 5, ho =>
      cases ho
      refine stepK_of (wanted_none rfl) ?_
      exact exErr rfl (hM.dep ⟨3, .data⟩ (by simp) rfl 21 rfl)
    | 6, ho =>
      cases ho
      exact absurd rfl (hne (6, 4, 7) (by simp)).1
    | 7, ho =>
      cases ho
      exact absurd rfl (hne (6, 4, 7) (by simp)).2
    | 8, ho =>
      cases ho
      refine stepK_of (wanted_none rfl) ?_
      exact opAssign rfl (hM.dep ⟨5, .data⟩ (by simp) rfl 26 rfl) ⟨rfl, Below.refl _ _⟩
    | k + 9, ho => simp at ho
  case hend1 =>
    intro u1 W1 hI1 hV1 hX1
    obtain ⟨B3, e3, hn3, bb3, pp3, ll3, cc3, ev3, qB3⟩ := hX1 (6, 4, 7) (by simp)
    have hs3 : KV (.num 0) (u1 4) W1 := hV1 4 25 rfl
    rw [ev3] at hs3
    have ea8 : u1 8 = (.int .i64 3) := hV1 8 4 rfl
    simp only [putAll, List.foldl_cons, List.foldl_nil, List.setIfInBounds_toArray, List.set_cons_zero, List.set_cons_succ, e3, ev3, ea8]
    clear e3 ev3 ea8 hV1 hX1
    have q1_1 := (hI1.block _ (Array.getElem?_eq_some_iff.1 qn1).1).trans qn1
    have n1_1 := nn1.later hI1
    have hBW1 := hBXx1.trans (hI1.mono hBXx1.size)
    go_wp2
    refine region_boxes (n := 9) [.num M, .num (2 : Int), .pair 0 3, .pair 0 3, .num 0, .val (.int .i64 3), .any, .any, .val (.int .i64 3)] [(0, 28), (1, 29), (2, 30), (3, 27), (4, 31), (5, 32), (6, 5), (8, 6)] [(6, 4, 7)] (by kernel_rfl) (by kernel_rfl) (by kernel_rfl) ?hbx2 (kd_nobox rfl) (by decide) ?hstep2 ?hend2
    case hbx2 =>
      intro t ht
      simp only [List.mem_cons, List.not_mem_nil, or_false] at ht
      rcases ht with rfl
      · exact ⟨⟨_, rfl, rfl, rfl⟩, ⟨_, _, _, rfl, rfl, rfl, rfl, rfl, rfl, ⟨⟨6, .data⟩, by simp, rfl, rfl⟩, ⟨⟨4, .data⟩, by simp, rfl, rfl⟩⟩, ⟨_, rfl⟩, ⟨rfl, rfl⟩⟩
    case hstep2 =>
      intro i o ho hne a' W hI hM
      match i, ho with
      | 0, ho =>
        cases ho
        refine stepK_of (wanted_none rfl) ?_
        exact opLoad rfl (hM.old 1 rfl) ((hI.block _ (Array.getElem?_eq_some_iff.1 q1_1).1).trans q1_1) ⟨n1_1.later hI, Below.refl _ _⟩
      | 1, ho =>
        cases ho
        refine stepK_of (wanted_none rfl) ?_
        exact opCall1 rfl may20 rfl (numK (num_ok (2) W (by first | decide | omega) (by first | decide | omega)))
      | 2, ho =>
        cases ho
        refine stepK_of (wanted_none rfl) ?_
        exact opCall2 rfl may26 rfl rfl (overK (over_fit (Mul_ok _ _ M 2 W (hM.dep ⟨0, .data⟩ (by simp) rfl 28 rfl) (hM.dep ⟨1, .data⟩ (by simp) rfl 29 rfl)) HhM2.out))
      | 3, ho =>
        cases ho
        refine stepK_of (wanted_none rfl) ?_
        exact opMoveK rfl (hM.dep ⟨2, .data⟩ (by simp) rfl 30 rfl)
      | 4, ho =>
        cases ho
        refine stepK_of (wanted_none rfl) ?_
        exact exNum rfl (hM.dep ⟨3, .data⟩ (by simp) rfl 27 rfl)
      | 5, ho =>
        cases ho
        refine stepK_of (wanted_none rfl) ?_
        exact exErr rfl (hM.dep ⟨3, .data⟩ (by simp) rfl 27 rfl)
      | 6, ho =>
        cases ho
        exact absurd rfl (hne (6, 4, 7) (by simp)).1
      | 7, ho =>
        cases ho
        exact absurd rfl (hne (6, 4, 7) (by simp)).2
      | 8, ho =>
        cases ho
        refine stepK_of (wanted_none rfl) ?_
        exact opAssign rfl (hM.dep ⟨5, .data⟩ (by simp) rfl 32 rfl) ⟨rfl, Below.refl _ _⟩
      | k + 9, ho => simp at ho
    case hend2 =>
      intro u2 W2 hI2 hV2 hX2
      obtain ⟨B5, e5, hn5, bb5, pp5, ll5, cc5, ev5, qB5⟩ := hX2 (6, 4, 7) (by simp)
      have hs5 : KV (.num 0) (u2 4) W2 := hV2 4 31 rfl
      rw [ev5] at hs5
      have ea8 : u2 8 = (.int .i64 3) := hV2 8 6 rfl
      simp only [putAll, List.foldl_cons, List.foldl_nil, List.setIfInBounds_toArray, List.set_cons_zero, List.set_cons_succ, e5, ev5, ea8]
      clear e5 ev5 ea8 hV2 hX2
      have q1_2 := (hI2.block _ (Array.getElem?_eq_some_iff.1 q1_1).1).trans q1_1
      have n1_2 := n1_1.later hI2
      have q3_2 := (hI2.block _ (Array.getElem?_eq_some_iff.1 qB3).1).trans qB3
      have n3_2 := hs3.later hI2
      have hBW2 := hBW1.trans (hI2.mono hBW1.size)
      have y1_0 := cell_of q1_2 0 rfl
      have y1_1 := cell_of q1_2 1 rfl
      have y3_0 := cell_of q3_2 0 rfl
      have y3_1 := cell_of q3_2 1 rfl
      have y5_0 := cell_of qB5 0 rfl
      have y5_1 := cell_of qB5 1 rfl
      go_wp2_with fail
      clear y1_0 y1_1 y3_0 y3_1 y5_0 y5_1
      refine ((show Calls Tryd.prog 34 #[.int .i64 ((1024 : Nat) : Int)] W2 (NumP M W2) from by rw [HhM.out]; exact large_num 1024 W2 (by decide) (by decide))).mono ?_
      rintro e w2 ⟨b2, p2, l2, c2, rfl, hO2, hb2⟩
      have q1w2 := (hb2.block _ (Array.getElem?_eq_some_iff.1 q1_2).1).trans q1_2
      have n1w2 := n1_2.later hb2
      have q3w2 := (hb2.block _ (Array.getElem?_eq_some_iff.1 q3_2).1).trans q3_2
      have n3w2 := n3_2.later hb2
      have q5w2 := (hb2.block _ (Array.getElem?_eq_some_iff.1 qB5).1).trans qB5
      have n5w2 := hs5.later hb2
      have hBXw2 := hBW2.trans (hb2.mono hBW2.size)
      have m2 := hO2.num
      have mneg := Wn.minus m2 hM1
      have hfd := field_any b2 p2 l2 c2 w2
      obtain ⟨x7, hx7⟩ : ∃ x, x = w2.alloc (.cells #[.bool true, .slice p2 l2 c2] 24) := ⟨_, rfl⟩
      have hbx7 : Below w2.heap.size w2 x7 := by rw [hx7]; exact (Below.refl _ _).alloc (Nat.le_refl _) _
      have qn7 : x7.heap[w2.heap.size]? = some (.cells #[.bool true, .slice p2 l2 c2] 24) := by rw [hx7]; exact alloc_new _ _ rfl
      have q1x7 := (hbx7.block _ (Array.getElem?_eq_some_iff.1 q1w2).1).trans q1w2
      have n1x7 := n1w2.later hbx7
      have q3x7 := (hbx7.block _ (Array.getElem?_eq_some_iff.1 q3w2).1).trans q3w2
      have n3x7 := n3w2.later hbx7
      have q5x7 := (hbx7.block _ (Array.getElem?_eq_some_iff.1 q5w2).1).trans q5w2
      have n5x7 := n5w2.later hbx7
      have hBXx7 := hBXw2.trans (hbx7.mono hBXw2.size)
      have nn7 := mneg.later hbx7
      go_wp2
      rw [← hx7]
      clear hx7 hfd
      refine region_boxes (n := 9) [.num (-M), .num (1 : Int), .pair 0 3, .pair 0 3, .num 0, .val (.int .i64 3), .any, .any, .val (.int .i64 3)] [(0, 37), (1, 38), (2, 39), (3, 36), (4, 40), (5, 41), (6, 8), (8, 9)] [(6, 4, 7)] (by kernel_rfl) (by kernel_rfl) (by kernel_rfl) ?hbx3 (kd_nobox rfl) (by decide) ?hstep3 ?hend3
      case hbx3 =>
        intro t ht
        simp only [List.mem_cons, List.not_mem_nil, or_false] at ht
        rcases ht with rfl
        · exact ⟨⟨_, rfl, rfl, rfl⟩, ⟨_, _, _, rfl, rfl, rfl, rfl, rfl, rfl, ⟨⟨6, .data⟩, by simp, rfl, rfl⟩, ⟨⟨4, .data⟩, by simp, rfl, rfl⟩⟩, ⟨_, rfl⟩, ⟨rfl, rfl⟩⟩
      case hstep3 =>
        intro i o ho hne a' W hI hM
        match i, ho with
        | 0, ho =>
          cases ho
          refine stepK_of (wanted_none rfl) ?_
          exact opLoad rfl (hM.old 7 rfl) ((hI.block _ (Array.getElem?_eq_some_iff.1 qn7).1).trans qn7) ⟨nn7.later hI, Below.refl _ _⟩
        | 1, ho =>
          cases ho
          refine stepK_of (wanted_none rfl) ?_
          exact opCall1 rfl may20 rfl (numK (num_ok (1) W (by first | decide | omega) (by first | decide | omega)))
        | 2, ho =>
          cases ho
          refine stepK_of (wanted_none rfl) ?_
          exact opCall2 rfl may25 rfl rfl (overK (over_fit (Sub_ok _ _ (-M) 1 W (hM.dep ⟨0, .data⟩ (by simp) rfl 37 rfl) (hM.dep ⟨1, .data⟩ (by simp) rfl 38 rfl)) HhM3.out))
        | 3, ho =>
          cases ho
          refine stepK_of (wanted_none rfl) ?_
          exact opMoveK rfl (hM.dep ⟨2, .data⟩ (by simp) rfl 39 rfl)
        | 4, ho =>
          cases ho
          refine stepK_of (wanted_none rfl) ?_
          exact exNum rfl (hM.dep ⟨3, .data⟩ (by simp) rfl 36 rfl)
        | 5, ho =>
          cases ho
          refine stepK_of (wanted_none rfl) ?_
          exact exErr rfl (hM.dep ⟨3, .data⟩ (by simp) rfl 36 rfl)
        | 6, ho =>
          cases ho
          exact absurd rfl (hne (6, 4, 7) (by simp)).1
        | 7, ho =>
          cases ho
          exact absurd rfl (hne (6, 4, 7) (by simp)).2
        | 8, ho =>
          cases ho
          refine stepK_of (wanted_none rfl) ?_
          exact opAssign rfl (hM.dep ⟨5, .data⟩ (by simp) rfl 41 rfl) ⟨rfl, Below.refl _ _⟩
        | k + 9, ho => simp at ho
      case hend3 =>
        intro u3 W3 hI3 hV3 hX3
        obtain ⟨B8, e8, hn8, bb8, pp8, ll8, cc8, ev8, qB8⟩ := hX3 (6, 4, 7) (by simp)
        have hs8 : KV (.num 0) (u3 4) W3 := hV3 4 40 rfl
        rw [ev8] at hs8
        have ea8 : u3 8 = (.int .i64 3) := hV3 8 9 rfl
        simp only [putAll, List.foldl_cons, List.foldl_nil, List.setIfInBounds_toArray, List.set_cons_zero, List.set_cons_succ, e8, ev8, ea8]
        clear e8 ev8 ea8 hV3 hX3
        have q1_3 := (hI3.block _ (Array.getElem?_eq_some_iff.1 q1x7).1).trans q1x7
        have n1_3 := n1x7.later hI3
        have q3_3 := (hI3.block _ (Array.getElem?_eq_some_iff.1 q3x7).1).trans q3x7
        have n3_3 := n3x7.later hI3
        have q5_3 := (hI3.block _ (Array.getElem?_eq_some_iff.1 q5x7).1).trans q5x7
        have n5_3 := n5x7.later hI3
        have q7_3 := (hI3.block _ (Array.getElem?_eq_some_iff.1 qn7).1).trans qn7
        have n7_3 := nn7.later hI3
        have hBW3 := hBXx7.trans (hI3.mono hBXx7.size)
        have y1_0 := cell_of q1_3 0 rfl
        have y1_1 := cell_of q1_3 1 rfl
        have y3_0 := cell_of q3_3 0 rfl
        have y3_1 := cell_of q3_3 1 rfl
        have y5_0 := cell_of q5_3 0 rfl
        have y5_1 := cell_of q5_3 1 rfl
        have y7_0 := cell_of q7_3 0 rfl
        have y7_1 := cell_of q7_3 1 rfl
        have y8_0 := cell_of qB8 0 rfl
        have y8_1 := cell_of qB8 1 rfl
        go_wp2_with fail
        clear y1_0 y1_1 y3_0 y3_1 y5_0 y5_1 y7_0 y7_1 y8_0 y8_1
        refine (Add_fit _ _ M (-M) W3 n1_3 n7_3 (cap_small (by omega))).mono ?_
        rintro e w3 ⟨b3, p3, l3, c3, rfl, hO3, hb3⟩
        have q1w3 := (hb3.block _ (Array.getElem?_eq_some_iff.1 q1_3).1).trans q1_3
        have n1w3 := n1_3.later hb3
        have q3w3 := (hb3.block _ (Array.getElem?_eq_some_iff.1 q3_3).1).trans q3_3
        have n3w3 := n3_3.later hb3
        have q5w3 := (hb3.block _ (Array.getElem?_eq_some_iff.1 q5_3).1).trans q5_3
        have n5w3 := n5_3.later hb3
        have q7w3 := (hb3.block _ (Array.getElem?_eq_some_iff.1 q7_3).1).trans q7_3
        have n7w3 := n7_3.later hb3
        have q8w3 := (hb3.block _ (Array.getElem?_eq_some_iff.1 qB8).1).trans qB8
        have n8w3 := hs8.later hb3
        have hBXw3 := hBW3.trans (hb3.mono hBW3.size)
        have m3 := hO3.num
        have hz0 : M + -M = 0 := Int.add_right_neg M
        rw [hz0] at m3
        clear hz0
        obtain ⟨x10, hx10⟩ : ∃ x, x = w3.alloc (.cells #[.bool b3, .slice p3 l3 c3] 24) := ⟨_, rfl⟩
        have hbx10 : Below w3.heap.size w3 x10 := by rw [hx10]; exact (Below.refl _ _).alloc (Nat.le_refl _) _
        have qn10 : x10.heap[w3.heap.size]? = some (.cells #[.bool b3, .slice p3 l3 c3] 24) := by rw [hx10]; exact alloc_new _ _ rfl
        have q1x10 := (hbx10.block _ (Array.getElem?_eq_some_iff.1 q1w3).1).trans q1w3
        have n1x10 := n1w3.later hbx10
        have q3x10 := (hbx10.block _ (Array.getElem?_eq_some_iff.1 q3w3).1).trans q3w3
        have n3x10 := n3w3.later hbx10
        have q5x10 := (hbx10.block _ (Array.getElem?_eq_some_iff.1 q5w3).1).trans q5w3
        have n5x10 := n5w3.later hbx10
        have q7x10 := (hbx10.block _ (Array.getElem?_eq_some_iff.1 q7w3).1).trans q7w3
        have n7x10 := n7w3.later hbx10
        have q8x10 := (hbx10.block _ (Array.getElem?_eq_some_iff.1 q8w3).1).trans q8w3
        have n8x10 := n8w3.later hbx10
        have hBXx10 := hBXw3.trans (hbx10.mono hBXw3.size)
        have nn10 := m3.later hbx10
        have y1_0 := cell_of q1x10 0 rfl
        have y1_1 := cell_of q1x10 1 rfl
        have y3_0 := cell_of q3x10 0 rfl
        have y3_1 := cell_of q3x10 1 rfl
        have y5_0 := cell_of q5x10 0 rfl
        have y5_1 := cell_of q5x10 1 rfl
        have y7_0 := cell_of q7x10 0 rfl
        have y7_1 := cell_of q7x10 1 rfl
        have y8_0 := cell_of q8x10 0 rfl
        have y8_1 := cell_of q8x10 1 rfl
        have y10_0 := cell_of qn10 0 rfl
        have y10_1 := cell_of qn10 1 rfl
        rw [hx10] at y1_0 y1_1 y3_0 y3_1 y5_0 y5_1 y7_0 y7_1 y8_0 y8_1 y10_0 y10_1
        have Hx10 := Lib.hid hx10
        clear hx10
        go_wp2_with fail
        rw [← Hx10.out]
        clear y1_0 y1_1 y3_0 y3_1 y5_0 y5_1 y7_0 y7_1 y8_0 y8_1 y10_0 y10_1
        refine ((show Calls Tryd.prog 34 #[.int .i64 ((512 : Nat) : Int)] x10 (NumP S x10) from by rw [HhS.out]; exact large_num 512 x10 (by decide) (by decide))).mono ?_
        rintro e w4 ⟨b4, p4, l4, c4, rfl, hO4, hb4⟩
        have q1w4 := (hb4.block _ (Array.getElem?_eq_some_iff.1 q1x10).1).trans q1x10
        have n1w4 := n1x10.later hb4
        have q3w4 := (hb4.block _ (Array.getElem?_eq_some_iff.1 q3x10).1).trans q3x10
        have n3w4 := n3x10.later hb4
        have q5w4 := (hb4.block _ (Array.getElem?_eq_some_iff.1 q5x10).1).trans q5x10
        have n5w4 := n5x10.later hb4
        have q7w4 := (hb4.block _ (Array.getElem?_eq_some_iff.1 q7x10).1).trans q7x10
        have n7w4 := n7x10.later hb4
        have q8w4 := (hb4.block _ (Array.getElem?_eq_some_iff.1 q8x10).1).trans q8x10
        have n8w4 := n8x10.later hb4
        have q10w4 := (hb4.block _ (Array.getElem?_eq_some_iff.1 qn10).1).trans qn10
        have n10w4 := nn10.later hb4
        have hBXw4 := hBXx10.trans (hb4.mono hBXx10.size)
        have s1 := hO4.num
        have y1_0 := cell_of q1w4 0 rfl
        have y1_1 := cell_of q1w4 1 rfl
        have y3_0 := cell_of q3w4 0 rfl
        have y3_1 := cell_of q3w4 1 rfl
        have y5_0 := cell_of q5w4 0 rfl
        have y5_1 := cell_of q5w4 1 rfl
        have y7_0 := cell_of q7w4 0 rfl
        have y7_1 := cell_of q7w4 1 rfl
        have y8_0 := cell_of q8w4 0 rfl
        have y8_1 := cell_of q8w4 1 rfl
        have y10_0 := cell_of q10w4 0 rfl
        have y10_1 := cell_of q10w4 1 rfl
        go_wp2_with fail
        clear y1_0 y1_1 y3_0 y3_1 y5_0 y5_1 y7_0 y7_1 y8_0 y8_1 y10_0 y10_1
        refine ((show Calls Tryd.prog 34 #[.int .i64 ((512 : Nat) : Int)] w4 (NumP S w4) from by rw [HhS.out]; exact large_num 512 w4 (by decide) (by decide))).mono ?_
        rintro e w5 ⟨b5, p5, l5, c5, rfl, hO5, hb5⟩
        have q1w5 := (hb5.block _ (Array.getElem?_eq_some_iff.1 q1w4).1).trans q1w4
        have n1w5 := n1w4.later hb5
        have q3w5 := (hb5.block _ (Array.getElem?_eq_some_iff.1 q3w4).1).trans q3w4
        have n3w5 := n3w4.later hb5
        have q5w5 := (hb5.block _ (Array.getElem?_eq_some_iff.1 q5w4).1).trans q5w4
        have n5w5 := n5w4.later hb5
        have q7w5 := (hb5.block _ (Array.getElem?_eq_some_iff.1 q7w4).1).trans q7w4
        have n7w5 := n7w4.later hb5
        have q8w5 := (hb5.block _ (Array.getElem?_eq_some_iff.1 q8w4).1).trans q8w4
        have n8w5 := n8w4.later hb5
        have q10w5 := (hb5.block _ (Array.getElem?_eq_some_iff.1 q10w4).1).trans q10w4
        have n10w5 := n10w4.later hb5
        have hBXw5 := hBXw4.trans (hb5.mono hBXw4.size)
        have s1w5 := s1.later hb5
        have s2 := hO5.num
        have y1_0 := cell_of q1w5 0 rfl
        have y1_1 := cell_of q1w5 1 rfl
        have y3_0 := cell_of q3w5 0 rfl
        have y3_1 := cell_of q3w5 1 rfl
        have y5_0 := cell_of q5w5 0 rfl
        have y5_1 := cell_of q5w5 1 rfl
        have y7_0 := cell_of q7w5 0 rfl
        have y7_1 := cell_of q7w5 1 rfl
        have y8_0 := cell_of q8w5 0 rfl
        have y8_1 := cell_of q8w5 1 rfl
        have y10_0 := cell_of q10w5 0 rfl
        have y10_1 := cell_of q10w5 1 rfl
        go_wp2_with fail
        clear y1_0 y1_1 y3_0 y3_1 y5_0 y5_1 y7_0 y7_1 y8_0 y8_1 y10_0 y10_1
        refine (Mul_fit _ _ S S w5 s1w5 s2 HhSS.out).mono ?_
        rintro e w6 ⟨b6, p6, l6, c6, rfl, hO6, hb6⟩
        have q1w6 := (hb6.block _ (Array.getElem?_eq_some_iff.1 q1w5).1).trans q1w5
        have n1w6 := n1w5.later hb6
        have q3w6 := (hb6.block _ (Array.getElem?_eq_some_iff.1 q3w5).1).trans q3w5
        have n3w6 := n3w5.later hb6
        have q5w6 := (hb6.block _ (Array.getElem?_eq_some_iff.1 q5w5).1).trans q5w5
        have n5w6 := n5w5.later hb6
        have q7w6 := (hb6.block _ (Array.getElem?_eq_some_iff.1 q7w5).1).trans q7w5
        have n7w6 := n7w5.later hb6
        have q8w6 := (hb6.block _ (Array.getElem?_eq_some_iff.1 q8w5).1).trans q8w5
        have n8w6 := n8w5.later hb6
        have q10w6 := (hb6.block _ (Array.getElem?_eq_some_iff.1 q10w5).1).trans q10w5
        have n10w6 := n10w5.later hb6
        have hBXw6 := hBXw5.trans (hb6.mono hBXw5.size)
        have s1w6 := s1w5.later hb6
        have s2w6 := s2.later hb6
        have sq := hO6.num
        obtain ⟨x12, hx12⟩ : ∃ x, x = w6.alloc (.cells #[.bool b6, .slice p6 l6 c6] 24) := ⟨_, rfl⟩
        have hbx12 : Below w6.heap.size w6 x12 := by rw [hx12]; exact (Below.refl _ _).alloc (Nat.le_refl _) _
        have qn12 : x12.heap[w6.heap.size]? = some (.cells #[.bool b6, .slice p6 l6 c6] 24) := by rw [hx12]; exact alloc_new _ _ rfl
        have q1x12 := (hbx12.block _ (Array.getElem?_eq_some_iff.1 q1w6).1).trans q1w6
        have n1x12 := n1w6.later hbx12
        have q3x12 := (hbx12.block _ (Array.getElem?_eq_some_iff.1 q3w6).1).trans q3w6
        have n3x12 := n3w6.later hbx12
        have q5x12 := (hbx12.block _ (Array.getElem?_eq_some_iff.1 q5w6).1).trans q5w6
        have n5x12 := n5w6.later hbx12
        have q7x12 := (hbx12.block _ (Array.getElem?_eq_some_iff.1 q7w6).1).trans q7w6
        have n7x12 := n7w6.later hbx12
        have q8x12 := (hbx12.block _ (Array.getElem?_eq_some_iff.1 q8w6).1).trans q8w6
        have n8x12 := n8w6.later hbx12
        have q10x12 := (hbx12.block _ (Array.getElem?_eq_some_iff.1 q10w6).1).trans q10w6
        have n10x12 := n10w6.later hbx12
        have hBXx12 := hBXw6.trans (hbx12.mono hBXw6.size)
        have nn12 := sq.later hbx12
        have y1_0 := cell_of q1x12 0 rfl
        have y1_1 := cell_of q1x12 1 rfl
        have y3_0 := cell_of q3x12 0 rfl
        have y3_1 := cell_of q3x12 1 rfl
        have y5_0 := cell_of q5x12 0 rfl
        have y5_1 := cell_of q5x12 1 rfl
        have y7_0 := cell_of q7x12 0 rfl
        have y7_1 := cell_of q7x12 1 rfl
        have y8_0 := cell_of q8x12 0 rfl
        have y8_1 := cell_of q8x12 1 rfl
        have y10_0 := cell_of q10x12 0 rfl
        have y10_1 := cell_of q10x12 1 rfl
        have y12_0 := cell_of qn12 0 rfl
        have y12_1 := cell_of qn12 1 rfl
        rw [hx12] at y1_0 y1_1 y3_0 y3_1 y5_0 y5_1 y7_0 y7_1 y8_0 y8_1 y10_0 y10_1 y12_0 y12_1
        have Hx12 := Lib.hid hx12
        clear hx12
        go_wp2_with fail
        rw [← Hx12.out]
        clear y1_0 y1_1 y3_0 y3_1 y5_0 y5_1 y7_0 y7_1 y8_0 y8_1 y10_0 y10_1 y12_0 y12_1
        refine (num_ok (-9223372036854775808) x12 (by decide) (by decide)).mono ?_
        rintro e w7 ⟨b7, p7, l7, c7, rfl, hO7, hb7⟩
        have q1w7 := (hb7.block _ (Array.getElem?_eq_some_iff.1 q1x12).1).trans q1x12
        have n1w7 := n1x12.later hb7
        have q3w7 := (hb7.block _ (Array.getElem?_eq_some_iff.1 q3x12).1).trans q3x12
        have n3w7 := n3x12.later hb7
        have q5w7 := (hb7.block _ (Array.getElem?_eq_some_iff.1 q5x12).1).trans q5x12
        have n5w7 := n5x12.later hb7
        have q7w7 := (hb7.block _ (Array.getElem?_eq_some_iff.1 q7x12).1).trans q7x12
        have n7w7 := n7x12.later hb7
        have q8w7 := (hb7.block _ (Array.getElem?_eq_some_iff.1 q8x12).1).trans q8x12
        have n8w7 := n8x12.later hb7
        have q10w7 := (hb7.block _ (Array.getElem?_eq_some_iff.1 q10x12).1).trans q10x12
        have n10w7 := n10x12.later hb7
        have q12w7 := (hb7.block _ (Array.getElem?_eq_some_iff.1 qn12).1).trans qn12
        have n12w7 := nn12.later hb7
        have hBXw7 := hBXx12.trans (hb7.mono hBXx12.size)
        have u8 := hO7.num
        have y1_0 := cell_of q1w7 0 rfl
        have y1_1 := cell_of q1w7 1 rfl
        have y3_0 := cell_of q3w7 0 rfl
        have y3_1 := cell_of q3w7 1 rfl
        have y5_0 := cell_of q5w7 0 rfl
        have y5_1 := cell_of q5w7 1 rfl
        have y7_0 := cell_of q7w7 0 rfl
        have y7_1 := cell_of q7w7 1 rfl
        have y8_0 := cell_of q8w7 0 rfl
        have y8_1 := cell_of q8w7 1 rfl
        have y10_0 := cell_of q10w7 0 rfl
        have y10_1 := cell_of q10w7 1 rfl
        have y12_0 := cell_of q12w7 0 rfl
        have y12_1 := cell_of q12w7 1 rfl
        go_wp2_with fail
        clear y1_0 y1_1 y3_0 y3_1 y5_0 y5_1 y7_0 y7_1 y8_0 y8_1 y10_0 y10_1 y12_0 y12_1
        refine (Int_ok _ (-9223372036854775808) w7 u8).mono ?_
        rintro e w8 ⟨k8, er8, rfl, hk8, hb8⟩
        have hkk : k8 = -9223372036854775808 ∧ er8 = 0 := by have hmin : ((-9223372036854775808 : Int).natAbs : Int) = 9223372036854775808 := (by decide); omega
        clear hk8
        obtain ⟨rfl, rfl⟩ := hkk
        have q1w8 := (hb8.block _ (Array.getElem?_eq_some_iff.1 q1w7).1).trans q1w7
        have n1w8 := n1w7.later hb8
        have q3w8 := (hb8.block _ (Array.getElem?_eq_some_iff.1 q3w7).1).trans q3w7
        have n3w8 := n3w7.later hb8
        have q5w8 := (hb8.block _ (Array.getElem?_eq_some_iff.1 q5w7).1).trans q5w7
        have n5w8 := n5w7.later hb8
        have q7w8 := (hb8.block _ (Array.getElem?_eq_some_iff.1 q7w7).1).trans q7w7
        have n7w8 := n7w7.later hb8
        have q8w8 := (hb8.block _ (Array.getElem?_eq_some_iff.1 q8w7).1).trans q8w7
        have n8w8 := n8w7.later hb8
        have q10w8 := (hb8.block _ (Array.getElem?_eq_some_iff.1 q10w7).1).trans q10w7
        have n10w8 := n10w7.later hb8
        have q12w8 := (hb8.block _ (Array.getElem?_eq_some_iff.1 q12w7).1).trans q12w7
        have n12w8 := n12w7.later hb8
        have hBXw8 := hBXw7.trans (hb8.mono hBXw7.size)
        have u8w8 := u8.later hb8
        have y1_0 := cell_of q1w8 0 rfl
        have y1_1 := cell_of q1w8 1 rfl
        have y3_0 := cell_of q3w8 0 rfl
        have y3_1 := cell_of q3w8 1 rfl
        have y5_0 := cell_of q5w8 0 rfl
        have y5_1 := cell_of q5w8 1 rfl
        have y7_0 := cell_of q7w8 0 rfl
        have y7_1 := cell_of q7w8 1 rfl
        have y8_0 := cell_of q8w8 0 rfl
        have y8_1 := cell_of q8w8 1 rfl
        have y10_0 := cell_of q10w8 0 rfl
        have y10_1 := cell_of q10w8 1 rfl
        have y12_0 := cell_of q12w8 0 rfl
        have y12_1 := cell_of q12w8 1 rfl
        go_wp2_with fail
        clear y1_0 y1_1 y3_0 y3_1 y5_0 y5_1 y7_0 y7_1 y8_0 y8_1 y10_0 y10_1 y12_0 y12_1
        refine (num_ok (-9223372036854775808) w8 (by decide) (by decide)).mono ?_
        rintro e w9 ⟨b9, p9, l9, c9, rfl, hO9, hb9⟩
        have q1w9 := (hb9.block _ (Array.getElem?_eq_some_iff.1 q1w8).1).trans q1w8
        have n1w9 := n1w8.later hb9
        have q3w9 := (hb9.block _ (Array.getElem?_eq_some_iff.1 q3w8).1).trans q3w8
        have n3w9 := n3w8.later hb9
        have q5w9 := (hb9.block _ (Array.getElem?_eq_some_iff.1 q5w8).1).trans q5w8
        have n5w9 := n5w8.later hb9
        have q7w9 := (hb9.block _ (Array.getElem?_eq_some_iff.1 q7w8).1).trans q7w8
        have n7w9 := n7w8.later hb9
        have q8w9 := (hb9.block _ (Array.getElem?_eq_some_iff.1 q8w8).1).trans q8w8
        have n8w9 := n8w8.later hb9
        have q10w9 := (hb9.block _ (Array.getElem?_eq_some_iff.1 q10w8).1).trans q10w8
        have n10w9 := n10w8.later hb9
        have q12w9 := (hb9.block _ (Array.getElem?_eq_some_iff.1 q12w8).1).trans q12w8
        have n12w9 := n12w8.later hb9
        have hBXw9 := hBXw8.trans (hb9.mono hBXw8.size)
        have u9 := hO9.num
        have hfd := fun W => field_any b9 p9 l9 c9 W
        have y1_0 := cell_of q1w9 0 rfl
        have y1_1 := cell_of q1w9 1 rfl
        have y3_0 := cell_of q3w9 0 rfl
        have y3_1 := cell_of q3w9 1 rfl
        have y5_0 := cell_of q5w9 0 rfl
        have y5_1 := cell_of q5w9 1 rfl
        have y7_0 := cell_of q7w9 0 rfl
        have y7_1 := cell_of q7w9 1 rfl
        have y8_0 := cell_of q8w9 0 rfl
        have y8_1 := cell_of q8w9 1 rfl
        have y10_0 := cell_of q10w9 0 rfl
        have y10_1 := cell_of q10w9 1 rfl
        have y12_0 := cell_of q12w9 0 rfl
        have y12_1 := cell_of q12w9 1 rfl
        go_wp2_with fail
        clear y1_0 y1_1 y3_0 y3_1 y5_0 y5_1 y7_0 y7_1 y8_0 y8_1 y10_0 y10_1 y12_0 y12_1
        refine (Int_ok _ _ w9 (Wn.abs u9)).mono ?_
        rintro e w10 ⟨k10, er10, rfl, hk10, hb10⟩
        have hkk : k10 = 0 ∧ er10 = 3 := by have hmin : ((-9223372036854775808 : Int).natAbs : Int) = 9223372036854775808 := (by decide); omega
        clear hk10
        obtain ⟨rfl, rfl⟩ := hkk
        have q1w10 := (hb10.block _ (Array.getElem?_eq_some_iff.1 q1w9).1).trans q1w9
        have n1w10 := n1w9.later hb10
        have q3w10 := (hb10.block _ (Array.getElem?_eq_some_iff.1 q3w9).1).trans q3w9
        have n3w10 := n3w9.later hb10
        have q5w10 := (hb10.block _ (Array.getElem?_eq_some_iff.1 q5w9).1).trans q5w9
        have n5w10 := n5w9.later hb10
        have q7w10 := (hb10.block _ (Array.getElem?_eq_some_iff.1 q7w9).1).trans q7w9
        have n7w10 := n7w9.later hb10
        have q8w10 := (hb10.block _ (Array.getElem?_eq_some_iff.1 q8w9).1).trans q8w9
        have n8w10 := n8w9.later hb10
        have q10w10 := (hb10.block _ (Array.getElem?_eq_some_iff.1 q10w9).1).trans q10w9
        have n10w10 := n10w9.later hb10
        have q12w10 := (hb10.block _ (Array.getElem?_eq_some_iff.1 q12w9).1).trans q12w9
        have n12w10 := n12w9.later hb10
        have hBXw10 := hBXw9.trans (hb10.mono hBXw9.size)
        have u9w10 := u9.later hb10
        clear hfd
        have y1_0 := cell_of q1w10 0 rfl
        have y1_1 := cell_of q1w10 1 rfl
        have y3_0 := cell_of q3w10 0 rfl
        have y3_1 := cell_of q3w10 1 rfl
        have y5_0 := cell_of q5w10 0 rfl
        have y5_1 := cell_of q5w10 1 rfl
        have y7_0 := cell_of q7w10 0 rfl
        have y7_1 := cell_of q7w10 1 rfl
        have y8_0 := cell_of q8w10 0 rfl
        have y8_1 := cell_of q8w10 1 rfl
        have y10_0 := cell_of q10w10 0 rfl
        have y10_1 := cell_of q10w10 1 rfl
        have y12_0 := cell_of q12w10 0 rfl
        have y12_1 := cell_of q12w10 1 rfl
        go_wp2_with fail
        clear y1_0 y1_1 y3_0 y3_1 y5_0 y5_1 y7_0 y7_1 y8_0 y8_1 y10_0 y10_1 y12_0 y12_1
        refine (num_ok 9223372036854775807 w10 (by decide) (by decide)).mono ?_
        rintro e w11 ⟨b11, p11, l11, c11, rfl, hO11, hb11⟩
        have q1w11 := (hb11.block _ (Array.getElem?_eq_some_iff.1 q1w10).1).trans q1w10
        have n1w11 := n1w10.later hb11
        have q3w11 := (hb11.block _ (Array.getElem?_eq_some_iff.1 q3w10).1).trans q3w10
        have n3w11 := n3w10.later hb11
        have q5w11 := (hb11.block _ (Array.getElem?_eq_some_iff.1 q5w10).1).trans q5w10
        have n5w11 := n5w10.later hb11
        have q7w11 := (hb11.block _ (Array.getElem?_eq_some_iff.1 q7w10).1).trans q7w10
        have n7w11 := n7w10.later hb11
        have q8w11 := (hb11.block _ (Array.getElem?_eq_some_iff.1 q8w10).1).trans q8w10
        have n8w11 := n8w10.later hb11
        have q10w11 := (hb11.block _ (Array.getElem?_eq_some_iff.1 q10w10).1).trans q10w10
        have n10w11 := n10w10.later hb11
        have q12w11 := (hb11.block _ (Array.getElem?_eq_some_iff.1 q12w10).1).trans q12w10
        have n12w11 := n12w10.later hb11
        have hBXw11 := hBXw10.trans (hb11.mono hBXw10.size)
        have u10 := hO11.num
        have y1_0 := cell_of q1w11 0 rfl
        have y1_1 := cell_of q1w11 1 rfl
        have y3_0 := cell_of q3w11 0 rfl
        have y3_1 := cell_of q3w11 1 rfl
        have y5_0 := cell_of q5w11 0 rfl
        have y5_1 := cell_of q5w11 1 rfl
        have y7_0 := cell_of q7w11 0 rfl
        have y7_1 := cell_of q7w11 1 rfl
        have y8_0 := cell_of q8w11 0 rfl
        have y8_1 := cell_of q8w11 1 rfl
        have y10_0 := cell_of q10w11 0 rfl
        have y10_1 := cell_of q10w11 1 rfl
        have y12_0 := cell_of q12w11 0 rfl
        have y12_1 := cell_of q12w11 1 rfl
        go_wp2_with fail
        clear y1_0 y1_1 y3_0 y3_1 y5_0 y5_1 y7_0 y7_1 y8_0 y8_1 y10_0 y10_1 y12_0 y12_1
        refine (Int_ok _ 9223372036854775807 w11 u10).mono ?_
        rintro e w12 ⟨k12, er12, rfl, hk12, hb12⟩
        have hkk : k12 = 9223372036854775807 ∧ er12 = 0 := by have hmin : ((-9223372036854775808 : Int).natAbs : Int) = 9223372036854775808 := (by decide); omega
        clear hk12
        obtain ⟨rfl, rfl⟩ := hkk
        have q1w12 := (hb12.block _ (Array.getElem?_eq_some_iff.1 q1w11).1).trans q1w11
        have n1w12 := n1w11.later hb12
        have q3w12 := (hb12.block _ (Array.getElem?_eq_some_iff.1 q3w11).1).trans q3w11
        have n3w12 := n3w11.later hb12
        have q5w12 := (hb12.block _ (Array.getElem?_eq_some_iff.1 q5w11).1).trans q5w11
        have n5w12 := n5w11.later hb12
        have q7w12 := (hb12.block _ (Array.getElem?_eq_some_iff.1 q7w11).1).trans q7w11
        have n7w12 := n7w11.later hb12
        have q8w12 := (hb12.block _ (Array.getElem?_eq_some_iff.1 q8w11).1).trans q8w11
        have n8w12 := n8w11.later hb12
        have q10w12 := (hb12.block _ (Array.getElem?_eq_some_iff.1 q10w11).1).trans q10w11
        have n10w12 := n10w11.later hb12
        have q12w12 := (hb12.block _ (Array.getElem?_eq_some_iff.1 q12w11).1).trans q12w11
        have n12w12 := n12w11.later hb12
        have hBXw12 := hBXw11.trans (hb12.mono hBXw11.size)
        have u10w12 := u10.later hb12
        have y1_0 := cell_of q1w12 0 rfl
        have y1_1 := cell_of q1w12 1 rfl
        have y3_0 := cell_of q3w12 0 rfl
        have y3_1 := cell_of q3w12 1 rfl
        have y5_0 := cell_of q5w12 0 rfl
        have y5_1 := cell_of q5w12 1 rfl
        have y7_0 := cell_of q7w12 0 rfl
        have y7_1 := cell_of q7w12 1 rfl
        have y8_0 := cell_of q8w12 0 rfl
        have y8_1 := cell_of q8w12 1 rfl
        have y10_0 := cell_of q10w12 0 rfl
        have y10_1 := cell_of q10w12 1 rfl
        have y12_0 := cell_of q12w12 0 rfl
        have y12_1 := cell_of q12w12 1 rfl
        go_wp2_with fail
        clear y1_0 y1_1 y3_0 y3_1 y5_0 y5_1 y7_0 y7_1 y8_0 y8_1 y10_0 y10_1 y12_0 y12_1
        refine (is_ok _ 0 0 w12 n10w12 (by decide) (by decide)).mono ?_
        rintro e w13 ⟨rfl, hb13⟩
        have q1w13 := (hb13.block _ (Array.getElem?_eq_some_iff.1 q1w12).1).trans q1w12
        have n1w13 := n1w12.later hb13
        have q3w13 := (hb13.block _ (Array.getElem?_eq_some_iff.1 q3w12).1).trans q3w12
        have n3w13 := n3w12.later hb13
        have q5w13 := (hb13.block _ (Array.getElem?_eq_some_iff.1 q5w12).1).trans q5w12
        have n5w13 := n5w12.later hb13
        have q7w13 := (hb13.block _ (Array.getElem?_eq_some_iff.1 q7w12).1).trans q7w12
        have n7w13 := n7w12.later hb13
        have q8w13 := (hb13.block _ (Array.getElem?_eq_some_iff.1 q8w12).1).trans q8w12
        have n8w13 := n8w12.later hb13
        have q10w13 := (hb13.block _ (Array.getElem?_eq_some_iff.1 q10w12).1).trans q10w12
        have n10w13 := n10w12.later hb13
        have q12w13 := (hb13.block _ (Array.getElem?_eq_some_iff.1 q12w12).1).trans q12w12
        have n12w13 := n12w12.later hb13
        have hBXw13 := hBXw12.trans (hb13.mono hBXw12.size)
        have n12' := n12w13
        rw [HhS.out] at n12'
        obtain ⟨hl, g, off, rfl, hg, d0, d1⟩ := wn_sqr (k := 511) n12'
        have hl' : l6 = 1024 := hl
        clear hl n12'
        subst hl'
        have d2 : w13.cell? ⟨g, off + 512, none⟩ = some (.int .u16 65534) := d1
        have y1_0 := cell_of q1w13 0 rfl
        have y1_1 := cell_of q1w13 1 rfl
        have y3_0 := cell_of q3w13 0 rfl
        have y3_1 := cell_of q3w13 1 rfl
        have y5_0 := cell_of q5w13 0 rfl
        have y5_1 := cell_of q5w13 1 rfl
        have y7_0 := cell_of q7w13 0 rfl
        have y7_1 := cell_of q7w13 1 rfl
        have y8_0 := cell_of q8w13 0 rfl
        have y8_1 := cell_of q8w13 1 rfl
        have y10_0 := cell_of q10w13 0 rfl
        have y10_1 := cell_of q10w13 1 rfl
        have y12_0 := cell_of q12w13 0 rfl
        have y12_1 := cell_of q12w13 1 rfl
        go_wp2_with fail
        clear y1_0 y1_1 y3_0 y3_1 y5_0 y5_1 y7_0 y7_1 y8_0 y8_1 y10_0 y10_1 y12_0 y12_1
        refine (large_raw w13).mono ?_
        rintro e w14 ⟨p14, l14, c14, zs14, rfl, hR14, hl14, ho14, hb14⟩
        have q1w14 := (hb14.block _ (Array.getElem?_eq_some_iff.1 q1w13).1).trans q1w13
        have n1w14 := n1w13.later hb14
        have q3w14 := (hb14.block _ (Array.getElem?_eq_some_iff.1 q3w13).1).trans q3w13
        have n3w14 := n3w13.later hb14
        have q5w14 := (hb14.block _ (Array.getElem?_eq_some_iff.1 q5w13).1).trans q5w13
        have n5w14 := n5w13.later hb14
        have q7w14 := (hb14.block _ (Array.getElem?_eq_some_iff.1 q7w13).1).trans q7w13
        have n7w14 := n7w13.later hb14
        have q8w14 := (hb14.block _ (Array.getElem?_eq_some_iff.1 q8w13).1).trans q8w13
        have n8w14 := n8w13.later hb14
        have q10w14 := (hb14.block _ (Array.getElem?_eq_some_iff.1 q10w13).1).trans q10w13
        have n10w14 := n10w13.later hb14
        have q12w14 := (hb14.block _ (Array.getElem?_eq_some_iff.1 q12w13).1).trans q12w13
        have n12w14 := n12w13.later hb14
        have hBXw14 := hBXw13.trans (hb14.mono hBXw13.size)
        have y1_0 := cell_of q1w14 0 rfl
        have y1_1 := cell_of q1w14 1 rfl
        have y3_0 := cell_of q3w14 0 rfl
        have y3_1 := cell_of q3w14 1 rfl
        have y5_0 := cell_of q5w14 0 rfl
        have y5_1 := cell_of q5w14 1 rfl
        have y7_0 := cell_of q7w14 0 rfl
        have y7_1 := cell_of q7w14 1 rfl
        have y8_0 := cell_of q8w14 0 rfl
        have y8_1 := cell_of q8w14 1 rfl
        have y10_0 := cell_of q10w14 0 rfl
        have y10_1 := cell_of q10w14 1 rfl
        have y12_0 := cell_of q12w14 0 rfl
        have y12_1 := cell_of q12w14 1 rfl
        go_wp2_with fail
        clear y1_0 y1_1 y3_0 y3_1 y5_0 y5_1 y7_0 y7_1 y8_0 y8_1 y10_0 y10_1 y12_0 y12_1
        refine (Valid_any _ false zs14 w14 hR14 hl14).mono ?_
        rintro e w15 ⟨rfl, hb15⟩
        rw [ho14]
        have q1w15 := (hb15.block _ (Array.getElem?_eq_some_iff.1 q1w14).1).trans q1w14
        have n1w15 := n1w14.later hb15
        have q3w15 := (hb15.block _ (Array.getElem?_eq_some_iff.1 q3w14).1).trans q3w14
        have n3w15 := n3w14.later hb15
        have q5w15 := (hb15.block _ (Array.getElem?_eq_some_iff.1 q5w14).1).trans q5w14
        have n5w15 := n5w14.later hb15
        have q7w15 := (hb15.block _ (Array.getElem?_eq_some_iff.1 q7w14).1).trans q7w14
        have n7w15 := n7w14.later hb15
        have q8w15 := (hb15.block _ (Array.getElem?_eq_some_iff.1 q8w14).1).trans q8w14
        have n8w15 := n8w14.later hb15
        have q10w15 := (hb15.block _ (Array.getElem?_eq_some_iff.1 q10w14).1).trans q10w14
        have n10w15 := n10w14.later hb15
        have q12w15 := (hb15.block _ (Array.getElem?_eq_some_iff.1 q12w14).1).trans q12w14
        have n12w15 := n12w14.later hb15
        have hBXw15 := hBXw14.trans (hb15.mono hBXw14.size)
        have haw := awake_ok w15 (htab.below' hBXw15)
        have y1_0 := cell_of q1w15 0 rfl
        have y1_1 := cell_of q1w15 1 rfl
        have y3_0 := cell_of q3w15 0 rfl
        have y3_1 := cell_of q3w15 1 rfl
        have y5_0 := cell_of q5w15 0 rfl
        have y5_1 := cell_of q5w15 1 rfl
        have y7_0 := cell_of q7w15 0 rfl
        have y7_1 := cell_of q7w15 1 rfl
        have y8_0 := cell_of q8w15 0 rfl
        have y8_1 := cell_of q8w15 1 rfl
        have y10_0 := cell_of q10w15 0 rfl
        have y10_1 := cell_of q10w15 1 rfl
        have y12_0 := cell_of q12w15 0 rfl
        have y12_1 := cell_of q12w15 1 rfl
        go_wp2_with fail
        clear y1_0 y1_1 y3_0 y3_1 y5_0 y5_1 y7_0 y7_1 y8_0 y8_1 y10_0 y10_1 y12_0 y12_1
        refine (haw).mono ?_
        rintro e w16 ⟨rfl, hb16⟩
        have q1w16 := (hb16.block _ (Array.getElem?_eq_some_iff.1 q1w15).1).trans q1w15
        have n1w16 := n1w15.later hb16
        have q3w16 := (hb16.block _ (Array.getElem?_eq_some_iff.1 q3w15).1).trans q3w15
        have n3w16 := n3w15.later hb16
        have q5w16 := (hb16.block _ (Array.getElem?_eq_some_iff.1 q5w15).1).trans q5w15
        have n5w16 := n5w15.later hb16
        have q7w16 := (hb16.block _ (Array.getElem?_eq_some_iff.1 q7w15).1).trans q7w15
        have n7w16 := n7w15.later hb16
        have q8w16 := (hb16.block _ (Array.getElem?_eq_some_iff.1 q8w15).1).trans q8w15
        have n8w16 := n8w15.later hb16
        have q10w16 := (hb16.block _ (Array.getElem?_eq_some_iff.1 q10w15).1).trans q10w15
        have n10w16 := n10w15.later hb16
        have q12w16 := (hb16.block _ (Array.getElem?_eq_some_iff.1 q12w15).1).trans q12w15
        have n12w16 := n12w15.later hb16
        have hBXw16 := hBXw15.trans (hb16.mono hBXw15.size)
        go_wp2
        go_ret
        exact ⟨rfl, hBXw16⟩

end Go.Proofs.YtbaiohjladddlaaDoor
