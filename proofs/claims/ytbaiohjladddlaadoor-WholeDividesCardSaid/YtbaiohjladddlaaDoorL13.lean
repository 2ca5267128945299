import Derived.Test.YtbaiohjladddlaaDoorF3
/- The law WholeDivides, walked. -/
namespace Go.Proofs.YtbaiohjladddlaaDoor
open Go.RowKit Go.WM Go.WR
attribute [local go_sem] Oper.semAt_some

def DivZ (w : World) (e : Ending) (w' : World) : Prop := e = .returned (.tuple #[.agg #[.bool false, .slice none 0 0], .agg #[.bool false, .slice none 0 0], .int .i64 11]) ∧ Below w.heap.size w w'
theorem div_oz {f : Nat} {vs : Array Value} {w : World} (h : Calls Tryd.prog f vs w (DivBad 11 w)) : Calls Tryd.prog f vs w (DivZ w) := h
theorem zero_at (W : World) : Wn W.heap.size W (.agg #[.bool false, .slice none 0 0]) 0 := ⟨_, [], rfl, .inl ⟨rfl, rfl⟩, Rep.nil, (Sz.lit (z := 0) (by decide)).cap (by decide) (by decide)⟩
theorem floor_exists (a : Int) {b : Int} (hb : b ≠ 0) : ∃ q r, Floor a b q r := by
  by_cases h : decide (a < 0) = decide (b < 0)
  · exact ⟨_, _, floor_same hb h⟩
  · by_cases hr : (a.natAbs : Int) % b.natAbs = 0
    · exact ⟨_, _, floor_zero hb h hr⟩
    · exact ⟨_, _, floor_diff hb h (by have := Int.emod_nonneg (a.natAbs : Int) (show (b.natAbs : Int) ≠ 0 by omega); omega)⟩
theorem floor_rest {a b q r : Int} (hb : b ≠ 0) (h : Floor a b q r) : r.natAbs < b.natAbs := by
  have h1 := h.pos
  have h2 := h.neg
  omega
theorem floor_quo {a b q r : Int} (hb : b ≠ 0) (h : Floor a b q r) : q.natAbs ≤ a.natAbs := by
  apply Nat.le_of_not_lt
  intro hlt
  have hr := floor_rest hb h
  have e : (q * b).natAbs ≤ a.natAbs + r.natAbs := by have := h.eq; omega
  rw [Int.natAbs_mul] at e
  have h1 : (a.natAbs + 1) * b.natAbs ≤ q.natAbs * b.natAbs := Nat.mul_le_mul_right _ hlt
  have h2 : a.natAbs ≤ a.natAbs * b.natAbs := Nat.le_mul_of_pos_right _ (by omega)
  rw [Nat.add_mul] at h1
  omega
theorem floor_next {a b q r : Int} (h : Floor a b q r) : Floor (a + b) b (q + 1) r := ⟨by rw [Int.add_mul]; have := h.eq; omega, h.pos, h.neg⟩
theorem sz_le {j k : Nat} {x y : Int} (h : Sz j k y) (hx : x.natAbs ≤ y.natAbs) : Sz j k x := Nat.lt_of_le_of_lt hx h
theorem sz_abs {j k : Nat} {c : Int} (h : Sz j k c) : Sz j k (c.natAbs : Int) := by
  unfold Sz at *; rw [Int.natAbs_natCast]; exact h
theorem cmp_lt {x y : Int} (h : x < y) : cmpI x y = -1 := by unfold cmpI; rw [if_pos h]

set_option maxRecDepth 100000 in
set_option maxHeartbeats 8000000 in
theorem Divides_any (va vb : Value) (na nb : Bool) (A B : List Int) (w : World) (hA : Wr w.heap.size w va na A) (hB : Wr w.heap.size w vb nb B) (hla : A.length ≤ 140737488355328) (hlb : B.length ≤ 140737488355328) (hma : Lm A) (hmb : Lm B) (htab : Tab w) : Calls Tryd.prog 7 #[va, vb] w (BoolP true w) := by
  by_cases hu : (A.length ≤ 200 ∧ okB na A = true) ∧ (B.length ≤ 200 ∧ okB nb B = true)
  · -- usable
    obtain ⟨⟨hua, hoa⟩, ⟨hub, hob⟩⟩ := hu
    obtain ⟨a, hNa, hSa⟩ := num_of_ok 2 hA (by omega) hoa hma
    obtain ⟨b, hNb, hSb⟩ := num_of_ok 2 hB (by omega) hob hmb
    obtain ⟨sa, rfl, hLa⟩ := hA
    obtain ⟨pa, la, ca, rfl⟩ := hLa.form
    obtain ⟨sb, rfl, hLb⟩ := hB
    obtain ⟨pb, lb, cb, rfl⟩ := hLb.form
    obtain ⟨w3, hw3⟩ : ∃ x, x = ((w.alloc (.cells #[.bool na, .slice pa la ca] 24)).alloc (.cells #[.bool nb, .slice pb lb cb] 24)) := ⟨_, rfl⟩
    have hB3 : Below w.heap.size w w3 := by rw [hw3]; exact ((Below.refl _ w).alloc (by omega) _).alloc (by simp) _
    have hs3 : w3.heap.size = w.heap.size + 2 := by rw [hw3]; simp
    have q0 : w3.heap[w.heap.size]? = some (.cells #[.bool na, .slice pa la ca] 24) := by rw [hw3]; exact alloc_old _ _ (alloc_new _ _ rfl)
    have q1 : w3.heap[w.heap.size + 1]? = some (.cells #[.bool nb, .slice pb lb cb] 24) := by rw [hw3]; exact alloc_new _ _ (by rw [World.size_alloc])
    have haw := awake_ok w3 (htab.below' hB3)
    have HW := Lib.hid hw3
    clear hw3
    go_enter Tryd.func7, Tryd.ntmps7
    go_wp2_with fail
    rw [← HW.out]
    refine haw.mono ?_
    rintro e w4 ⟨rfl, hb4⟩
    have hz4 := hb4.size
    have r0 := (hb4.block _ (Array.getElem?_eq_some_iff.1 q0).1).trans q0
    have d0 := cell_of r0 0 rfl
    have d1 := cell_of r0 1 rfl
    have r1 := (hb4.block _ (Array.getElem?_eq_some_iff.1 q1).1).trans q1
    have d2 := cell_of r1 0 rfl
    have d3 := cell_of r1 1 rfl
    go_wp2_with fail
    obtain ⟨w5, hw5⟩ : ∃ x, x = w4.alloc (.cells #[.bool na, .slice pa la ca, .bool nb, .slice pb lb cb] 24) := ⟨_, rfl⟩
    rw [← hw5]
    have hb5 : Below w4.heap.size w4 w5 := by rw [hw5]; exact (Below.refl _ _).alloc (Nat.le_refl _) _
    have qg : w5.heap[w4.heap.size]? = some (.cells #[.bool na, .slice pa la ca, .bool nb, .slice pb lb cb] 24) := by rw [hw5]; exact alloc_new _ _ rfl
    have HW5 := Lib.hid hw5
    clear hw5 d0 d1 d2 d3
    have hB5 : Below w.heap.size w w5 := hB3.trans ((hb4.trans (hb5.mono hb4.size)).mono hB3.size)
    refine (usable2 w4.heap.size 200 na nb _ _ A B w5 (Array.getElem?_eq_some_iff.1 qg).1 (by omega) hla hlb qg ((hLa.below hB5).mono hB5.size) ((hLb.below hB5).mono hB5.size) true ?_).mono ?_
    · exact ⟨fun _ => ⟨⟨hua, hoa⟩, ⟨hub, hob⟩⟩, fun _ => rfl⟩
    rintro e w6 ⟨rfl, hb6⟩
    have hB6 : Below w.heap.size w w6 := hB5.trans (hb6.mono hB5.size)
    have t0 := (hb6.block _ (Array.getElem?_eq_some_iff.1 ((hb5.block _ (Array.getElem?_eq_some_iff.1 r0).1).trans r0)).1).trans ((hb5.block _ (Array.getElem?_eq_some_iff.1 r0).1).trans r0)
    have ma : Wn w6.heap.size w6 (.agg #[.bool na, .slice pa la ca]) a := hNa.later hB6
    have t1 := (hb6.block _ (Array.getElem?_eq_some_iff.1 ((hb5.block _ (Array.getElem?_eq_some_iff.1 r1).1).trans r1)).1).trans ((hb5.block _ (Array.getElem?_eq_some_iff.1 r1).1).trans r1)
    have mb : Wn w6.heap.size w6 (.agg #[.bool nb, .slice pb lb cb]) b := hNb.later hB6
    clear r0 r1 q0 q1 qg hz4 hs3 hNa hNb hLa hLb hua hoa hub hob
    by_cases hb0 : b = 0
    · -- b is 0
      subst hb0
      have y2_0 := cell_of t0 0 rfl
      have y2_1 := cell_of t0 1 rfl
      have y3_0 := cell_of t1 0 rfl
      have y3_1 := cell_of t1 1 rfl
      go_wp2_with fail
      clear y2_0 y2_1 y3_0 y3_1
      refine (div_oz (DivMod_zero _ _ a w6 ma mb)).mono ?_
      rintro e w7 ⟨rfl, hbw7⟩
      have q2w7 := (hbw7.block _ (Array.getElem?_eq_some_iff.1 t0).1).trans t0
      have n2w7 := ma.later hbw7
      have q3w7 := (hbw7.block _ (Array.getElem?_eq_some_iff.1 t1).1).trans t1
      have n3w7 := mb.later hbw7
      have hBXw7 := hB6.trans (hbw7.mono hB6.size)
      have lb' : ((lb : Int) == 0) = true := by rw [(Wn.len n3w7).2 rfl]; rfl
      obtain ⟨x7, hwx7⟩ : ∃ x, x = ((w7.alloc (.cells #[.bool false, .slice none 0 0] 24)).alloc (.cells #[.bool false, .slice none 0 0] 24)) := ⟨_, rfl⟩
      have hbx7 : Below w7.heap.size w7 x7 := by rw [hwx7]; exact ((Below.refl _ _).alloc (by exact Nat.le_refl _) _).alloc (by simp) _
      have qn5 : x7.heap[w7.heap.size]? = some (.cells #[.bool false, .slice none 0 0] 24) := by rw [hwx7]; exact alloc_old _ _ (alloc_new _ _ rfl)
      have qn6 : x7.heap[w7.heap.size + 1]? = some (.cells #[.bool false, .slice none 0 0] 24) := by rw [hwx7]; exact alloc_new _ _ (by simp)
      have q2x7 := (hbx7.block _ (Array.getElem?_eq_some_iff.1 q2w7).1).trans q2w7
      have n2x7 := n2w7.later hbx7
      have q3x7 := (hbx7.block _ (Array.getElem?_eq_some_iff.1 q3w7).1).trans q3w7
      have n3x7 := n3w7.later hbx7
      have n5x7 := (zero_at w7).later hbx7
      have n6x7 := (zero_at w7).later hbx7
      have hBYx7 := hBXw7.trans (hbx7.mono hBXw7.size)
      have y2_0 := cell_of q2x7 0 rfl
      have y2_1 := cell_of q2x7 1 rfl
      have y3_0 := cell_of q3x7 0 rfl
      have y3_1 := cell_of q3x7 1 rfl
      have y5_0 := cell_of qn5 0 rfl
      have y5_1 := cell_of qn5 1 rfl
      have y6_0 := cell_of qn6 0 rfl
      have y6_1 := cell_of qn6 1 rfl
      rw [hwx7] at y2_0 y2_1 y3_0 y3_1 y5_0 y5_1 y6_0 y6_1
      have HHx7 := Lib.hid hwx7
      clear hwx7
      go_wp2_with fail
      clear y2_0 y2_1 y3_0 y3_1 y5_0 y5_1 y6_0 y6_1
      rw [← HHx7.out]
      refine (equal_true _ _ 0 0 x7 n5x7 (zero_at _) rfl).mono ?_
      rintro e w8 ⟨rfl, hbw8⟩
      have q2w8 := (hbw8.block _ (Array.getElem?_eq_some_iff.1 q2x7).1).trans q2x7
      have n2w8 := n2x7.later hbw8
      have q3w8 := (hbw8.block _ (Array.getElem?_eq_some_iff.1 q3x7).1).trans q3x7
      have n3w8 := n3x7.later hbw8
      have q5w8 := (hbw8.block _ (Array.getElem?_eq_some_iff.1 qn5).1).trans qn5
      have n5w8 := n5x7.later hbw8
      have q6w8 := (hbw8.block _ (Array.getElem?_eq_some_iff.1 qn6).1).trans qn6
      have n6w8 := n6x7.later hbw8
      have hBXw8 := hBYx7.trans (hbw8.mono hBYx7.size)
      have y2_0 := cell_of q2w8 0 rfl
      have y2_1 := cell_of q2w8 1 rfl
      have y3_0 := cell_of q3w8 0 rfl
      have y3_1 := cell_of q3w8 1 rfl
      have y5_0 := cell_of q5w8 0 rfl
      have y5_1 := cell_of q5w8 1 rfl
      have y6_0 := cell_of q6w8 0 rfl
      have y6_1 := cell_of q6w8 1 rfl
      go_wp2_with fail
      clear y2_0 y2_1 y3_0 y3_1 y5_0 y5_1 y6_0 y6_1
      refine (equal_true _ _ 0 0 w8 n6w8 (zero_at _) rfl).mono ?_
      rintro e w9 ⟨rfl, hbw9⟩
      have q2w9 := (hbw9.block _ (Array.getElem?_eq_some_iff.1 q2w8).1).trans q2w8
      have n2w9 := n2w8.later hbw9
      have q3w9 := (hbw9.block _ (Array.getElem?_eq_some_iff.1 q3w8).1).trans q3w8
      have n3w9 := n3w8.later hbw9
      have q5w9 := (hbw9.block _ (Array.getElem?_eq_some_iff.1 q5w8).1).trans q5w8
      have n5w9 := n5w8.later hbw9
      have q6w9 := (hbw9.block _ (Array.getElem?_eq_some_iff.1 q6w8).1).trans q6w8
      have n6w9 := n6w8.later hbw9
      have hBXw9 := hBXw8.trans (hbw9.mono hBXw8.size)
      go_wp2
      go_ret
      exact ⟨rfl, hBXw9⟩
    · -- b is not 0
      obtain ⟨q, r, hF⟩ := floor_exists a hb0
      have hr := floor_rest hb0 hF
      have hSr : Sz 0 2 r := sz_le hSb (by omega)
      have hSq : Sz 0 2 q := sz_le hSa (floor_quo hb0 hF)
      have y2_0 := cell_of t0 0 rfl
      have y2_1 := cell_of t0 1 rfl
      have y3_0 := cell_of t1 0 rfl
      have y3_1 := cell_of t1 1 rfl
      go_wp2_with fail
      clear y2_0 y2_1 y3_0 y3_1
      refine (DivMod_fit _ _ a b q r w6 ma mb hb0 hF).mono ?_
      rintro e w7 ⟨b5, p5, l5, c5, b6, p6, l6, c6, rfl, hO5, hO6, hbw7⟩
      have q2w7 := (hbw7.block _ (Array.getElem?_eq_some_iff.1 t0).1).trans t0
      have n2w7 := ma.later hbw7
      have q3w7 := (hbw7.block _ (Array.getElem?_eq_some_iff.1 t1).1).trans t1
      have n3w7 := mb.later hbw7
      have hBXw7 := hB6.trans (hbw7.mono hB6.size)
      have g5 := hO5.num
      have g6 := hO6.num
      clear hO5 hO6
      have lb' : ((lb : Int) == 0) = false := by rw [beq_eq_false_iff_ne]; have := mt (Wn.len n3w7).1 hb0; omega
      have lr := g6.len
      have sr := g6.sign
      have sb := Wn.sign n3w7
      have hcase : (nb = false ∧ b6 = false) ∨ (nb = true ∧ b6 = false ∧ l6 = 0) ∨ (nb = true ∧ b6 = true ∧ 0 < l6) := by
        obtain ⟨f1, f2, f3⟩ := hF
        by_cases hn : b < 0
        · by_cases hr0 : r = 0
          · exact .inr (.inl ⟨by rw [sb, decide_eq_true hn], by rw [sr, decide_eq_false (by omega)], lr.2 hr0⟩)
          · exact .inr (.inr ⟨by rw [sb, decide_eq_true hn], by rw [sr, decide_eq_true (by have := f3 hn; omega)], by have := mt lr.1 hr0; omega⟩)
        · exact .inl ⟨by rw [sb, decide_eq_false hn], by rw [sr, decide_eq_false (by have := f2 (by omega); omega)]⟩
      clear lr sr sb
      rcases hcase with ⟨rfl, rfl⟩ | ⟨rfl, rfl, rfl⟩ | ⟨rfl, rfl, hl6⟩
      · -- case 0
        obtain ⟨x7, hx7⟩ : ∃ x, x = ((w7.alloc (.cells #[.bool b5, .slice p5 l5 c5] 24)).alloc (.cells #[.bool false, .slice p6 l6 c6] 24)) := ⟨_, rfl⟩
        have hbx7 : Below w7.heap.size w7 x7 := by rw [hx7]; exact ((Below.refl _ _).alloc (Nat.le_refl _) _).alloc (by simp) _
        have qn5 : x7.heap[w7.heap.size]? = some (.cells #[.bool b5, .slice p5 l5 c5] 24) := by rw [hx7]; exact alloc_old _ _ (alloc_new _ _ rfl)
        have qn6 : x7.heap[w7.heap.size + 1]? = some (.cells #[.bool false, .slice p6 l6 c6] 24) := by rw [hx7]; exact alloc_new _ _ (by simp)
        have q2x7 := (hbx7.block _ (Array.getElem?_eq_some_iff.1 q2w7).1).trans q2w7
        have n2x7 := n2w7.later hbx7
        have q3x7 := (hbx7.block _ (Array.getElem?_eq_some_iff.1 q3w7).1).trans q3w7
        have n3x7 := n3w7.later hbx7
        have hBXx7 := hBXw7.trans (hbx7.mono hBXw7.size)
        have n5x7 := g5.later hbx7
        have n6x7 := g6.later hbx7
        have y2_0 := cell_of q2x7 0 rfl
        have y2_1 := cell_of q2x7 1 rfl
        have y3_0 := cell_of q3x7 0 rfl
        have y3_1 := cell_of q3x7 1 rfl
        have y5_0 := cell_of qn5 0 rfl
        have y5_1 := cell_of qn5 1 rfl
        have y6_0 := cell_of qn6 0 rfl
        have y6_1 := cell_of qn6 1 rfl
        rw [hx7] at y2_0 y2_1 y3_0 y3_1 y5_0 y5_1 y6_0 y6_1
        go_wp2
        rw [← hx7]
        clear y2_0 y2_1 y3_0 y3_1 y5_0 y5_1 y6_0 y6_1 hx7
        refine region_boxes (n := 9) [.val (Value.pointer (some ⟨w.heap.size + 1, 1, none⟩)), .val (Value.slice pb lb cb), .num (b.natAbs : Int), .val (Value.pointer (some ⟨w7.heap.size + 1, 1, none⟩)), .val (Value.slice p6 l6 c6), .num (r.natAbs : Int), .any, .any, .any, .any] [(0, 43), (1, 44), (2, 45), (3, 46), (4, 47), (5, 48), (6, 8), (7, 9)] [(6, 2, 8), (7, 5, 9)] (by kernel_rfl) (by kernel_rfl) (by kernel_rfl) ?hbx1 (kd_nobox rfl) (by decide) ?hstep1 ?hend1
        case hbx1 =>
          intro t ht
          simp only [List.mem_cons, List.not_mem_nil, or_false] at ht
          rcases ht with rfl | rfl
          · exact ⟨⟨_, rfl, rfl, rfl⟩, ⟨_, _, _, rfl, rfl, rfl, rfl, rfl, rfl, ⟨⟨6, .data⟩, by simp, rfl, rfl⟩, ⟨⟨2, .data⟩, by simp, rfl, rfl⟩⟩, ⟨_, rfl⟩, ⟨rfl, rfl⟩⟩
          · exact ⟨⟨_, rfl, rfl, rfl⟩, ⟨_, _, _, rfl, rfl, rfl, rfl, rfl, rfl, ⟨⟨7, .data⟩, by simp, rfl, rfl⟩, ⟨⟨5, .data⟩, by simp, rfl, rfl⟩⟩, ⟨_, rfl⟩, ⟨rfl, rfl⟩⟩
        case hstep1 =>
          intro i o ho hne a' W hI hM
          match i, ho with
          | 0, ho =>
            cases ho
            refine stepK_of (wanted_none rfl) ?_
            exact opField (k := 1) (by decide) rfl (hM.old 3 rfl) ⟨rfl, Below.refl _ _⟩
          | 1, ho =>
            cases ho
            refine stepK_of (wanted_none rfl) ?_
            exact opLoad22 rfl (hM.dep ⟨0, .data⟩ (by simp) rfl 43 rfl) ((hI.block _ (Array.getElem?_eq_some_iff.1 q3x7).1).trans q3x7) ⟨rfl, Below.refl _ _⟩
          | 2, ho =>
            cases ho
            refine stepK_of (wanted_none rfl) ?_
            exact opBuild1 rfl (hM.dep ⟨1, .data⟩ (by simp) rfl 44 rfl) ⟨(Wn.abs n3x7).later hI, Below.refl _ _⟩
          | 3, ho =>
            cases ho
            refine stepK_of (wanted_none rfl) ?_
            exact opField (k := 1) (by decide) rfl (hM.old 6 rfl) ⟨rfl, Below.refl _ _⟩
          | 4, ho =>
            cases ho
            refine stepK_of (wanted_none rfl) ?_
            exact opLoad22 rfl (hM.dep ⟨3, .data⟩ (by simp) rfl 46 rfl) ((hI.block _ (Array.getElem?_eq_some_iff.1 qn6).1).trans qn6) ⟨rfl, Below.refl _ _⟩
          | 5, ho =>
            cases ho
            refine stepK_of (wanted_none rfl) ?_
            exact opBuild1 rfl (hM.dep ⟨4, .data⟩ (by simp) rfl 47 rfl) ⟨(Wn.abs n6x7).later hI, Below.refl _ _⟩
          | 6, ho =>
            cases ho
            exact absurd rfl (hne (6, 2, 8) (by simp)).1
          | 7, ho =>
            cases ho
            exact absurd rfl (hne (7, 5, 9) (by simp)).1
          | 8, ho =>
            cases ho
            exact absurd rfl (hne (6, 2, 8) (by simp)).2
          | 9, ho =>
            cases ho
            exact absurd rfl (hne (7, 5, 9) (by simp)).2
          | k + 10, ho => simp at ho
        case hend1 =>
          intro u1 W1 hI1 hV1 hX1
          obtain ⟨B8, e8, hn8, bb8, pp8, ll8, cc8, ev8, qB8⟩ := hX1 (6, 2, 8) (by simp)
          have hs8 : KV (.num (b.natAbs : Int)) (u1 2) W1 := hV1 2 45 rfl
          rw [ev8] at hs8
          obtain ⟨B9, e9, hn9, bb9, pp9, ll9, cc9, ev9, qB9⟩ := hX1 (7, 5, 9) (by simp)
          have hs9 : KV (.num (r.natAbs : Int)) (u1 5) W1 := hV1 5 48 rfl
          rw [ev9] at hs9
          simp only [putAll, List.foldl_cons, List.foldl_nil, List.setIfInBounds_toArray, List.set_cons_zero, List.set_cons_succ, e8, ev8, e9, ev9]
          clear e8 ev8 e9 ev9 hV1 hX1
          have q2_1 := (hI1.block _ (Array.getElem?_eq_some_iff.1 q2x7).1).trans q2x7
          have n2_1 := n2x7.later hI1
          have q3_1 := (hI1.block _ (Array.getElem?_eq_some_iff.1 q3x7).1).trans q3x7
          have n3_1 := n3x7.later hI1
          have q5_1 := (hI1.block _ (Array.getElem?_eq_some_iff.1 qn5).1).trans qn5
          have n5_1 := n5x7.later hI1
          have q6_1 := (hI1.block _ (Array.getElem?_eq_some_iff.1 qn6).1).trans qn6
          have n6_1 := n6x7.later hI1
          have hBW1 := hBXx7.trans (hI1.mono hBXx7.size)
          go_wp2
          refine region_kinds (n := 9) [.val (.int .i64 0), .val (.bool false), .val (.bool false), .num q, .num b, .num (q * b), .num r, .num ((q * b) + r), .num a, .val (.bool true), .val (.bool false), .val (.bool false), .val (.bool false), .val (Value.pointer (some ⟨w7.heap.size + 1, 0, none⟩)), .val (.bool false), .val (Value.pointer (some ⟨w.heap.size + 1, 0, none⟩)), .val (.bool false), .val (.bool false), .any, .any, .any, .any, .val (.bool false), .val (.bool false), .val (.bool false), .val (.bool false), .num (r.natAbs : Int), .num (b.natAbs : Int), .val (.int .i64 (-1)), .val (.bool false), .val (.bool false)] [(0, 49), (1, 50), (2, 51), (3, 52), (4, 53), (5, 54), (6, 55), (7, 56), (8, 57), (9, 58), (10, 59), (11, 60), (12, 61), (13, 62), (14, 63), (15, 64), (16, 65), (17, 66), (18, 67), (19, 68), (20, 69), (21, 70), (22, 71), (23, 72), (24, 73), (25, 74), (26, 75), (27, 76), (28, 77), (29, 78), (30, 79)] (by kernel_rfl) (by kernel_rfl) (by kernel_rfl) ?hstep2 ?hend2
          case hstep2 =>
            intro i o ho a' W hI hM
            match i, ho with
            | 0, ho =>
              cases ho
              refine stepK_of (wanted_none rfl) ?_
              exact opMove rfl (hM.old 7 rfl) ⟨rfl, Below.refl _ _⟩
            | 1, ho =>
              cases ho
              refine stepK_of (wanted_none rfl) ?_
              exact opNeq27 rfl (hM.dep ⟨0, .data⟩ (by simp) rfl 49 rfl) rfl ⟨rfl, Below.refl _ _⟩
            | 2, ho =>
              cases ho
              refine stepK_of (wanted_none rfl) ?_
              exact opMove rfl (hM.dep ⟨1, .data⟩ (by simp) rfl 50 rfl) ⟨rfl, Below.refl _ _⟩
            | 3, ho =>
              cases ho
              refine stepK_of (wantedK hM rfl rfl (hM.dep ⟨2, .guard⟩ (by simp) rfl 51 rfl) rfl (show 51 < 103 by decide)) ?_
              exact opLoad rfl (hM.old 5 rfl) ((hI.block _ (Array.getElem?_eq_some_iff.1 q5_1).1).trans q5_1) ⟨n5_1.later hI, Below.refl _ _⟩
            | 4, ho =>
              cases ho
              refine stepK_of (wantedK hM rfl rfl (hM.dep ⟨2, .guard⟩ (by simp) rfl 51 rfl) rfl (show 51 < 103 by decide)) ?_
              exact opLoad rfl (hM.old 3 rfl) ((hI.block _ (Array.getElem?_eq_some_iff.1 q3_1).1).trans q3_1) ⟨n3_1.later hI, Below.refl _ _⟩
            | 5, ho =>
              cases ho
              refine stepK_of (wantedK hM rfl rfl (hM.dep ⟨2, .chain⟩ (by simp) rfl 51 rfl) rfl (show 51 < 103 by decide)) ?_
              exact opCall2 rfl may17 rfl rfl (numK (product_ok _ _ q b W (hM.dep ⟨3, .data⟩ (by simp) rfl 52 rfl) (hM.dep ⟨4, .data⟩ (by simp) rfl 53 rfl) (Sz.cap (Sz.mul hSq hSb) (by decide) (by decide))))
            | 6, ho =>
              cases ho
              refine stepK_of (wantedK hM rfl rfl (hM.dep ⟨2, .guard⟩ (by simp) rfl 51 rfl) rfl (show 51 < 103 by decide)) ?_
              exact opLoad rfl (hM.old 6 rfl) ((hI.block _ (Array.getElem?_eq_some_iff.1 q6_1).1).trans q6_1) ⟨n6_1.later hI, Below.refl _ _⟩
            | 7, ho =>
              cases ho
              refine stepK_of (wantedK hM rfl rfl (hM.dep ⟨2, .guard⟩ (by simp) rfl 51 rfl) rfl (show 51 < 103 by decide)) ?_
              exact opCall2 rfl may16 rfl rfl (numK (sum_ok _ _ (q * b) r W (hM.dep ⟨5, .data⟩ (by simp) rfl 54 rfl) (hM.dep ⟨6, .data⟩ (by simp) rfl 55 rfl) (Sz.cap (Sz.add (j := 0) (k := 4) (Sz.mul hSq hSb) (hSr.up (by decide) (by decide))) (by decide) (by decide))))
            | 8, ho =>
              cases ho
              refine stepK_of (wantedK hM rfl rfl (hM.dep ⟨2, .guard⟩ (by simp) rfl 51 rfl) rfl (show 51 < 103 by decide)) ?_
              exact opLoad rfl (hM.old 2 rfl) ((hI.block _ (Array.getElem?_eq_some_iff.1 q2_1).1).trans q2_1) ⟨n2_1.later hI, Below.refl _ _⟩
            | 9, ho =>
              cases ho
              refine stepK_of (wantedK hM rfl rfl (hM.dep ⟨2, .guard⟩ (by simp) rfl 51 rfl) rfl (show 51 < 103 by decide)) ?_
              exact opCall2 rfl may18 rfl rfl (boolK (equal_true _ _ ((q * b) + r) a W (hM.dep ⟨7, .data⟩ (by simp) rfl 56 rfl) (hM.dep ⟨8, .data⟩ (by simp) rfl 57 rfl) (hF.eq.symm)))
            | 10, ho =>
              cases ho
              refine stepK_of (wantedK hM rfl rfl (hM.dep ⟨2, .guard⟩ (by simp) rfl 51 rfl) rfl (show 51 < 103 by decide)) ?_
              exact opNot rfl (hM.dep ⟨9, .data⟩ (by simp) rfl 58 rfl) ⟨rfl, Below.refl _ _⟩
            | 11, ho =>
              cases ho
              refine stepK_of (wanted_none rfl) ?_
              exact opPick rfl (hM.dep ⟨2, .data⟩ (by simp) rfl 51 rfl) (hM.dep ⟨10, .data⟩ (by simp) rfl 59 rfl) ⟨rfl, Below.refl _ _⟩
            | 12, ho =>
              cases ho
              refine stepK_of (wanted_none rfl) ?_
              exact opMove rfl (hM.dep ⟨11, .data⟩ (by simp) rfl 60 rfl) ⟨rfl, Below.refl _ _⟩
            | 13, ho =>
              cases ho
              refine stepK_of (wantedK hM rfl rfl (hM.dep ⟨12, .guard⟩ (by simp) rfl 61 rfl) rfl (show 61 < 103 by decide)) ?_
              exact opField (k := 0) (by decide) rfl (hM.old 6 rfl) ⟨rfl, Below.refl _ _⟩
            | 14, ho =>
              cases ho
              refine stepK_of (wantedK hM rfl rfl (hM.dep ⟨12, .guard⟩ (by simp) rfl 61 rfl) rfl (show 61 < 103 by decide)) ?_
              exact opLoad4 rfl (hM.dep ⟨13, .data⟩ (by simp) rfl 62 rfl) ((hI.block _ (Array.getElem?_eq_some_iff.1 q6_1).1).trans q6_1) ⟨rfl, Below.refl _ _⟩
            | 15, ho =>
              cases ho
              refine stepK_of (wantedK hM rfl rfl (hM.dep ⟨12, .guard⟩ (by simp) rfl 61 rfl) rfl (show 61 < 103 by decide)) ?_
              exact opField (k := 0) (by decide) rfl (hM.old 3 rfl) ⟨rfl, Below.refl _ _⟩
            | 16, ho =>
              cases ho
              refine stepK_of (wantedK hM rfl rfl (hM.dep ⟨12, .guard⟩ (by simp) rfl 61 rfl) rfl (show 61 < 103 by decide)) ?_
              exact opLoad4 rfl (hM.dep ⟨15, .data⟩ (by simp) rfl 64 rfl) ((hI.block _ (Array.getElem?_eq_some_iff.1 q3_1).1).trans q3_1) ⟨rfl, Below.refl _ _⟩
            | 17, ho =>
              cases ho
              refine stepK_of (wantedK hM rfl rfl (hM.dep ⟨12, .chain⟩ (by simp) rfl 61 rfl) rfl (show 61 < 103 by decide)) ?_
              exact opMove rfl (hM.dep ⟨16, .data⟩ (by simp) rfl 65 rfl) ⟨rfl, Below.refl _ _⟩
            | 18, ho =>
              cases ho
              exact .inr ⟨unwantedK hM rfl rfl (hM.dep ⟨17, .guard⟩ (by simp) rfl 66 rfl) rfl (by decide) (show 66 < 103 by decide), rfl⟩
            | 19, ho =>
              cases ho
              exact .inr ⟨unwantedK hM rfl rfl (hM.dep ⟨17, .guard⟩ (by simp) rfl 66 rfl) rfl (by decide) (show 66 < 103 by decide), rfl⟩
            | 20, ho =>
              cases ho
              exact .inr ⟨unwantedK hM rfl rfl (hM.dep ⟨17, .guard⟩ (by simp) rfl 66 rfl) rfl (by decide) (show 66 < 103 by decide), rfl⟩
            | 21, ho =>
              cases ho
              exact .inr ⟨unwantedK hM rfl rfl (hM.dep ⟨17, .guard⟩ (by simp) rfl 66 rfl) rfl (by decide) (show 66 < 103 by decide), rfl⟩
            | 22, ho =>
              cases ho
              refine stepK_of (wantedK hM rfl rfl (hM.dep ⟨12, .guard⟩ (by simp) rfl 61 rfl) rfl (show 61 < 103 by decide)) ?_
              exact opPick rfl (hM.dep ⟨17, .data⟩ (by simp) rfl 66 rfl) rfl ⟨rfl, Below.refl _ _⟩
            | 23, ho =>
              cases ho
              refine stepK_of (wantedK hM rfl rfl (hM.dep ⟨12, .guard⟩ (by simp) rfl 61 rfl) rfl (show 61 < 103 by decide)) ?_
              exact opNeqB rfl (hM.dep ⟨14, .data⟩ (by simp) rfl 63 rfl) (hM.dep ⟨22, .data⟩ (by simp) rfl 71 rfl) ⟨rfl, Below.refl _ _⟩
            | 24, ho =>
              cases ho
              refine stepK_of (wanted_none rfl) ?_
              exact opPick rfl (hM.dep ⟨12, .data⟩ (by simp) rfl 61 rfl) (hM.dep ⟨23, .data⟩ (by simp) rfl 72 rfl) ⟨rfl, Below.refl _ _⟩
            | 25, ho =>
              cases ho
              refine stepK_of (wanted_none rfl) ?_
              exact opMove rfl (hM.dep ⟨24, .data⟩ (by simp) rfl 73 rfl) ⟨rfl, Below.refl _ _⟩
            | 26, ho =>
              cases ho
              refine stepK_of (wantedK hM rfl rfl (hM.dep ⟨25, .guard⟩ (by simp) rfl 74 rfl) rfl (show 74 < 103 by decide)) ?_
              exact opLoad rfl (hM.old 9 rfl) ((hI.block _ (Array.getElem?_eq_some_iff.1 qB9).1).trans qB9) ⟨hs9.later hI, Below.refl _ _⟩
            | 27, ho =>
              cases ho
              refine stepK_of (wantedK hM rfl rfl (hM.dep ⟨25, .guard⟩ (by simp) rfl 74 rfl) rfl (show 74 < 103 by decide)) ?_
              exact opLoad rfl (hM.old 8 rfl) ((hI.block _ (Array.getElem?_eq_some_iff.1 qB8).1).trans qB8) ⟨hs8.later hI, Below.refl _ _⟩
            | 28, ho =>
              cases ho
              refine stepK_of (wantedK hM rfl rfl (hM.dep ⟨25, .chain⟩ (by simp) rfl 74 rfl) rfl (show 74 < 103 by decide)) ?_
              exact opCall2 rfl may33 rfl rfl (cmpK' (Cmp_ok _ _ (r.natAbs : Int) (b.natAbs : Int) W (hM.dep ⟨26, .data⟩ (by simp) rfl 75 rfl) (hM.dep ⟨27, .data⟩ (by simp) rfl 76 rfl)) (cmp_lt (by omega)))
            | 29, ho =>
              cases ho
              refine stepK_of (wantedK hM rfl rfl (hM.dep ⟨25, .guard⟩ (by simp) rfl 74 rfl) rfl (show 74 < 103 by decide)) ?_
              exact opNeq3 rfl (hM.dep ⟨28, .data⟩ (by simp) rfl 77 rfl) rfl ⟨rfl, Below.refl _ _⟩
            | 30, ho =>
              cases ho
              refine stepK_of (wanted_none rfl) ?_
              exact opPick rfl (hM.dep ⟨25, .data⟩ (by simp) rfl 74 rfl) (hM.dep ⟨29, .data⟩ (by simp) rfl 78 rfl) ⟨rfl, Below.refl _ _⟩
            | k + 31, ho => simp at ho
          case hend2 =>
            intro u2 W2 hI2 hV2
            have e2_30 : u2 30 = (.bool false) := hV2 30 79 rfl
            simp only [putAll, List.foldl_cons, List.foldl_nil, List.setIfInBounds_toArray, List.set_cons_zero, List.set_cons_succ, e2_30]
            clear e2_30 hV2
            have q2_2 := (hI2.block _ (Array.getElem?_eq_some_iff.1 q2_1).1).trans q2_1
            have n2_2 := n2_1.later hI2
            have q3_2 := (hI2.block _ (Array.getElem?_eq_some_iff.1 q3_1).1).trans q3_1
            have n3_2 := n3_1.later hI2
            have q5_2 := (hI2.block _ (Array.getElem?_eq_some_iff.1 q5_1).1).trans q5_1
            have n5_2 := n5_1.later hI2
            have q6_2 := (hI2.block _ (Array.getElem?_eq_some_iff.1 q6_1).1).trans q6_1
            have n6_2 := n6_1.later hI2
            have q8_2 := (hI2.block _ (Array.getElem?_eq_some_iff.1 qB8).1).trans qB8
            have n8_2 := hs8.later hI2
            have q9_2 := (hI2.block _ (Array.getElem?_eq_some_iff.1 qB9).1).trans qB9
            have n9_2 := hs9.later hI2
            have hBW2 := hBW1.trans (hI2.mono hBW1.size)
            go_wp2
            refine region_boxes (n := 9) [.num a, .num b, .num (a + b), .num b, .trip (q + 1) r 0, .trip (q + 1) r 0, .num (q + 1), .num r, .val (.int .i64 0), .any, .any, .any, .any, .val (.int .i64 0)] [(0, 81), (1, 82), (2, 83), (3, 84), (4, 85), (5, 80), (6, 86), (7, 87), (8, 88), (9, 10), (10, 11), (13, 12)] [(9, 6, 11), (10, 7, 12)] (by kernel_rfl) (by kernel_rfl) (by kernel_rfl) ?hbx3 (kd_nobox rfl) (by decide) ?hstep3 ?hend3
            case hbx3 =>
              intro t ht
              simp only [List.mem_cons, List.not_mem_nil, or_false] at ht
              rcases ht with rfl | rfl
              · exact ⟨⟨_, rfl, rfl, rfl⟩, ⟨_, _, _, rfl, rfl, rfl, rfl, rfl, rfl, ⟨⟨9, .data⟩, by simp, rfl, rfl⟩, ⟨⟨6, .data⟩, by simp, rfl, rfl⟩⟩, ⟨_, rfl⟩, ⟨rfl, rfl⟩⟩
              · exact ⟨⟨_, rfl, rfl, rfl⟩, ⟨_, _, _, rfl, rfl, rfl, rfl, rfl, rfl, ⟨⟨10, .data⟩, by simp, rfl, rfl⟩, ⟨⟨7, .data⟩, by simp, rfl, rfl⟩⟩, ⟨_, rfl⟩, ⟨rfl, rfl⟩⟩
            case hstep3 =>
              intro i o ho hne a' W hI hM
              match i, ho with
              | 0, ho =>
                cases ho
                refine stepK_of (wanted_none rfl) ?_
                exact opLoad rfl (hM.old 2 rfl) ((hI.block _ (Array.getElem?_eq_some_iff.1 q2_2).1).trans q2_2) ⟨n2_2.later hI, Below.refl _ _⟩
              | 1, ho =>
                cases ho
                refine stepK_of (wanted_none rfl) ?_
                exact opLoad rfl (hM.old 3 rfl) ((hI.block _ (Array.getElem?_eq_some_iff.1 q3_2).1).trans q3_2) ⟨n3_2.later hI, Below.refl _ _⟩
              | 2, ho =>
                cases ho
                refine stepK_of (wanted_none rfl) ?_
                exact opCall2 rfl may16 rfl rfl (numK (sum_ok _ _ a b W (hM.dep ⟨0, .data⟩ (by simp) rfl 81 rfl) (hM.dep ⟨1, .data⟩ (by simp) rfl 82 rfl) (Sz.cap (Sz.add (j := 0) (k := 2) hSa hSb) (by decide) (by decide))))
              | 3, ho =>
                cases ho
                refine stepK_of (wanted_none rfl) ?_
                exact opLoad rfl (hM.old 3 rfl) ((hI.block _ (Array.getElem?_eq_some_iff.1 q3_2).1).trans q3_2) ⟨n3_2.later hI, Below.refl _ _⟩
              | 4, ho =>
                cases ho
                refine stepK_of (wanted_none rfl) ?_
                exact opCall2 rfl may32 rfl rfl (tripK (DivMod_fit _ _ (a + b) b (q + 1) r W (hM.dep ⟨2, .data⟩ (by simp) rfl 83 rfl) (hM.dep ⟨3, .data⟩ (by simp) rfl 84 rfl) hb0 (floor_next hF)))
              | 5, ho =>
                cases ho
                refine stepK_of (wanted_none rfl) ?_
                exact opMoveK rfl (hM.dep ⟨4, .data⟩ (by simp) rfl 85 rfl)
              | 6, ho =>
                cases ho
                refine stepK_of (wanted_none rfl) ?_
                exact exT0 rfl (hM.dep ⟨5, .data⟩ (by simp) rfl 80 rfl)
              | 7, ho =>
                cases ho
                refine stepK_of (wanted_none rfl) ?_
                exact exT1 rfl (hM.dep ⟨5, .data⟩ (by simp) rfl 80 rfl)
              | 8, ho =>
                cases ho
                refine stepK_of (wanted_none rfl) ?_
                exact exT2 rfl (hM.dep ⟨5, .data⟩ (by simp) rfl 80 rfl)
              | 9, ho =>
                cases ho
                exact absurd rfl (hne (9, 6, 11) (by simp)).1
              | 10, ho =>
                cases ho
                exact absurd rfl (hne (10, 7, 12) (by simp)).1
              | 11, ho =>
                cases ho
                exact absurd rfl (hne (9, 6, 11) (by simp)).2
              | 12, ho =>
                cases ho
                exact absurd rfl (hne (10, 7, 12) (by simp)).2
              | 13, ho =>
                cases ho
                refine stepK_of (wanted_none rfl) ?_
                exact opAssign rfl (hM.dep ⟨8, .data⟩ (by simp) rfl 88 rfl) ⟨rfl, Below.refl _ _⟩
              | k + 14, ho => simp at ho
            case hend3 =>
              intro u3 W3 hI3 hV3 hX3
              obtain ⟨B10, e10, hn10, bb10, pp10, ll10, cc10, ev10, qB10⟩ := hX3 (9, 6, 11) (by simp)
              have hs10 : KV (.num (q + 1)) (u3 6) W3 := hV3 6 86 rfl
              rw [ev10] at hs10
              obtain ⟨B11, e11, hn11, bb11, pp11, ll11, cc11, ev11, qB11⟩ := hX3 (10, 7, 12) (by simp)
              have hs11 : KV (.num r) (u3 7) W3 := hV3 7 87 rfl
              rw [ev11] at hs11
              have ea13 : u3 13 = (.int .i64 0) := hV3 13 12 rfl
              simp only [putAll, List.foldl_cons, List.foldl_nil, List.setIfInBounds_toArray, List.set_cons_zero, List.set_cons_succ, e10, ev10, e11, ev11, ea13]
              clear e10 ev10 e11 ev11 ea13 hV3 hX3
              have q2_3 := (hI3.block _ (Array.getElem?_eq_some_iff.1 q2_2).1).trans q2_2
              have n2_3 := n2_2.later hI3
              have q3_3 := (hI3.block _ (Array.getElem?_eq_some_iff.1 q3_2).1).trans q3_2
              have n3_3 := n3_2.later hI3
              have q5_3 := (hI3.block _ (Array.getElem?_eq_some_iff.1 q5_2).1).trans q5_2
              have n5_3 := n5_2.later hI3
              have q6_3 := (hI3.block _ (Array.getElem?_eq_some_iff.1 q6_2).1).trans q6_2
              have n6_3 := n6_2.later hI3
              have q8_3 := (hI3.block _ (Array.getElem?_eq_some_iff.1 q8_2).1).trans q8_2
              have n8_3 := n8_2.later hI3
              have q9_3 := (hI3.block _ (Array.getElem?_eq_some_iff.1 q9_2).1).trans q9_2
              have n9_3 := n9_2.later hI3
              have hBW3 := hBW2.trans (hI3.mono hBW2.size)
              go_wp2
              refine region_kinds (n := 9) [.val (.int .i64 0), .val (.bool true), .val (.bool true), .num (q + 1), .num q, .num (1 : Int), .num (q + (1 : Int)), .val (.bool true), .val (.bool true), .val (.bool true), .num r, .num r, .val (.bool true), .val (.bool true), .val (.bool true)] [(0, 89), (1, 90), (2, 91), (3, 92), (4, 93), (5, 94), (6, 95), (7, 96), (8, 97), (9, 98), (10, 99), (11, 100), (12, 101), (13, 102), (14, 4)] (by kernel_rfl) (by kernel_rfl) (by kernel_rfl) ?hstep4 ?hend4
              case hstep4 =>
                intro i o ho a' W hI hM
                match i, ho with
                | 0, ho =>
                  cases ho
                  refine stepK_of (wanted_none rfl) ?_
                  exact opMove rfl (hM.old 12 rfl) ⟨rfl, Below.refl _ _⟩
                | 1, ho =>
                  cases ho
                  refine stepK_of (wanted_none rfl) ?_
                  exact opEql27 rfl (hM.dep ⟨0, .data⟩ (by simp) rfl 89 rfl) rfl ⟨rfl, Below.refl _ _⟩
                | 2, ho =>
                  cases ho
                  refine stepK_of (wanted_none rfl) ?_
                  exact opMove rfl (hM.dep ⟨1, .data⟩ (by simp) rfl 90 rfl) ⟨rfl, Below.refl _ _⟩
                | 3, ho =>
                  cases ho
                  refine stepK_of (wantedK hM rfl rfl (hM.dep ⟨2, .guard⟩ (by simp) rfl 91 rfl) rfl (show 91 < 103 by decide)) ?_
                  exact opLoad rfl (hM.old 10 rfl) ((hI.block _ (Array.getElem?_eq_some_iff.1 qB10).1).trans qB10) ⟨hs10.later hI, Below.refl _ _⟩
                | 4, ho =>
                  cases ho
                  refine stepK_of (wantedK hM rfl rfl (hM.dep ⟨2, .guard⟩ (by simp) rfl 91 rfl) rfl (show 91 < 103 by decide)) ?_
                  exact opLoad rfl (hM.old 5 rfl) ((hI.block _ (Array.getElem?_eq_some_iff.1 q5_3).1).trans q5_3) ⟨n5_3.later hI, Below.refl _ _⟩
                | 5, ho =>
                  cases ho
                  refine stepK_of (wantedK hM rfl rfl (hM.dep ⟨2, .chain⟩ (by simp) rfl 91 rfl) rfl (show 91 < 103 by decide)) ?_
                  exact opCall1 rfl may20 rfl (numK (num_ok (1) W (by first | decide | omega) (by first | decide | omega)))
                | 6, ho =>
                  cases ho
                  refine stepK_of (wantedK hM rfl rfl (hM.dep ⟨2, .guard⟩ (by simp) rfl 91 rfl) rfl (show 91 < 103 by decide)) ?_
                  exact opCall2 rfl may16 rfl rfl (numK (sum_ok _ _ q (1 : Int) W (hM.dep ⟨4, .data⟩ (by simp) rfl 93 rfl) (hM.dep ⟨5, .data⟩ (by simp) rfl 94 rfl) (Sz.cap (Sz.add (j := 1) (k := 2) (hSq.up (by decide) (by decide)) ((Sz.lit (z := 1) (by decide)).up (by decide) (by decide))) (by decide) (by decide))))
                | 7, ho =>
                  cases ho
                  refine stepK_of (wantedK hM rfl rfl (hM.dep ⟨2, .guard⟩ (by simp) rfl 91 rfl) rfl (show 91 < 103 by decide)) ?_
                  exact opCall2 rfl may18 rfl rfl (boolK (equal_true _ _ (q + 1) (q + (1 : Int)) W (hM.dep ⟨3, .data⟩ (by simp) rfl 92 rfl) (hM.dep ⟨6, .data⟩ (by simp) rfl 95 rfl) (rfl)))
                | 8, ho =>
                  cases ho
                  refine stepK_of (wanted_none rfl) ?_
                  exact opPick rfl (hM.dep ⟨2, .data⟩ (by simp) rfl 91 rfl) (hM.dep ⟨7, .data⟩ (by simp) rfl 96 rfl) ⟨rfl, Below.refl _ _⟩
                | 9, ho =>
                  cases ho
                  refine stepK_of (wanted_none rfl) ?_
                  exact opMove rfl (hM.dep ⟨8, .data⟩ (by simp) rfl 97 rfl) ⟨rfl, Below.refl _ _⟩
                | 10, ho =>
                  cases ho
                  refine stepK_of (wantedK hM rfl rfl (hM.dep ⟨9, .guard⟩ (by simp) rfl 98 rfl) rfl (show 98 < 103 by decide)) ?_
                  exact opLoad rfl (hM.old 11 rfl) ((hI.block _ (Array.getElem?_eq_some_iff.1 qB11).1).trans qB11) ⟨hs11.later hI, Below.refl _ _⟩
                | 11, ho =>
                  cases ho
                  refine stepK_of (wantedK hM rfl rfl (hM.dep ⟨9, .guard⟩ (by simp) rfl 98 rfl) rfl (show 98 < 103 by decide)) ?_
                  exact opLoad rfl (hM.old 6 rfl) ((hI.block _ (Array.getElem?_eq_some_iff.1 q6_3).1).trans q6_3) ⟨n6_3.later hI, Below.refl _ _⟩
                | 12, ho =>
                  cases ho
                  refine stepK_of (wantedK hM rfl rfl (hM.dep ⟨9, .chain⟩ (by simp) rfl 98 rfl) rfl (show 98 < 103 by decide)) ?_
                  exact opCall2 rfl may18 rfl rfl (boolK (equal_true _ _ r r W (hM.dep ⟨10, .data⟩ (by simp) rfl 99 rfl) (hM.dep ⟨11, .data⟩ (by simp) rfl 100 rfl) (rfl)))
                | 13, ho =>
                  cases ho
                  refine stepK_of (wanted_none rfl) ?_
                  exact opPick rfl (hM.dep ⟨9, .data⟩ (by simp) rfl 98 rfl) (hM.dep ⟨12, .data⟩ (by simp) rfl 101 rfl) ⟨rfl, Below.refl _ _⟩
                | 14, ho =>
                  cases ho
                  refine stepK_of (wanted_none rfl) ?_
                  exact opAssign rfl (hM.dep ⟨13, .data⟩ (by simp) rfl 102 rfl) ⟨rfl, Below.refl _ _⟩
                | k + 15, ho => simp at ho
              case hend4 =>
                intro u4 W4 hI4 hV4
                have e4_14 : u4 14 = (.bool true) := hV4 14 4 rfl
                simp only [putAll, List.foldl_cons, List.foldl_nil, List.setIfInBounds_toArray, List.set_cons_zero, List.set_cons_succ, e4_14]
                clear e4_14 hV4
                have q2_4 := (hI4.block _ (Array.getElem?_eq_some_iff.1 q2_3).1).trans q2_3
                have n2_4 := n2_3.later hI4
                have q3_4 := (hI4.block _ (Array.getElem?_eq_some_iff.1 q3_3).1).trans q3_3
                have n3_4 := n3_3.later hI4
                have q5_4 := (hI4.block _ (Array.getElem?_eq_some_iff.1 q5_3).1).trans q5_3
                have n5_4 := n5_3.later hI4
                have q6_4 := (hI4.block _ (Array.getElem?_eq_some_iff.1 q6_3).1).trans q6_3
                have n6_4 := n6_3.later hI4
                have q8_4 := (hI4.block _ (Array.getElem?_eq_some_iff.1 q8_3).1).trans q8_3
                have n8_4 := n8_3.later hI4
                have q9_4 := (hI4.block _ (Array.getElem?_eq_some_iff.1 q9_3).1).trans q9_3
                have n9_4 := n9_3.later hI4
                have q10_4 := (hI4.block _ (Array.getElem?_eq_some_iff.1 qB10).1).trans qB10
                have n10_4 := hs10.later hI4
                have q11_4 := (hI4.block _ (Array.getElem?_eq_some_iff.1 qB11).1).trans qB11
                have n11_4 := hs11.later hI4
                have hBW4 := hBW3.trans (hI4.mono hBW3.size)
                go_wp2
                go_ret
                exact ⟨rfl, hBW4⟩
      · -- case 1
        obtain ⟨x7, hx7⟩ : ∃ x, x = ((w7.alloc (.cells #[.bool b5, .slice p5 l5 c5] 24)).alloc (.cells #[.bool false, .slice p6 0 c6] 24)) := ⟨_, rfl⟩
        have hbx7 : Below w7.heap.size w7 x7 := by rw [hx7]; exact ((Below.refl _ _).alloc (Nat.le_refl _) _).alloc (by simp) _
        have qn5 : x7.heap[w7.heap.size]? = some (.cells #[.bool b5, .slice p5 l5 c5] 24) := by rw [hx7]; exact alloc_old _ _ (alloc_new _ _ rfl)
        have qn6 : x7.heap[w7.heap.size + 1]? = some (.cells #[.bool false, .slice p6 0 c6] 24) := by rw [hx7]; exact alloc_new _ _ (by simp)
        have q2x7 := (hbx7.block _ (Array.getElem?_eq_some_iff.1 q2w7).1).trans q2w7
        have n2x7 := n2w7.later hbx7
        have q3x7 := (hbx7.block _ (Array.getElem?_eq_some_iff.1 q3w7).1).trans q3w7
        have n3x7 := n3w7.later hbx7
        have hBXx7 := hBXw7.trans (hbx7.mono hBXw7.size)
        have n5x7 := g5.later hbx7
        have n6x7 := g6.later hbx7
        have y2_0 := cell_of q2x7 0 rfl
        have y2_1 := cell_of q2x7 1 rfl
        have y3_0 := cell_of q3x7 0 rfl
        have y3_1 := cell_of q3x7 1 rfl
        have y5_0 := cell_of qn5 0 rfl
        have y5_1 := cell_of qn5 1 rfl
        have y6_0 := cell_of qn6 0 rfl
        have y6_1 := cell_of qn6 1 rfl
        rw [hx7] at y2_0 y2_1 y3_0 y3_1 y5_0 y5_1 y6_0 y6_1
        go_wp2
        rw [← hx7]
        clear y2_0 y2_1 y3_0 y3_1 y5_0 y5_1 y6_0 y6_1 hx7
        refine region_boxes (n := 9) [.val (Value.pointer (some ⟨w.heap.size + 1, 1, none⟩)), .val (Value.slice pb lb cb), .num (b.natAbs : Int), .val (Value.pointer (some ⟨w7.heap.size + 1, 1, none⟩)), .val (Value.slice p6 0 c6), .num (r.natAbs : Int), .any, .any, .any, .any] [(0, 43), (1, 44), (2, 45), (3, 46), (4, 47), (5, 48), (6, 8), (7, 9)] [(6, 2, 8), (7, 5, 9)] (by kernel_rfl) (by kernel_rfl) (by kernel_rfl) ?hbx5 (kd_nobox rfl) (by decide) ?hstep5 ?hend5
        case hbx5 =>
          intro t ht
          simp only [List.mem_cons, List.not_mem_nil, or_false] at ht
          rcases ht with rfl | rfl
          · exact ⟨⟨_, rfl, rfl, rfl⟩, ⟨_, _, _, rfl, rfl, rfl, rfl, rfl, rfl, ⟨⟨6, .data⟩, by simp, rfl, rfl⟩, ⟨⟨2, .data⟩, by simp, rfl, rfl⟩⟩, ⟨_, rfl⟩, ⟨rfl, rfl⟩⟩
          · exact ⟨⟨_, rfl, rfl, rfl⟩, ⟨_, _, _, rfl, rfl, rfl, rfl, rfl, rfl, ⟨⟨7, .data⟩, by simp, rfl, rfl⟩, ⟨⟨5, .data⟩, by simp, rfl, rfl⟩⟩, ⟨_, rfl⟩, ⟨rfl, rfl⟩⟩
        case hstep5 =>
          intro i o ho hne a' W hI hM
          match i, ho with
          | 0, ho =>
            cases ho
            refine stepK_of (wanted_none rfl) ?_
            exact opField (k := 1) (by decide) rfl (hM.old 3 rfl) ⟨rfl, Below.refl _ _⟩
          | 1, ho =>
            cases ho
            refine stepK_of (wanted_none rfl) ?_
            exact opLoad22 rfl (hM.dep ⟨0, .data⟩ (by simp) rfl 43 rfl) ((hI.block _ (Array.getElem?_eq_some_iff.1 q3x7).1).trans q3x7) ⟨rfl, Below.refl _ _⟩
          | 2, ho =>
            cases ho
            refine stepK_of (wanted_none rfl) ?_
            exact opBuild1 rfl (hM.dep ⟨1, .data⟩ (by simp) rfl 44 rfl) ⟨(Wn.abs n3x7).later hI, Below.refl _ _⟩
          | 3, ho =>
            cases ho
            refine stepK_of (wanted_none rfl) ?_
            exact opField (k := 1) (by decide) rfl (hM.old 6 rfl) ⟨rfl, Below.refl _ _⟩
          | 4, ho =>
            cases ho
            refine stepK_of (wanted_none rfl) ?_
            exact opLoad22 rfl (hM.dep ⟨3, .data⟩ (by simp) rfl 46 rfl) ((hI.block _ (Array.getElem?_eq_some_iff.1 qn6).1).trans qn6) ⟨rfl, Below.refl _ _⟩
          | 5, ho =>
            cases ho
            refine stepK_of (wanted_none rfl) ?_
            exact opBuild1 rfl (hM.dep ⟨4, .data⟩ (by simp) rfl 47 rfl) ⟨(Wn.abs n6x7).later hI, Below.refl _ _⟩
          | 6, ho =>
            cases ho
            exact absurd rfl (hne (6, 2, 8) (by simp)).1
          | 7, ho =>
            cases ho
            exact absurd rfl (hne (7, 5, 9) (by simp)).1
          | 8, ho =>
            cases ho
            exact absurd rfl (hne (6, 2, 8) (by simp)).2
          | 9, ho =>
            cases ho
            exact absurd rfl (hne (7, 5, 9) (by simp)).2
          | k + 10, ho => simp at ho
        case hend5 =>
          intro u5 W5 hI5 hV5 hX5
          obtain ⟨B8, e8, hn8, bb8, pp8, ll8, cc8, ev8, qB8⟩ := hX5 (6, 2, 8) (by simp)
          have hs8 : KV (.num (b.natAbs : Int)) (u5 2) W5 := hV5 2 45 rfl
          rw [ev8] at hs8
          obtain ⟨B9, e9, hn9, bb9, pp9, ll9, cc9, ev9, qB9⟩ := hX5 (7, 5, 9) (by simp)
          have hs9 : KV (.num (r.natAbs : Int)) (u5 5) W5 := hV5 5 48 rfl
          rw [ev9] at hs9
          simp only [putAll, List.foldl_cons, List.foldl_nil, List.setIfInBounds_toArray, List.set_cons_zero, List.set_cons_succ, e8, ev8, e9, ev9]
          clear e8 ev8 e9 ev9 hV5 hX5
          have q2_5 := (hI5.block _ (Array.getElem?_eq_some_iff.1 q2x7).1).trans q2x7
          have n2_5 := n2x7.later hI5
          have q3_5 := (hI5.block _ (Array.getElem?_eq_some_iff.1 q3x7).1).trans q3x7
          have n3_5 := n3x7.later hI5
          have q5_5 := (hI5.block _ (Array.getElem?_eq_some_iff.1 qn5).1).trans qn5
          have n5_5 := n5x7.later hI5
          have q6_5 := (hI5.block _ (Array.getElem?_eq_some_iff.1 qn6).1).trans qn6
          have n6_5 := n6x7.later hI5
          have hBW5 := hBXx7.trans (hI5.mono hBXx7.size)
          go_wp2
          refine region_kinds (n := 9) [.val (.int .i64 0), .val (.bool false), .val (.bool false), .num q, .num b, .num (q * b), .num r, .num ((q * b) + r), .num a, .val (.bool true), .val (.bool false), .val (.bool false), .val (.bool false), .val (Value.pointer (some ⟨w7.heap.size + 1, 0, none⟩)), .val (.bool false), .val (Value.pointer (some ⟨w.heap.size + 1, 0, none⟩)), .val (.bool true), .val (.bool true), .val (Value.pointer (some ⟨w7.heap.size + 1, 1, none⟩)), .val (Value.slice p6 0 c6), .val (.int .i64 ((0 : Nat) : Int)), .val (.bool false), .val (.bool false), .val (.bool false), .val (.bool false), .val (.bool false), .num (r.natAbs : Int), .num (b.natAbs : Int), .val (.int .i64 (-1)), .val (.bool false), .val (.bool false)] [(0, 49), (1, 50), (2, 51), (3, 52), (4, 53), (5, 54), (6, 55), (7, 56), (8, 57), (9, 58), (10, 59), (11, 60), (12, 61), (13, 62), (14, 63), (15, 64), (16, 65), (17, 66), (18, 67), (19, 68), (20, 69), (21, 70), (22, 71), (23, 72), (24, 73), (25, 74), (26, 75), (27, 76), (28, 77), (29, 78), (30, 79)] (by kernel_rfl) (by kernel_rfl) (by kernel_rfl) ?hstep6 ?hend6
          case hstep6 =>
            intro i o ho a' W hI hM
            match i, ho with
            | 0, ho =>
              cases ho
              refine stepK_of (wanted_none rfl) ?_
              exact opMove rfl (hM.old 7 rfl) ⟨rfl, Below.refl _ _⟩
            | 1, ho =>
              cases ho
              refine stepK_of (wanted_none rfl) ?_
              exact opNeq27 rfl (hM.dep ⟨0, .data⟩ (by simp) rfl 49 rfl) rfl ⟨rfl, Below.refl _ _⟩
            | 2, ho =>
              cases ho
              refine stepK_of (wanted_none rfl) ?_
              exact opMove rfl (hM.dep ⟨1, .data⟩ (by simp) rfl 50 rfl) ⟨rfl, Below.refl _ _⟩
            | 3, ho =>
              cases ho
              refine stepK_of (wantedK hM rfl rfl (hM.dep ⟨2, .guard⟩ (by simp) rfl 51 rfl) rfl (show 51 < 103 by decide)) ?_
              exact opLoad rfl (hM.old 5 rfl) ((hI.block _ (Array.getElem?_eq_some_iff.1 q5_5).1).trans q5_5) ⟨n5_5.later hI, Below.refl _ _⟩
            | 4, ho =>
              cases ho
              refine stepK_of (wantedK hM rfl rfl (hM.dep ⟨2, .guard⟩ (by simp) rfl 51 rfl) rfl (show 51 < 103 by decide)) ?_
              exact opLoad rfl (hM.old 3 rfl) ((hI.block _ (Array.getElem?_eq_some_iff.1 q3_5).1).trans q3_5) ⟨n3_5.later hI, Below.refl _ _⟩
            | 5, ho =>
              cases ho
              refine stepK_of (wantedK hM rfl rfl (hM.dep ⟨2, .chain⟩ (by simp) rfl 51 rfl) rfl (show 51 < 103 by decide)) ?_
              exact opCall2 rfl may17 rfl rfl (numK (product_ok _ _ q b W (hM.dep ⟨3, .data⟩ (by simp) rfl 52 rfl) (hM.dep ⟨4, .data⟩ (by simp) rfl 53 rfl) (Sz.cap (Sz.mul hSq hSb) (by decide) (by decide))))
            | 6, ho =>
              cases ho
              refine stepK_of (wantedK hM rfl rfl (hM.dep ⟨2, .guard⟩ (by simp) rfl 51 rfl) rfl (show 51 < 103 by decide)) ?_
              exact opLoad rfl (hM.old 6 rfl) ((hI.block _ (Array.getElem?_eq_some_iff.1 q6_5).1).trans q6_5) ⟨n6_5.later hI, Below.refl _ _⟩
            | 7, ho =>
              cases ho
              refine stepK_of (wantedK hM rfl rfl (hM.dep ⟨2, .guard⟩ (by simp) rfl 51 rfl) rfl (show 51 < 103 by decide)) ?_
              exact opCall2 rfl may16 rfl rfl (numK (sum_ok _ _ (q * b) r W (hM.dep ⟨5, .data⟩ (by simp) rfl 54 rfl) (hM.dep ⟨6, .data⟩ (by simp) rfl 55 rfl) (Sz.cap (Sz.add (j := 0) (k := 4) (Sz.mul hSq hSb) (hSr.up (by decide) (by decide))) (by decide) (by decide))))
            | 8, ho =>
              cases ho
              refine stepK_of (wantedK hM rfl rfl (hM.dep ⟨2, .guard⟩ (by simp) rfl 51 rfl) rfl (show 51 < 103 by decide)) ?_
              exact opLoad rfl (hM.old 2 rfl) ((hI.block _ (Array.getElem?_eq_some_iff.1 q2_5).1).trans q2_5) ⟨n2_5.later hI, Below.refl _ _⟩
            | 9, ho =>
              cases ho
              refine stepK_of (wantedK hM rfl rfl (hM.dep ⟨2, .guard⟩ (by simp) rfl 51 rfl) rfl (show 51 < 103 by decide)) ?_
              exact opCall2 rfl may18 rfl rfl (boolK (equal_true _ _ ((q * b) + r) a W (hM.dep ⟨7, .data⟩ (by simp) rfl 56 rfl) (hM.dep ⟨8, .data⟩ (by simp) rfl 57 rfl) (hF.eq.symm)))
            | 10, ho =>
              cases ho
              refine stepK_of (wantedK hM rfl rfl (hM.dep ⟨2, .guard⟩ (by simp) rfl 51 rfl) rfl (show 51 < 103 by decide)) ?_
              exact opNot rfl (hM.dep ⟨9, .data⟩ (by simp) rfl 58 rfl) ⟨rfl, Below.refl _ _⟩
            | 11, ho =>
              cases ho
              refine stepK_of (wanted_none rfl) ?_
              exact opPick rfl (hM.dep ⟨2, .data⟩ (by simp) rfl 51 rfl) (hM.dep ⟨10, .data⟩ (by simp) rfl 59 rfl) ⟨rfl, Below.refl _ _⟩
            | 12, ho =>
              cases ho
              refine stepK_of (wanted_none rfl) ?_
              exact opMove rfl (hM.dep ⟨11, .data⟩ (by simp) rfl 60 rfl) ⟨rfl, Below.refl _ _⟩
            | 13, ho =>
              cases ho
              refine stepK_of (wantedK hM rfl rfl (hM.dep ⟨12, .guard⟩ (by simp) rfl 61 rfl) rfl (show 61 < 103 by decide)) ?_
              exact opField (k := 0) (by decide) rfl (hM.old 6 rfl) ⟨rfl, Below.refl _ _⟩
            | 14, ho =>
              cases ho
              refine stepK_of (wantedK hM rfl rfl (hM.dep ⟨12, .guard⟩ (by simp) rfl 61 rfl) rfl (show 61 < 103 by decide)) ?_
              exact opLoad4 rfl (hM.dep ⟨13, .data⟩ (by simp) rfl 62 rfl) ((hI.block _ (Array.getElem?_eq_some_iff.1 q6_5).1).trans q6_5) ⟨rfl, Below.refl _ _⟩
            | 15, ho =>
              cases ho
              refine stepK_of (wantedK hM rfl rfl (hM.dep ⟨12, .guard⟩ (by simp) rfl 61 rfl) rfl (show 61 < 103 by decide)) ?_
              exact opField (k := 0) (by decide) rfl (hM.old 3 rfl) ⟨rfl, Below.refl _ _⟩
            | 16, ho =>
              cases ho
              refine stepK_of (wantedK hM rfl rfl (hM.dep ⟨12, .guard⟩ (by simp) rfl 61 rfl) rfl (show 61 < 103 by decide)) ?_
              exact opLoad4 rfl (hM.dep ⟨15, .data⟩ (by simp) rfl 64 rfl) ((hI.block _ (Array.getElem?_eq_some_iff.1 q3_5).1).trans q3_5) ⟨rfl, Below.refl _ _⟩
            | 17, ho =>
              cases ho
              refine stepK_of (wantedK hM rfl rfl (hM.dep ⟨12, .chain⟩ (by simp) rfl 61 rfl) rfl (show 61 < 103 by decide)) ?_
              exact opMove rfl (hM.dep ⟨16, .data⟩ (by simp) rfl 65 rfl) ⟨rfl, Below.refl _ _⟩
            | 18, ho =>
              cases ho
              refine stepK_of (wantedK hM rfl rfl (hM.dep ⟨17, .guard⟩ (by simp) rfl 66 rfl) rfl (show 66 < 103 by decide)) ?_
              exact opField (k := 1) (by decide) rfl (hM.old 6 rfl) ⟨rfl, Below.refl _ _⟩
            | 19, ho =>
              cases ho
              refine stepK_of (wantedK hM rfl rfl (hM.dep ⟨17, .guard⟩ (by simp) rfl 66 rfl) rfl (show 66 < 103 by decide)) ?_
              exact opLoad22 rfl (hM.dep ⟨18, .data⟩ (by simp) rfl 67 rfl) ((hI.block _ (Array.getElem?_eq_some_iff.1 q6_5).1).trans q6_5) ⟨rfl, Below.refl _ _⟩
            | 20, ho =>
              cases ho
              refine stepK_of (wantedK hM rfl rfl (hM.dep ⟨17, .guard⟩ (by simp) rfl 66 rfl) rfl (show 66 < 103 by decide)) ?_
              exact opLen rfl (hM.dep ⟨19, .data⟩ (by simp) rfl 68 rfl) ⟨rfl, Below.refl _ _⟩
            | 21, ho =>
              cases ho
              refine stepK_of (wantedK hM rfl rfl (hM.dep ⟨17, .guard⟩ (by simp) rfl 66 rfl) rfl (show 66 < 103 by decide)) ?_
              exact opGtr3 rfl (hM.dep ⟨20, .data⟩ (by simp) rfl 69 rfl) rfl ⟨congrArg Value.bool (decide_eq_false (by omega)), Below.refl _ _⟩
            | 22, ho =>
              cases ho
              refine stepK_of (wantedK hM rfl rfl (hM.dep ⟨12, .guard⟩ (by simp) rfl 61 rfl) rfl (show 61 < 103 by decide)) ?_
              exact opPick rfl (hM.dep ⟨17, .data⟩ (by simp) rfl 66 rfl) (hM.dep ⟨21, .data⟩ (by simp) rfl 70 rfl) ⟨rfl, Below.refl _ _⟩
            | 23, ho =>
              cases ho
              refine stepK_of (wantedK hM rfl rfl (hM.dep ⟨12, .guard⟩ (by simp) rfl 61 rfl) rfl (show 61 < 103 by decide)) ?_
              exact opNeqB rfl (hM.dep ⟨14, .data⟩ (by simp) rfl 63 rfl) (hM.dep ⟨22, .data⟩ (by simp) rfl 71 rfl) ⟨rfl, Below.refl _ _⟩
            | 24, ho =>
              cases ho
              refine stepK_of (wanted_none rfl) ?_
              exact opPick rfl (hM.dep ⟨12, .data⟩ (by simp) rfl 61 rfl) (hM.dep ⟨23, .data⟩ (by simp) rfl 72 rfl) ⟨rfl, Below.refl _ _⟩
            | 25, ho =>
              cases ho
              refine stepK_of (wanted_none rfl) ?_
              exact opMove rfl (hM.dep ⟨24, .data⟩ (by simp) rfl 73 rfl) ⟨rfl, Below.refl _ _⟩
            | 26, ho =>
              cases ho
              refine stepK_of (wantedK hM rfl rfl (hM.dep ⟨25, .guard⟩ (by simp) rfl 74 rfl) rfl (show 74 < 103 by decide)) ?_
              exact opLoad rfl (hM.old 9 rfl) ((hI.block _ (Array.getElem?_eq_some_iff.1 qB9).1).trans qB9) ⟨hs9.later hI, Below.refl _ _⟩
            | 27, ho =>
              cases ho
              refine stepK_of (wantedK hM rfl rfl (hM.dep ⟨25, .guard⟩ (by simp) rfl 74 rfl) rfl (show 74 < 103 by decide)) ?_
              exact opLoad rfl (hM.old 8 rfl) ((hI.block _ (Array.getElem?_eq_some_iff.1 qB8).1).trans qB8) ⟨hs8.later hI, Below.refl _ _⟩
            | 28, ho =>
              cases ho
              refine stepK_of (wantedK hM rfl rfl (hM.dep ⟨25, .chain⟩ (by simp) rfl 74 rfl) rfl (show 74 < 103 by decide)) ?_
              exact opCall2 rfl may33 rfl rfl (cmpK' (Cmp_ok _ _ (r.natAbs : Int) (b.natAbs : Int) W (hM.dep ⟨26, .data⟩ (by simp) rfl 75 rfl) (hM.dep ⟨27, .data⟩ (by simp) rfl 76 rfl)) (cmp_lt (by omega)))
            | 29, ho =>
              cases ho
              refine stepK_of (wantedK hM rfl rfl (hM.dep ⟨25, .guard⟩ (by simp) rfl 74 rfl) rfl (show 74 < 103 by decide)) ?_
              exact opNeq3 rfl (hM.dep ⟨28, .data⟩ (by simp) rfl 77 rfl) rfl ⟨rfl, Below.refl _ _⟩
            | 30, ho =>
              cases ho
              refine stepK_of (wanted_none rfl) ?_
              exact opPick rfl (hM.dep ⟨25, .data⟩ (by simp) rfl 74 rfl) (hM.dep ⟨29, .data⟩ (by simp) rfl 78 rfl) ⟨rfl, Below.refl _ _⟩
            | k + 31, ho => simp at ho
          case hend6 =>
            intro u6 W6 hI6 hV6
            have e6_30 : u6 30 = (.bool false) := hV6 30 79 rfl
            simp only [putAll, List.foldl_cons, List.foldl_nil, List.setIfInBounds_toArray, List.set_cons_zero, List.set_cons_succ, e6_30]
            clear e6_30 hV6
            have q2_6 := (hI6.block _ (Array.getElem?_eq_some_iff.1 q2_5).1).trans q2_5
            have n2_6 := n2_5.later hI6
            have q3_6 := (hI6.block _ (Array.getElem?_eq_some_iff.1 q3_5).1).trans q3_5
            have n3_6 := n3_5.later hI6
            have q5_6 := (hI6.block _ (Array.getElem?_eq_some_iff.1 q5_5).1).trans q5_5
            have n5_6 := n5_5.later hI6
            have q6_6 := (hI6.block _ (Array.getElem?_eq_some_iff.1 q6_5).1).trans q6_5
            have n6_6 := n6_5.later hI6
            have q8_6 := (hI6.block _ (Array.getElem?_eq_some_iff.1 qB8).1).trans qB8
            have n8_6 := hs8.later hI6
            have q9_6 := (hI6.block _ (Array.getElem?_eq_some_iff.1 qB9).1).trans qB9
            have n9_6 := hs9.later hI6
            have hBW6 := hBW5.trans (hI6.mono hBW5.size)
            go_wp2
            refine region_boxes (n := 9) [.num a, .num b, .num (a + b), .num b, .trip (q + 1) r 0, .trip (q + 1) r 0, .num (q + 1), .num r, .val (.int .i64 0), .any, .any, .any, .any, .val (.int .i64 0)] [(0, 81), (1, 82), (2, 83), (3, 84), (4, 85), (5, 80), (6, 86), (7, 87), (8, 88), (9, 10), (10, 11), (13, 12)] [(9, 6, 11), (10, 7, 12)] (by kernel_rfl) (by kernel_rfl) (by kernel_rfl) ?hbx7 (kd_nobox rfl) (by decide) ?hstep7 ?hend7
            case hbx7 =>
              intro t ht
              simp only [List.mem_cons, List.not_mem_nil, or_false] at ht
              rcases ht with rfl | rfl
              · exact ⟨⟨_, rfl, rfl, rfl⟩, ⟨_, _, _, rfl, rfl, rfl, rfl, rfl, rfl, ⟨⟨9, .data⟩, by simp, rfl, rfl⟩, ⟨⟨6, .data⟩, by simp, rfl, rfl⟩⟩, ⟨_, rfl⟩, ⟨rfl, rfl⟩⟩
              · exact ⟨⟨_, rfl, rfl, rfl⟩, ⟨_, _, _, rfl, rfl, rfl, rfl, rfl, rfl, ⟨⟨10, .data⟩, by simp, rfl, rfl⟩, ⟨⟨7, .data⟩, by simp, rfl, rfl⟩⟩, ⟨_, rfl⟩, ⟨rfl, rfl⟩⟩
            case hstep7 =>
              intro i o ho hne a' W hI hM
              match i, ho with
              | 0, ho =>
                cases ho
                refine stepK_of (wanted_none rfl) ?_
                exact opLoad rfl (hM.old 2 rfl) ((hI.block _ (Array.getElem?_eq_some_iff.1 q2_6).1).trans q2_6) ⟨n2_6.later hI, Below.refl _ _⟩
              | 1, ho =>
                cases ho
                refine stepK_of (wanted_none rfl) ?_
                exact opLoad rfl (hM.old 3 rfl) ((hI.block _ (Array.getElem?_eq_some_iff.1 q3_6).1).trans q3_6) ⟨n3_6.later hI, Below.refl _ _⟩
              | 2, ho =>
                cases ho
                refine stepK_of (wanted_none rfl) ?_
                exact opCall2 rfl may16 rfl rfl (numK (sum_ok _ _ a b W (hM.dep ⟨0, .data⟩ (by simp) rfl 81 rfl) (hM.dep ⟨1, .data⟩ (by simp) rfl 82 rfl) (Sz.cap (Sz.add (j := 0) (k := 2) hSa hSb) (by decide) (by decide))))
              | 3, ho =>
                cases ho
                refine stepK_of (wanted_none rfl) ?_
                exact opLoad rfl (hM.old 3 rfl) ((hI.block _ (Array.getElem?_eq_some_iff.1 q3_6).1).trans q3_6) ⟨n3_6.later hI, Below.refl _ _⟩
              | 4, ho =>
                cases ho
                refine stepK_of (wanted_none rfl) ?_
                exact opCall2 rfl may32 rfl rfl (tripK (DivMod_fit _ _ (a + b) b (q + 1) r W (hM.dep ⟨2, .data⟩ (by simp) rfl 83 rfl) (hM.dep ⟨3, .data⟩ (by simp) rfl 84 rfl) hb0 (floor_next hF)))
              | 5, ho =>
                cases ho
                refine stepK_of (wanted_none rfl) ?_
                exact opMoveK rfl (hM.dep ⟨4, .data⟩ (by simp) rfl 85 rfl)
              | 6, ho =>
                cases ho
                refine stepK_of (wanted_none rfl) ?_
                exact exT0 rfl (hM.dep ⟨5, .data⟩ (by simp) rfl 80 rfl)
              | 7, ho =>
                cases ho
                refine stepK_of (wanted_none rfl) ?_
                exact exT1 rfl (hM.dep ⟨5, .data⟩ (by simp) rfl 80 rfl)
              | 8, ho =>
                cases ho
                refine stepK_of (wanted_none rfl) ?_
                exact exT2 rfl (hM.dep ⟨5, .data⟩ (by simp) rfl 80 rfl)
              | 9, ho =>
                cases ho
                exact absurd rfl (hne (9, 6, 11) (by simp)).1
              | 10, ho =>
                cases ho
                exact absurd rfl (hne (10, 7, 12) (by simp)).1
              | 11, ho =>
                cases ho
                exact absurd rfl (hne (9, 6, 11) (by simp)).2
              | 12, ho =>
                cases ho
                exact absurd rfl (hne (10, 7, 12) (by simp)).2
              | 13, ho =>
                cases ho
                refine stepK_of (wanted_none rfl) ?_
                exact opAssign rfl (hM.dep ⟨8, .data⟩ (by simp) rfl 88 rfl) ⟨rfl, Below.refl _ _⟩
              | k + 14, ho => simp at ho
            case hend7 =>
              intro u7 W7 hI7 hV7 hX7
              obtain ⟨B10, e10, hn10, bb10, pp10, ll10, cc10, ev10, qB10⟩ := hX7 (9, 6, 11) (by simp)
              have hs10 : KV (.num (q + 1)) (u7 6) W7 := hV7 6 86 rfl
              rw [ev10] at hs10
              obtain ⟨B11, e11, hn11, bb11, pp11, ll11, cc11, ev11, qB11⟩ := hX7 (10, 7, 12) (by simp)
              have hs11 : KV (.num r) (u7 7) W7 := hV7 7 87 rfl
              rw [ev11] at hs11
              have ea13 : u7 13 = (.int .i64 0) := hV7 13 12 rfl
              simp only [putAll, List.foldl_cons, List.foldl_nil, List.setIfInBounds_toArray, List.set_cons_zero, List.set_cons_succ, e10, ev10, e11, ev11, ea13]
              clear e10 ev10 e11 ev11 ea13 hV7 hX7
              have q2_7 := (hI7.block _ (Array.getElem?_eq_some_iff.1 q2_6).1).trans q2_6
              have n2_7 := n2_6.later hI7
              have q3_7 := (hI7.block _ (Array.getElem?_eq_some_iff.1 q3_6).1).trans q3_6
              have n3_7 := n3_6.later hI7
              have q5_7 := (hI7.block _ (Array.getElem?_eq_some_iff.1 q5_6).1).trans q5_6
              have n5_7 := n5_6.later hI7
              have q6_7 := (hI7.block _ (Array.getElem?_eq_some_iff.1 q6_6).1).trans q6_6
              have n6_7 := n6_6.later hI7
              have q8_7 := (hI7.block _ (Array.getElem?_eq_some_iff.1 q8_6).1).trans q8_6
              have n8_7 := n8_6.later hI7
              have q9_7 := (hI7.block _ (Array.getElem?_eq_some_iff.1 q9_6).1).trans q9_6
              have n9_7 := n9_6.later hI7
              have hBW7 := hBW6.trans (hI7.mono hBW6.size)
              go_wp2
              refine region_kinds (n := 9) [.val (.int .i64 0), .val (.bool true), .val (.bool true), .num (q + 1), .num q, .num (1 : Int), .num (q + (1 : Int)), .val (.bool true), .val (.bool true), .val (.bool true), .num r, .num r, .val (.bool true), .val (.bool true), .val (.bool true)] [(0, 89), (1, 90), (2, 91), (3, 92), (4, 93), (5, 94), (6, 95), (7, 96), (8, 97), (9, 98), (10, 99), (11, 100), (12, 101), (13, 102), (14, 4)] (by kernel_rfl) (by kernel_rfl) (by kernel_rfl) ?hstep8 ?hend8
              case hstep8 =>
                intro i o ho a' W hI hM
                match i, ho with
                | 0, ho =>
                  cases ho
                  refine stepK_of (wanted_none rfl) ?_
                  exact opMove rfl (hM.old 12 rfl) ⟨rfl, Below.refl _ _⟩
                | 1, ho =>
                  cases ho
                  refine stepK_of (wanted_none rfl) ?_
                  exact opEql27 rfl (hM.dep ⟨0, .data⟩ (by simp) rfl 89 rfl) rfl ⟨rfl, Below.refl _ _⟩
                | 2, ho =>
                  cases ho
                  refine stepK_of (wanted_none rfl) ?_
                  exact opMove rfl (hM.dep ⟨1, .data⟩ (by simp) rfl 90 rfl) ⟨rfl, Below.refl _ _⟩
                | 3, ho =>
                  cases ho
                  refine stepK_of (wantedK hM rfl rfl (hM.dep ⟨2, .guard⟩ (by simp) rfl 91 rfl) rfl (show 91 < 103 by decide)) ?_
                  exact opLoad rfl (hM.old 10 rfl) ((hI.block _ (Array.getElem?_eq_some_iff.1 qB10).1).trans qB10) ⟨hs10.later hI, Below.refl _ _⟩
                | 4, ho =>
                  cases ho
                  refine stepK_of (wantedK hM rfl rfl (hM.dep ⟨2, .guard⟩ (by simp) rfl 91 rfl) rfl (show 91 < 103 by decide)) ?_
                  exact opLoad rfl (hM.old 5 rfl) ((hI.block _ (Array.getElem?_eq_some_iff.1 q5_7).1).trans q5_7) ⟨n5_7.later hI, Below.refl _ _⟩
                | 5, ho =>
                  cases ho
                  refine stepK_of (wantedK hM rfl rfl (hM.dep ⟨2, .chain⟩ (by simp) rfl 91 rfl) rfl (show 91 < 103 by decide)) ?_
                  exact opCall1 rfl may20 rfl (numK (num_ok (1) W (by first | decide | omega) (by first | decide | omega)))
                | 6, ho =>
                  cases ho
                  refine stepK_of (wantedK hM rfl rfl (hM.dep ⟨2, .guard⟩ (by simp) rfl 91 rfl) rfl (show 91 < 103 by decide)) ?_
                  exact opCall2 rfl may16 rfl rfl (numK (sum_ok _ _ q (1 : Int) W (hM.dep ⟨4, .data⟩ (by simp) rfl 93 rfl) (hM.dep ⟨5, .data⟩ (by simp) rfl 94 rfl) (Sz.cap (Sz.add (j := 1) (k := 2) (hSq.up (by decide) (by decide)) ((Sz.lit (z := 1) (by decide)).up (by decide) (by decide))) (by decide) (by decide))))
                | 7, ho =>
                  cases ho
                  refine stepK_of (wantedK hM rfl rfl (hM.dep ⟨2, .guard⟩ (by simp) rfl 91 rfl) rfl (show 91 < 103 by decide)) ?_
                  exact opCall2 rfl may18 rfl rfl (boolK (equal_true _ _ (q + 1) (q + (1 : Int)) W (hM.dep ⟨3, .data⟩ (by simp) rfl 92 rfl) (hM.dep ⟨6, .data⟩ (by simp) rfl 95 rfl) (rfl)))
                | 8, ho =>
                  cases ho
                  refine stepK_of (wanted_none rfl) ?_
                  exact opPick rfl (hM.dep ⟨2, .data⟩ (by simp) rfl 91 rfl) (hM.dep ⟨7, .data⟩ (by simp) rfl 96 rfl) ⟨rfl, Below.refl _ _⟩
                | 9, ho =>
                  cases ho
                  refine stepK_of (wanted_none rfl) ?_
                  exact opMove rfl (hM.dep ⟨8, .data⟩ (by simp) rfl 97 rfl) ⟨rfl, Below.refl _ _⟩
                | 10, ho =>
                  cases ho
                  refine stepK_of (wantedK hM rfl rfl (hM.dep ⟨9, .guard⟩ (by simp) rfl 98 rfl) rfl (show 98 < 103 by decide)) ?_
                  exact opLoad rfl (hM.old 11 rfl) ((hI.block _ (Array.getElem?_eq_some_iff.1 qB11).1).trans qB11) ⟨hs11.later hI, Below.refl _ _⟩
                | 11, ho =>
                  cases ho
                  refine stepK_of (wantedK hM rfl rfl (hM.dep ⟨9, .guard⟩ (by simp) rfl 98 rfl) rfl (show 98 < 103 by decide)) ?_
                  exact opLoad rfl (hM.old 6 rfl) ((hI.block _ (Array.getElem?_eq_some_iff.1 q6_7).1).trans q6_7) ⟨n6_7.later hI, Below.refl _ _⟩
                | 12, ho =>
                  cases ho
                  refine stepK_of (wantedK hM rfl rfl (hM.dep ⟨9, .chain⟩ (by simp) rfl 98 rfl) rfl (show 98 < 103 by decide)) ?_
                  exact opCall2 rfl may18 rfl rfl (boolK (equal_true _ _ r r W (hM.dep ⟨10, .data⟩ (by simp) rfl 99 rfl) (hM.dep ⟨11, .data⟩ (by simp) rfl 100 rfl) (rfl)))
                | 13, ho =>
                  cases ho
                  refine stepK_of (wanted_none rfl) ?_
                  exact opPick rfl (hM.dep ⟨9, .data⟩ (by simp) rfl 98 rfl) (hM.dep ⟨12, .data⟩ (by simp) rfl 101 rfl) ⟨rfl, Below.refl _ _⟩
                | 14, ho =>
                  cases ho
                  refine stepK_of (wanted_none rfl) ?_
                  exact opAssign rfl (hM.dep ⟨13, .data⟩ (by simp) rfl 102 rfl) ⟨rfl, Below.refl _ _⟩
                | k + 15, ho => simp at ho
              case hend8 =>
                intro u8 W8 hI8 hV8
                have e8_14 : u8 14 = (.bool true) := hV8 14 4 rfl
                simp only [putAll, List.foldl_cons, List.foldl_nil, List.setIfInBounds_toArray, List.set_cons_zero, List.set_cons_succ, e8_14]
                clear e8_14 hV8
                have q2_8 := (hI8.block _ (Array.getElem?_eq_some_iff.1 q2_7).1).trans q2_7
                have n2_8 := n2_7.later hI8
                have q3_8 := (hI8.block _ (Array.getElem?_eq_some_iff.1 q3_7).1).trans q3_7
                have n3_8 := n3_7.later hI8
                have q5_8 := (hI8.block _ (Array.getElem?_eq_some_iff.1 q5_7).1).trans q5_7
                have n5_8 := n5_7.later hI8
                have q6_8 := (hI8.block _ (Array.getElem?_eq_some_iff.1 q6_7).1).trans q6_7
                have n6_8 := n6_7.later hI8
                have q8_8 := (hI8.block _ (Array.getElem?_eq_some_iff.1 q8_7).1).trans q8_7
                have n8_8 := n8_7.later hI8
                have q9_8 := (hI8.block _ (Array.getElem?_eq_some_iff.1 q9_7).1).trans q9_7
                have n9_8 := n9_7.later hI8
                have q10_8 := (hI8.block _ (Array.getElem?_eq_some_iff.1 qB10).1).trans qB10
                have n10_8 := hs10.later hI8
                have q11_8 := (hI8.block _ (Array.getElem?_eq_some_iff.1 qB11).1).trans qB11
                have n11_8 := hs11.later hI8
                have hBW8 := hBW7.trans (hI8.mono hBW7.size)
                go_wp2
                go_ret
                exact ⟨rfl, hBW8⟩
      · -- case 2
        obtain ⟨x7, hx7⟩ : ∃ x, x = ((w7.alloc (.cells #[.bool b5, .slice p5 l5 c5] 24)).alloc (.cells #[.bool true, .slice p6 l6 c6] 24)) := ⟨_, rfl⟩
        have hbx7 : Below w7.heap.size w7 x7 := by rw [hx7]; exact ((Below.refl _ _).alloc (Nat.le_refl _) _).alloc (by simp) _
        have qn5 : x7.heap[w7.heap.size]? = some (.cells #[.bool b5, .slice p5 l5 c5] 24) := by rw [hx7]; exact alloc_old _ _ (alloc_new _ _ rfl)
        have qn6 : x7.heap[w7.heap.size + 1]? = some (.cells #[.bool true, .slice p6 l6 c6] 24) := by rw [hx7]; exact alloc_new _ _ (by simp)
        have q2x7 := (hbx7.block _ (Array.getElem?_eq_some_iff.1 q2w7).1).trans q2w7
        have n2x7 := n2w7.later hbx7
        have q3x7 := (hbx7.block _ (Array.getElem?_eq_some_iff.1 q3w7).1).trans q3w7
        have n3x7 := n3w7.later hbx7
        have hBXx7 := hBXw7.trans (hbx7.mono hBXw7.size)
        have n5x7 := g5.later hbx7
        have n6x7 := g6.later hbx7
        have y2_0 := cell_of q2x7 0 rfl
        have y2_1 := cell_of q2x7 1 rfl
        have y3_0 := cell_of q3x7 0 rfl
        have y3_1 := cell_of q3x7 1 rfl
        have y5_0 := cell_of qn5 0 rfl
        have y5_1 := cell_of qn5 1 rfl
        have y6_0 := cell_of qn6 0 rfl
        have y6_1 := cell_of qn6 1 rfl
        rw [hx7] at y2_0 y2_1 y3_0 y3_1 y5_0 y5_1 y6_0 y6_1
        go_wp2
        rw [← hx7]
        clear y2_0 y2_1 y3_0 y3_1 y5_0 y5_1 y6_0 y6_1 hx7
        refine region_boxes (n := 9) [.val (Value.pointer (some ⟨w.heap.size + 1, 1, none⟩)), .val (Value.slice pb lb cb), .num (b.natAbs : Int), .val (Value.pointer (some ⟨w7.heap.size + 1, 1, none⟩)), .val (Value.slice p6 l6 c6), .num (r.natAbs : Int), .any, .any, .any, .any] [(0, 43), (1, 44), (2, 45), (3, 46), (4, 47), (5, 48), (6, 8), (7, 9)] [(6, 2, 8), (7, 5, 9)] (by kernel_rfl) (by kernel_rfl) (by kernel_rfl) ?hbx9 (kd_nobox rfl) (by decide) ?hstep9 ?hend9
        case hbx9 =>
          intro t ht
          simp only [List.mem_cons, List.not_mem_nil, or_false] at ht
          rcases ht with rfl | rfl
          · exact ⟨⟨_, rfl, rfl, rfl⟩, ⟨_, _, _, rfl, rfl, rfl, rfl, rfl, rfl, ⟨⟨6, .data⟩, by simp, rfl, rfl⟩, ⟨⟨2, .data⟩, by simp, rfl, rfl⟩⟩, ⟨_, rfl⟩, ⟨rfl, rfl⟩⟩
          · exact ⟨⟨_, rfl, rfl, rfl⟩, ⟨_, _, _, rfl, rfl, rfl, rfl, rfl, rfl, ⟨⟨7, .data⟩, by simp, rfl, rfl⟩, ⟨⟨5, .data⟩, by simp, rfl, rfl⟩⟩, ⟨_, rfl⟩, ⟨rfl, rfl⟩⟩
        case hstep9 =>
          intro i o ho hne a' W hI hM
          match i, ho with
          | 0, ho =>
            cases ho
            refine stepK_of (wanted_none rfl) ?_
            exact opField (k := 1) (by decide) rfl (hM.old 3 rfl) ⟨rfl, Below.refl _ _⟩
          | 1, ho =>
            cases ho
            refine stepK_of (wanted_none rfl) ?_
            exact opLoad22 rfl (hM.dep ⟨0, .data⟩ (by simp) rfl 43 rfl) ((hI.block _ (Array.getElem?_eq_some_iff.1 q3x7).1).trans q3x7) ⟨rfl, Below.refl _ _⟩
          | 2, ho =>
            cases ho
            refine stepK_of (wanted_none rfl) ?_
            exact opBuild1 rfl (hM.dep ⟨1, .data⟩ (by simp) rfl 44 rfl) ⟨(Wn.abs n3x7).later hI, Below.refl _ _⟩
          | 3, ho =>
            cases ho
            refine stepK_of (wanted_none rfl) ?_
            exact opField (k := 1) (by decide) rfl (hM.old 6 rfl) ⟨rfl, Below.refl _ _⟩
          | 4, ho =>
            cases ho
            refine stepK_of (wanted_none rfl) ?_
            exact opLoad22 rfl (hM.dep ⟨3, .data⟩ (by simp) rfl 46 rfl) ((hI.block _ (Array.getElem?_eq_some_iff.1 qn6).1).trans qn6) ⟨rfl, Below.refl _ _⟩
          | 5, ho =>
            cases ho
            refine stepK_of (wanted_none rfl) ?_
            exact opBuild1 rfl (hM.dep ⟨4, .data⟩ (by simp) rfl 47 rfl) ⟨(Wn.abs n6x7).later hI, Below.refl _ _⟩
          | 6, ho =>
            cases ho
            exact absurd rfl (hne (6, 2, 8) (by simp)).1
          | 7, ho =>
            cases ho
            exact absurd rfl (hne (7, 5, 9) (by simp)).1
          | 8, ho =>
            cases ho
            exact absurd rfl (hne (6, 2, 8) (by simp)).2
          | 9, ho =>
            cases ho
            exact absurd rfl (hne (7, 5, 9) (by simp)).2
          | k + 10, ho => simp at ho
        case hend9 =>
          intro u9 W9 hI9 hV9 hX9
          obtain ⟨B8, e8, hn8, bb8, pp8, ll8, cc8, ev8, qB8⟩ := hX9 (6, 2, 8) (by simp)
          have hs8 : KV (.num (b.natAbs : Int)) (u9 2) W9 := hV9 2 45 rfl
          rw [ev8] at hs8
          obtain ⟨B9, e9, hn9, bb9, pp9, ll9, cc9, ev9, qB9⟩ := hX9 (7, 5, 9) (by simp)
          have hs9 : KV (.num (r.natAbs : Int)) (u9 5) W9 := hV9 5 48 rfl
          rw [ev9] at hs9
          simp only [putAll, List.foldl_cons, List.foldl_nil, List.setIfInBounds_toArray, List.set_cons_zero, List.set_cons_succ, e8, ev8, e9, ev9]
          clear e8 ev8 e9 ev9 hV9 hX9
          have q2_9 := (hI9.block _ (Array.getElem?_eq_some_iff.1 q2x7).1).trans q2x7
          have n2_9 := n2x7.later hI9
          have q3_9 := (hI9.block _ (Array.getElem?_eq_some_iff.1 q3x7).1).trans q3x7
          have n3_9 := n3x7.later hI9
          have q5_9 := (hI9.block _ (Array.getElem?_eq_some_iff.1 qn5).1).trans qn5
          have n5_9 := n5x7.later hI9
          have q6_9 := (hI9.block _ (Array.getElem?_eq_some_iff.1 qn6).1).trans qn6
          have n6_9 := n6x7.later hI9
          have hBW9 := hBXx7.trans (hI9.mono hBXx7.size)
          go_wp2
          refine region_kinds (n := 9) [.val (.int .i64 0), .val (.bool false), .val (.bool false), .num q, .num b, .num (q * b), .num r, .num ((q * b) + r), .num a, .val (.bool true), .val (.bool false), .val (.bool false), .val (.bool false), .val (Value.pointer (some ⟨w7.heap.size + 1, 0, none⟩)), .val (.bool true), .val (Value.pointer (some ⟨w.heap.size + 1, 0, none⟩)), .val (.bool true), .val (.bool true), .val (Value.pointer (some ⟨w7.heap.size + 1, 1, none⟩)), .val (Value.slice p6 l6 c6), .val (.int .i64 ((l6 : Nat) : Int)), .val (.bool true), .val (.bool true), .val (.bool false), .val (.bool false), .val (.bool false), .num (r.natAbs : Int), .num (b.natAbs : Int), .val (.int .i64 (-1)), .val (.bool false), .val (.bool false)] [(0, 49), (1, 50), (2, 51), (3, 52), (4, 53), (5, 54), (6, 55), (7, 56), (8, 57), (9, 58), (10, 59), (11, 60), (12, 61), (13, 62), (14, 63), (15, 64), (16, 65), (17, 66), (18, 67), (19, 68), (20, 69), (21, 70), (22, 71), (23, 72), (24, 73), (25, 74), (26, 75), (27, 76), (28, 77), (29, 78), (30, 79)] (by kernel_rfl) (by kernel_rfl) (by kernel_rfl) ?hstep10 ?hend10
          case hstep10 =>
            intro i o ho a' W hI hM
            match i, ho with
            | 0, ho =>
              cases ho
              refine stepK_of (wanted_none rfl) ?_
              exact opMove rfl (hM.old 7 rfl) ⟨rfl, Below.refl _ _⟩
            | 1, ho =>
              cases ho
              refine stepK_of (wanted_none rfl) ?_
              exact opNeq27 rfl (hM.dep ⟨0, .data⟩ (by simp) rfl 49 rfl) rfl ⟨rfl, Below.refl _ _⟩
            | 2, ho =>
              cases ho
              refine stepK_of (wanted_none rfl) ?_
              exact opMove rfl (hM.dep ⟨1, .data⟩ (by simp) rfl 50 rfl) ⟨rfl, Below.refl _ _⟩
            | 3, ho =>
              cases ho
              refine stepK_of (wantedK hM rfl rfl (hM.dep ⟨2, .guard⟩ (by simp) rfl 51 rfl) rfl (show 51 < 103 by decide)) ?_
              exact opLoad rfl (hM.old 5 rfl) ((hI.block _ (Array.getElem?_eq_some_iff.1 q5_9).1).trans q5_9) ⟨n5_9.later hI, Below.refl _ _⟩
            | 4, ho =>
              cases ho
              refine stepK_of (wantedK hM rfl rfl (hM.dep ⟨2, .guard⟩ (by simp) rfl 51 rfl) rfl (show 51 < 103 by decide)) ?_
              exact opLoad rfl (hM.old 3 rfl) ((hI.block _ (Array.getElem?_eq_some_iff.1 q3_9).1).trans q3_9) ⟨n3_9.later hI, Below.refl _ _⟩
            | 5, ho =>
              cases ho
              refine stepK_of (wantedK hM rfl rfl (hM.dep ⟨2, .chain⟩ (by simp) rfl 51 rfl) rfl (show 51 < 103 by decide)) ?_
              exact opCall2 rfl may17 rfl rfl (numK (product_ok _ _ q b W (hM.dep ⟨3, .data⟩ (by simp) rfl 52 rfl) (hM.dep ⟨4, .data⟩ (by simp) rfl 53 rfl) (Sz.cap (Sz.mul hSq hSb) (by decide) (by decide))))
            | 6, ho =>
              cases ho
              refine stepK_of (wantedK hM rfl rfl (hM.dep ⟨2, .guard⟩ (by simp) rfl 51 rfl) rfl (show 51 < 103 by decide)) ?_
              exact opLoad rfl (hM.old 6 rfl) ((hI.block _ (Array.getElem?_eq_some_iff.1 q6_9).1).trans q6_9) ⟨n6_9.later hI, Below.refl _ _⟩
            | 7, ho =>
              cases ho
              refine stepK_of (wantedK hM rfl rfl (hM.dep ⟨2, .guard⟩ (by simp) rfl 51 rfl) rfl (show 51 < 103 by decide)) ?_
              exact opCall2 rfl may16 rfl rfl (numK (sum_ok _ _ (q * b) r W (hM.dep ⟨5, .data⟩ (by simp) rfl 54 rfl) (hM.dep ⟨6, .data⟩ (by simp) rfl 55 rfl) (Sz.cap (Sz.add (j := 0) (k := 4) (Sz.mul hSq hSb) (hSr.up (by decide) (by decide))) (by decide) (by decide))))
            | 8, ho =>
              cases ho
              refine stepK_of (wantedK hM rfl rfl (hM.dep ⟨2, .guard⟩ (by simp) rfl 51 rfl) rfl (show 51 < 103 by decide)) ?_
              exact opLoad rfl (hM.old 2 rfl) ((hI.block _ (Array.getElem?_eq_some_iff.1 q2_9).1).trans q2_9) ⟨n2_9.later hI, Below.refl _ _⟩
            | 9, ho =>
              cases ho
              refine stepK_of (wantedK hM rfl rfl (hM.dep ⟨2, .guard⟩ (by simp) rfl 51 rfl) rfl (show 51 < 103 by decide)) ?_
              exact opCall2 rfl may18 rfl rfl (boolK (equal_true _ _ ((q * b) + r) a W (hM.dep ⟨7, .data⟩ (by simp) rfl 56 rfl) (hM.dep ⟨8, .data⟩ (by simp) rfl 57 rfl) (hF.eq.symm)))
            | 10, ho =>
              cases ho
              refine stepK_of (wantedK hM rfl rfl (hM.dep ⟨2, .guard⟩ (by simp) rfl 51 rfl) rfl (show 51 < 103 by decide)) ?_
              exact opNot rfl (hM.dep ⟨9, .data⟩ (by simp) rfl 58 rfl) ⟨rfl, Below.refl _ _⟩
            | 11, ho =>
              cases ho
              refine stepK_of (wanted_none rfl) ?_
              exact opPick rfl (hM.dep ⟨2, .data⟩ (by simp) rfl 51 rfl) (hM.dep ⟨10, .data⟩ (by simp) rfl 59 rfl) ⟨rfl, Below.refl _ _⟩
            | 12, ho =>
              cases ho
              refine stepK_of (wanted_none rfl) ?_
              exact opMove rfl (hM.dep ⟨11, .data⟩ (by simp) rfl 60 rfl) ⟨rfl, Below.refl _ _⟩
            | 13, ho =>
              cases ho
              refine stepK_of (wantedK hM rfl rfl (hM.dep ⟨12, .guard⟩ (by simp) rfl 61 rfl) rfl (show 61 < 103 by decide)) ?_
              exact opField (k := 0) (by decide) rfl (hM.old 6 rfl) ⟨rfl, Below.refl _ _⟩
            | 14, ho =>
              cases ho
              refine stepK_of (wantedK hM rfl rfl (hM.dep ⟨12, .guard⟩ (by simp) rfl 61 rfl) rfl (show 61 < 103 by decide)) ?_
              exact opLoad4 rfl (hM.dep ⟨13, .data⟩ (by simp) rfl 62 rfl) ((hI.block _ (Array.getElem?_eq_some_iff.1 q6_9).1).trans q6_9) ⟨rfl, Below.refl _ _⟩
            | 15, ho =>
              cases ho
              refine stepK_of (wantedK hM rfl rfl (hM.dep ⟨12, .guard⟩ (by simp) rfl 61 rfl) rfl (show 61 < 103 by decide)) ?_
              exact opField (k := 0) (by decide) rfl (hM.old 3 rfl) ⟨rfl, Below.refl _ _⟩
            | 16, ho =>
              cases ho
              refine stepK_of (wantedK hM rfl rfl (hM.dep ⟨12, .guard⟩ (by simp) rfl 61 rfl) rfl (show 61 < 103 by decide)) ?_
              exact opLoad4 rfl (hM.dep ⟨15, .data⟩ (by simp) rfl 64 rfl) ((hI.block _ (Array.getElem?_eq_some_iff.1 q3_9).1).trans q3_9) ⟨rfl, Below.refl _ _⟩
            | 17, ho =>
              cases ho
              refine stepK_of (wantedK hM rfl rfl (hM.dep ⟨12, .chain⟩ (by simp) rfl 61 rfl) rfl (show 61 < 103 by decide)) ?_
              exact opMove rfl (hM.dep ⟨16, .data⟩ (by simp) rfl 65 rfl) ⟨rfl, Below.refl _ _⟩
            | 18, ho =>
              cases ho
              refine stepK_of (wantedK hM rfl rfl (hM.dep ⟨17, .guard⟩ (by simp) rfl 66 rfl) rfl (show 66 < 103 by decide)) ?_
              exact opField (k := 1) (by decide) rfl (hM.old 6 rfl) ⟨rfl, Below.refl _ _⟩
            | 19, ho =>
              cases ho
              refine stepK_of (wantedK hM rfl rfl (hM.dep ⟨17, .guard⟩ (by simp) rfl 66 rfl) rfl (show 66 < 103 by decide)) ?_
              exact opLoad22 rfl (hM.dep ⟨18, .data⟩ (by simp) rfl 67 rfl) ((hI.block _ (Array.getElem?_eq_some_iff.1 q6_9).1).trans q6_9) ⟨rfl, Below.refl _ _⟩
            | 20, ho =>
              cases ho
              refine stepK_of (wantedK hM rfl rfl (hM.dep ⟨17, .guard⟩ (by simp) rfl 66 rfl) rfl (show 66 < 103 by decide)) ?_
              exact opLen rfl (hM.dep ⟨19, .data⟩ (by simp) rfl 68 rfl) ⟨rfl, Below.refl _ _⟩
            | 21, ho =>
              cases ho
              refine stepK_of (wantedK hM rfl rfl (hM.dep ⟨17, .guard⟩ (by simp) rfl 66 rfl) rfl (show 66 < 103 by decide)) ?_
              exact opGtr3 rfl (hM.dep ⟨20, .data⟩ (by simp) rfl 69 rfl) rfl ⟨congrArg Value.bool (decide_eq_true (by omega)), Below.refl _ _⟩
            | 22, ho =>
              cases ho
              refine stepK_of (wantedK hM rfl rfl (hM.dep ⟨12, .guard⟩ (by simp) rfl 61 rfl) rfl (show 61 < 103 by decide)) ?_
              exact opPick rfl (hM.dep ⟨17, .data⟩ (by simp) rfl 66 rfl) (hM.dep ⟨21, .data⟩ (by simp) rfl 70 rfl) ⟨rfl, Below.refl _ _⟩
            | 23, ho =>
              cases ho
              refine stepK_of (wantedK hM rfl rfl (hM.dep ⟨12, .guard⟩ (by simp) rfl 61 rfl) rfl (show 61 < 103 by decide)) ?_
              exact opNeqB rfl (hM.dep ⟨14, .data⟩ (by simp) rfl 63 rfl) (hM.dep ⟨22, .data⟩ (by simp) rfl 71 rfl) ⟨rfl, Below.refl _ _⟩
            | 24, ho =>
              cases ho
              refine stepK_of (wanted_none rfl) ?_
              exact opPick rfl (hM.dep ⟨12, .data⟩ (by simp) rfl 61 rfl) (hM.dep ⟨23, .data⟩ (by simp) rfl 72 rfl) ⟨rfl, Below.refl _ _⟩
            | 25, ho =>
              cases ho
              refine stepK_of (wanted_none rfl) ?_
              exact opMove rfl (hM.dep ⟨24, .data⟩ (by simp) rfl 73 rfl) ⟨rfl, Below.refl _ _⟩
            | 26, ho =>
              cases ho
              refine stepK_of (wantedK hM rfl rfl (hM.dep ⟨25, .guard⟩ (by simp) rfl 74 rfl) rfl (show 74 < 103 by decide)) ?_
              exact opLoad rfl (hM.old 9 rfl) ((hI.block _ (Array.getElem?_eq_some_iff.1 qB9).1).trans qB9) ⟨hs9.later hI, Below.refl _ _⟩
            | 27, ho =>
              cases ho
              refine stepK_of (wantedK hM rfl rfl (hM.dep ⟨25, .guard⟩ (by simp) rfl 74 rfl) rfl (show 74 < 103 by decide)) ?_
              exact opLoad rfl (hM.old 8 rfl) ((hI.block _ (Array.getElem?_eq_some_iff.1 qB8).1).trans qB8) ⟨hs8.later hI, Below.refl _ _⟩
            | 28, ho =>
              cases ho
              refine stepK_of (wantedK hM rfl rfl (hM.dep ⟨25, .chain⟩ (by simp) rfl 74 rfl) rfl (show 74 < 103 by decide)) ?_
              exact opCall2 rfl may33 rfl rfl (cmpK' (Cmp_ok _ _ (r.natAbs : Int) (b.natAbs : Int) W (hM.dep ⟨26, .data⟩ (by simp) rfl 75 rfl) (hM.dep ⟨27, .data⟩ (by simp) rfl 76 rfl)) (cmp_lt (by omega)))
            | 29, ho =>
              cases ho
              refine stepK_of (wantedK hM rfl rfl (hM.dep ⟨25, .guard⟩ (by simp) rfl 74 rfl) rfl (show 74 < 103 by decide)) ?_
              exact opNeq3 rfl (hM.dep ⟨28, .data⟩ (by simp) rfl 77 rfl) rfl ⟨rfl, Below.refl _ _⟩
            | 30, ho =>
              cases ho
              refine stepK_of (wanted_none rfl) ?_
              exact opPick rfl (hM.dep ⟨25, .data⟩ (by simp) rfl 74 rfl) (hM.dep ⟨29, .data⟩ (by simp) rfl 78 rfl) ⟨rfl, Below.refl _ _⟩
            | k + 31, ho => simp at ho
          case hend10 =>
            intro u10 W10 hI10 hV10
            have e10_30 : u10 30 = (.bool false) := hV10 30 79 rfl
            simp only [putAll, List.foldl_cons, List.foldl_nil, List.setIfInBounds_toArray, List.set_cons_zero, List.set_cons_succ, e10_30]
            clear e10_30 hV10
            have q2_10 := (hI10.block _ (Array.getElem?_eq_some_iff.1 q2_9).1).trans q2_9
            have n2_10 := n2_9.later hI10
            have q3_10 := (hI10.block _ (Array.getElem?_eq_some_iff.1 q3_9).1).trans q3_9
            have n3_10 := n3_9.later hI10
            have q5_10 := (hI10.block _ (Array.getElem?_eq_some_iff.1 q5_9).1).trans q5_9
            have n5_10 := n5_9.later hI10
            have q6_10 := (hI10.block _ (Array.getElem?_eq_some_iff.1 q6_9).1).trans q6_9
            have n6_10 := n6_9.later hI10
            have q8_10 := (hI10.block _ (Array.getElem?_eq_some_iff.1 qB8).1).trans qB8
            have n8_10 := hs8.later hI10
            have q9_10 := (hI10.block _ (Array.getElem?_eq_some_iff.1 qB9).1).trans qB9
            have n9_10 := hs9.later hI10
            have hBW10 := hBW9.trans (hI10.mono hBW9.size)
            go_wp2
            refine region_boxes (n := 9) [.num a, .num b, .num (a + b), .num b, .trip (q + 1) r 0, .trip (q + 1) r 0, .num (q + 1), .num r, .val (.int .i64 0), .any, .any, .any, .any, .val (.int .i64 0)] [(0, 81), (1, 82), (2, 83), (3, 84), (4, 85), (5, 80), (6, 86), (7, 87), (8, 88), (9, 10), (10, 11), (13, 12)] [(9, 6, 11), (10, 7, 12)] (by kernel_rfl) (by kernel_rfl) (by kernel_rfl) ?hbx11 (kd_nobox rfl) (by decide) ?hstep11 ?hend11
            case hbx11 =>
              intro t ht
              simp only [List.mem_cons, List.not_mem_nil, or_false] at ht
              rcases ht with rfl | rfl
              · exact ⟨⟨_, rfl, rfl, rfl⟩, ⟨_, _, _, rfl, rfl, rfl, rfl, rfl, rfl, ⟨⟨9, .data⟩, by simp, rfl, rfl⟩, ⟨⟨6, .data⟩, by simp, rfl, rfl⟩⟩, ⟨_, rfl⟩, ⟨rfl, rfl⟩⟩
              · exact ⟨⟨_, rfl, rfl, rfl⟩, ⟨_, _, _, rfl, rfl, rfl, rfl, rfl, rfl, ⟨⟨10, .data⟩, by simp, rfl, rfl⟩, ⟨⟨7, .data⟩, by simp, rfl, rfl⟩⟩, ⟨_, rfl⟩, ⟨rfl, rfl⟩⟩
            case hstep11 =>
              intro i o ho hne a' W hI hM
              match i, ho with
              | 0, ho =>
                cases ho
                refine stepK_of (wanted_none rfl) ?_
                exact opLoad rfl (hM.old 2 rfl) ((hI.block _ (Array.getElem?_eq_some_iff.1 q2_10).1).trans q2_10) ⟨n2_10.later hI, Below.refl _ _⟩
              | 1, ho =>
                cases ho
                refine stepK_of (wanted_none rfl) ?_
                exact opLoad rfl (hM.old 3 rfl) ((hI.block _ (Array.getElem?_eq_some_iff.1 q3_10).1).trans q3_10) ⟨n3_10.later hI, Below.refl _ _⟩
              | 2, ho =>
                cases ho
                refine stepK_of (wanted_none rfl) ?_
                exact opCall2 rfl may16 rfl rfl (numK (sum_ok _ _ a b W (hM.dep ⟨0, .data⟩ (by simp) rfl 81 rfl) (hM.dep ⟨1, .data⟩ (by simp) rfl 82 rfl) (Sz.cap (Sz.add (j := 0) (k := 2) hSa hSb) (by decide) (by decide))))
              | 3, ho =>
                cases ho
                refine stepK_of (wanted_none rfl) ?_
                exact opLoad rfl (hM.old 3 rfl) ((hI.block _ (Array.getElem?_eq_some_iff.1 q3_10).1).trans q3_10) ⟨n3_10.later hI, Below.refl _ _⟩
              | 4, ho =>
                cases ho
                refine stepK_of (wanted_none rfl) ?_
                exact opCall2 rfl may32 rfl rfl (tripK (DivMod_fit _ _ (a + b) b (q + 1) r W (hM.dep ⟨2, .data⟩ (by simp) rfl 83 rfl) (hM.dep ⟨3, .data⟩ (by simp) rfl 84 rfl) hb0 (floor_next hF)))
              | 5, ho =>
                cases ho
                refine stepK_of (wanted_none rfl) ?_
                exact opMoveK rfl (hM.dep ⟨4, .data⟩ (by simp) rfl 85 rfl)
              | 6, ho =>
                cases ho
                refine stepK_of (wanted_none rfl) ?_
                exact exT0 rfl (hM.dep ⟨5, .data⟩ (by simp) rfl 80 rfl)
              | 7, ho =>
                cases ho
                refine stepK_of (wanted_none rfl) ?_
                exact exT1 rfl (hM.dep ⟨5, .data⟩ (by simp) rfl 80 rfl)
              | 8, ho =>
                cases ho
                refine stepK_of (wanted_none rfl) ?_
                exact exT2 rfl (hM.dep ⟨5, .data⟩ (by simp) rfl 80 rfl)
              | 9, ho =>
                cases ho
                exact absurd rfl (hne (9, 6, 11) (by simp)).1
              | 10, ho =>
                cases ho
                exact absurd rfl (hne (10, 7, 12) (by simp)).1
              | 11, ho =>
                cases ho
                exact absurd rfl (hne (9, 6, 11) (by simp)).2
              | 12, ho =>
                cases ho
                exact absurd rfl (hne (10, 7, 12) (by simp)).2
              | 13, ho =>
                cases ho
                refine stepK_of (wanted_none rfl) ?_
                exact opAssign rfl (hM.dep ⟨8, .data⟩ (by simp) rfl 88 rfl) ⟨rfl, Below.refl _ _⟩
              | k + 14, ho => simp at ho
            case hend11 =>
              intro u11 W11 hI11 hV11 hX11
              obtain ⟨B10, e10, hn10, bb10, pp10, ll10, cc10, ev10, qB10⟩ := hX11 (9, 6, 11) (by simp)
              have hs10 : KV (.num (q + 1)) (u11 6) W11 := hV11 6 86 rfl
              rw [ev10] at hs10
              obtain ⟨B11, e11, hn11, bb11, pp11, ll11, cc11, ev11, qB11⟩ := hX11 (10, 7, 12) (by simp)
              have hs11 : KV (.num r) (u11 7) W11 := hV11 7 87 rfl
              rw [ev11] at hs11
              have ea13 : u11 13 = (.int .i64 0) := hV11 13 12 rfl
              simp only [putAll, List.foldl_cons, List.foldl_nil, List.setIfInBounds_toArray, List.set_cons_zero, List.set_cons_succ, e10, ev10, e11, ev11, ea13]
              clear e10 ev10 e11 ev11 ea13 hV11 hX11
              have q2_11 := (hI11.block _ (Array.getElem?_eq_some_iff.1 q2_10).1).trans q2_10
              have n2_11 := n2_10.later hI11
              have q3_11 := (hI11.block _ (Array.getElem?_eq_some_iff.1 q3_10).1).trans q3_10
              have n3_11 := n3_10.later hI11
              have q5_11 := (hI11.block _ (Array.getElem?_eq_some_iff.1 q5_10).1).trans q5_10
              have n5_11 := n5_10.later hI11
              have q6_11 := (hI11.block _ (Array.getElem?_eq_some_iff.1 q6_10).1).trans q6_10
              have n6_11 := n6_10.later hI11
              have q8_11 := (hI11.block _ (Array.getElem?_eq_some_iff.1 q8_10).1).trans q8_10
              have n8_11 := n8_10.later hI11
              have q9_11 := (hI11.block _ (Array.getElem?_eq_some_iff.1 q9_10).1).trans q9_10
              have n9_11 := n9_10.later hI11
              have hBW11 := hBW10.trans (hI11.mono hBW10.size)
              go_wp2
              refine region_kinds (n := 9) [.val (.int .i64 0), .val (.bool true), .val (.bool true), .num (q + 1), .num q, .num (1 : Int), .num (q + (1 : Int)), .val (.bool true), .val (.bool true), .val (.bool true), .num r, .num r, .val (.bool true), .val (.bool true), .val (.bool true)] [(0, 89), (1, 90), (2, 91), (3, 92), (4, 93), (5, 94), (6, 95), (7, 96), (8, 97), (9, 98), (10, 99), (11, 100), (12, 101), (13, 102), (14, 4)] (by kernel_rfl) (by kernel_rfl) (by kernel_rfl) ?hstep12 ?hend12
              case hstep12 =>
                intro i o ho a' W hI hM
                match i, ho with
                | 0, ho =>
                  cases ho
                  refine stepK_of (wanted_none rfl) ?_
                  exact opMove rfl (hM.old 12 rfl) ⟨rfl, Below.refl _ _⟩
                | 1, ho =>
                  cases ho
                  refine stepK_of (wanted_none rfl) ?_
                  exact opEql27 rfl (hM.dep ⟨0, .data⟩ (by simp) rfl 89 rfl) rfl ⟨rfl, Below.refl _ _⟩
                | 2, ho =>
                  cases ho
                  refine stepK_of (wanted_none rfl) ?_
                  exact opMove rfl (hM.dep ⟨1, .data⟩ (by simp) rfl 90 rfl) ⟨rfl, Below.refl _ _⟩
                | 3, ho =>
                  cases ho
                  refine stepK_of (wantedK hM rfl rfl (hM.dep ⟨2, .guard⟩ (by simp) rfl 91 rfl) rfl (show 91 < 103 by decide)) ?_
                  exact opLoad rfl (hM.old 10 rfl) ((hI.block _ (Array.getElem?_eq_some_iff.1 qB10).1).trans qB10) ⟨hs10.later hI, Below.refl _ _⟩
                | 4, ho =>
                  cases ho
                  refine stepK_of (wantedK hM rfl rfl (hM.dep ⟨2, .guard⟩ (by simp) rfl 91 rfl) rfl (show 91 < 103 by decide)) ?_
                  exact opLoad rfl (hM.old 5 rfl) ((hI.block _ (Array.getElem?_eq_some_iff.1 q5_11).1).trans q5_11) ⟨n5_11.later hI, Below.refl _ _⟩
                | 5, ho =>
                  cases ho
                  refine stepK_of (wantedK hM rfl rfl (hM.dep ⟨2, .chain⟩ (by simp) rfl 91 rfl) rfl (show 91 < 103 by decide)) ?_
                  exact opCall1 rfl may20 rfl (numK (num_ok (1) W (by first | decide | omega) (by first | decide | omega)))
                | 6, ho =>
                  cases ho
                  refine stepK_of (wantedK hM rfl rfl (hM.dep ⟨2, .guard⟩ (by simp) rfl 91 rfl) rfl (show 91 < 103 by decide)) ?_
                  exact opCall2 rfl may16 rfl rfl (numK (sum_ok _ _ q (1 : Int) W (hM.dep ⟨4, .data⟩ (by simp) rfl 93 rfl) (hM.dep ⟨5, .data⟩ (by simp) rfl 94 rfl) (Sz.cap (Sz.add (j := 1) (k := 2) (hSq.up (by decide) (by decide)) ((Sz.lit (z := 1) (by decide)).up (by decide) (by decide))) (by decide) (by decide))))
                | 7, ho =>
                  cases ho
                  refine stepK_of (wantedK hM rfl rfl (hM.dep ⟨2, .guard⟩ (by simp) rfl 91 rfl) rfl (show 91 < 103 by decide)) ?_
                  exact opCall2 rfl may18 rfl rfl (boolK (equal_true _ _ (q + 1) (q + (1 : Int)) W (hM.dep ⟨3, .data⟩ (by simp) rfl 92 rfl) (hM.dep ⟨6, .data⟩ (by simp) rfl 95 rfl) (rfl)))
                | 8, ho =>
                  cases ho
                  refine stepK_of (wanted_none rfl) ?_
                  exact opPick rfl (hM.dep ⟨2, .data⟩ (by simp) rfl 91 rfl) (hM.dep ⟨7, .data⟩ (by simp) rfl 96 rfl) ⟨rfl, Below.refl _ _⟩
                | 9, ho =>
                  cases ho
                  refine stepK_of (wanted_none rfl) ?_
                  exact opMove rfl (hM.dep ⟨8, .data⟩ (by simp) rfl 97 rfl) ⟨rfl, Below.refl _ _⟩
                | 10, ho =>
                  cases ho
                  refine stepK_of (wantedK hM rfl rfl (hM.dep ⟨9, .guard⟩ (by simp) rfl 98 rfl) rfl (show 98 < 103 by decide)) ?_
                  exact opLoad rfl (hM.old 11 rfl) ((hI.block _ (Array.getElem?_eq_some_iff.1 qB11).1).trans qB11) ⟨hs11.later hI, Below.refl _ _⟩
                | 11, ho =>
                  cases ho
                  refine stepK_of (wantedK hM rfl rfl (hM.dep ⟨9, .guard⟩ (by simp) rfl 98 rfl) rfl (show 98 < 103 by decide)) ?_
                  exact opLoad rfl (hM.old 6 rfl) ((hI.block _ (Array.getElem?_eq_some_iff.1 q6_11).1).trans q6_11) ⟨n6_11.later hI, Below.refl _ _⟩
                | 12, ho =>
                  cases ho
                  refine stepK_of (wantedK hM rfl rfl (hM.dep ⟨9, .chain⟩ (by simp) rfl 98 rfl) rfl (show 98 < 103 by decide)) ?_
                  exact opCall2 rfl may18 rfl rfl (boolK (equal_true _ _ r r W (hM.dep ⟨10, .data⟩ (by simp) rfl 99 rfl) (hM.dep ⟨11, .data⟩ (by simp) rfl 100 rfl) (rfl)))
                | 13, ho =>
                  cases ho
                  refine stepK_of (wanted_none rfl) ?_
                  exact opPick rfl (hM.dep ⟨9, .data⟩ (by simp) rfl 98 rfl) (hM.dep ⟨12, .data⟩ (by simp) rfl 101 rfl) ⟨rfl, Below.refl _ _⟩
                | 14, ho =>
                  cases ho
                  refine stepK_of (wanted_none rfl) ?_
                  exact opAssign rfl (hM.dep ⟨13, .data⟩ (by simp) rfl 102 rfl) ⟨rfl, Below.refl _ _⟩
                | k + 15, ho => simp at ho
              case hend12 =>
                intro u12 W12 hI12 hV12
                have e12_14 : u12 14 = (.bool true) := hV12 14 4 rfl
                simp only [putAll, List.foldl_cons, List.foldl_nil, List.setIfInBounds_toArray, List.set_cons_zero, List.set_cons_succ, e12_14]
                clear e12_14 hV12
                have q2_12 := (hI12.block _ (Array.getElem?_eq_some_iff.1 q2_11).1).trans q2_11
                have n2_12 := n2_11.later hI12
                have q3_12 := (hI12.block _ (Array.getElem?_eq_some_iff.1 q3_11).1).trans q3_11
                have n3_12 := n3_11.later hI12
                have q5_12 := (hI12.block _ (Array.getElem?_eq_some_iff.1 q5_11).1).trans q5_11
                have n5_12 := n5_11.later hI12
                have q6_12 := (hI12.block _ (Array.getElem?_eq_some_iff.1 q6_11).1).trans q6_11
                have n6_12 := n6_11.later hI12
                have q8_12 := (hI12.block _ (Array.getElem?_eq_some_iff.1 q8_11).1).trans q8_11
                have n8_12 := n8_11.later hI12
                have q9_12 := (hI12.block _ (Array.getElem?_eq_some_iff.1 q9_11).1).trans q9_11
                have n9_12 := n9_11.later hI12
                have q10_12 := (hI12.block _ (Array.getElem?_eq_some_iff.1 qB10).1).trans qB10
                have n10_12 := hs10.later hI12
                have q11_12 := (hI12.block _ (Array.getElem?_eq_some_iff.1 qB11).1).trans qB11
                have n11_12 := hs11.later hI12
                have hBW12 := hBW11.trans (hI12.mono hBW11.size)
                go_wp2
                go_ret
                exact ⟨rfl, hBW12⟩
  · -- not usable
    obtain ⟨sa, rfl, hLa⟩ := hA
    obtain ⟨pa, la, ca, rfl⟩ := hLa.form
    obtain ⟨sb, rfl, hLb⟩ := hB
    obtain ⟨pb, lb, cb, rfl⟩ := hLb.form
    obtain ⟨w3, hw3⟩ : ∃ x, x = ((w.alloc (.cells #[.bool na, .slice pa la ca] 24)).alloc (.cells #[.bool nb, .slice pb lb cb] 24)) := ⟨_, rfl⟩
    have hB3 : Below w.heap.size w w3 := by rw [hw3]; exact ((Below.refl _ w).alloc (by omega) _).alloc (by simp) _
    have hs3 : w3.heap.size = w.heap.size + 2 := by rw [hw3]; simp
    have q0 : w3.heap[w.heap.size]? = some (.cells #[.bool na, .slice pa la ca] 24) := by rw [hw3]; exact alloc_old _ _ (alloc_new _ _ rfl)
    have q1 : w3.heap[w.heap.size + 1]? = some (.cells #[.bool nb, .slice pb lb cb] 24) := by rw [hw3]; exact alloc_new _ _ (by rw [World.size_alloc])
    have haw := awake_ok w3 (htab.below' hB3)
    have HW := Lib.hid hw3
    clear hw3
    go_enter Tryd.func7, Tryd.ntmps7
    go_wp2_with fail
    rw [← HW.out]
    refine haw.mono ?_
    rintro e w4 ⟨rfl, hb4⟩
    have hz4 := hb4.size
    have r0 := (hb4.block _ (Array.getElem?_eq_some_iff.1 q0).1).trans q0
    have d0 := cell_of r0 0 rfl
    have d1 := cell_of r0 1 rfl
    have r1 := (hb4.block _ (Array.getElem?_eq_some_iff.1 q1).1).trans q1
    have d2 := cell_of r1 0 rfl
    have d3 := cell_of r1 1 rfl
    go_wp2_with fail
    obtain ⟨w5, hw5⟩ : ∃ x, x = w4.alloc (.cells #[.bool na, .slice pa la ca, .bool nb, .slice pb lb cb] 24) := ⟨_, rfl⟩
    rw [← hw5]
    have hb5 : Below w4.heap.size w4 w5 := by rw [hw5]; exact (Below.refl _ _).alloc (Nat.le_refl _) _
    have qg : w5.heap[w4.heap.size]? = some (.cells #[.bool na, .slice pa la ca, .bool nb, .slice pb lb cb] 24) := by rw [hw5]; exact alloc_new _ _ rfl
    have HW5 := Lib.hid hw5
    clear hw5 d0 d1 d2 d3
    have hB5 : Below w.heap.size w w5 := hB3.trans ((hb4.trans (hb5.mono hb4.size)).mono hB3.size)
    refine (usable2 w4.heap.size 200 na nb _ _ A B w5 (Array.getElem?_eq_some_iff.1 qg).1 (by omega) hla hlb qg ((hLa.below hB5).mono hB5.size) ((hLb.below hB5).mono hB5.size) false ?_).mono ?_
    · exact ⟨fun h => (by cases h), fun h => absurd h hu⟩
    rintro e w6 ⟨rfl, hb6⟩
    have hB6 : Below w.heap.size w w6 := hB5.trans (hb6.mono hB5.size)
    go_wp2
    go_ret
    exact ⟨rfl, hB6⟩

end Go.Proofs.YtbaiohjladddlaaDoor
