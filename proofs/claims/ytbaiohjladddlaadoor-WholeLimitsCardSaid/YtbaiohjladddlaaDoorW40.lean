import Derived.Test.YtbaiohjladddlaaDoorW33
import Derived.Test.YtbaiohjladddlaaDoorF2
/- The reference's Sum and Product. -/
namespace Go.Proofs.YtbaiohjladddlaaDoor
open Go.RowKit Go.WM Go.WR
attribute [local go_sem] Oper.semAt_some

theorem may80 : MayCall 80 := ⟨_, Tryd.func80, by kernel_rfl, by kernel_rfl⟩
theorem may81 : MayCall 81 := ⟨_, Tryd.func81, by kernel_rfl, by kernel_rfl⟩
theorem may83 : MayCall 83 := ⟨_, Tryd.func83, by kernel_rfl, by kernel_rfl⟩
theorem may84 : MayCall 84 := ⟨_, Tryd.func84, by kernel_rfl, by kernel_rfl⟩

/-- a number of at most N limbs, in normal form: it can be read below n₀ -/
def Wm (N n₀ : Nat) (W : World) (v : Value) (z : Int) : Prop := ∃ sv zs, v = .agg #[.bool (decide (z < 0)), sv] ∧ Lims n₀ W sv zs ∧ Rep zs z.natAbs ∧ zs.length ≤ N
theorem Wm.below {N n₀ : Nat} {W W' : World} {v : Value} {z : Int} (hb : Below n₀ W W') : Wm N n₀ W v z → Wm N n₀ W' v z
  | ⟨sv, zs, e, h, r⟩ => ⟨sv, zs, e, h.below hb, r⟩
theorem Wm.mono {N n₀ n₁ : Nat} {W : World} {v : Value} {z : Int} (hn : n₀ ≤ n₁) : Wm N n₀ W v z → Wm N n₁ W v z
  | ⟨sv, zs, e, h, r⟩ => ⟨sv, zs, e, h.mono hn, r⟩
theorem Wm.later {N : Nat} {W W' : World} {v : Value} {z : Int} (h : Wm N W.heap.size W v z) (hb : Below W.heap.size W W') : Wm N W'.heap.size W' v z := (h.below hb).mono hb.size
theorem Wn.big {n₀ : Nat} {W : World} {v : Value} {z : Int} : Wn n₀ W v z → Wm 1024 n₀ W v z
  | ⟨sv, zs, e, h, r, c⟩ => ⟨sv, zs, e, h, r, r.cap.2 c⟩
theorem Wm.le {N M n₀ : Nat} {W : World} {v : Value} {z : Int} (hN : N ≤ M) : Wm N n₀ W v z → Wm M n₀ W v z
  | ⟨sv, zs, e, h, r, c⟩ => ⟨sv, zs, e, h, r, Nat.le_trans c hN⟩
theorem Wb.of {B : Nat} {W : World} {sv : Value} {zs : List Int} {n : Int} (neg : Bool) (hO : Own16 B W sv zs) (hR : Rep zs n) : Wb B W (.agg #[.bool (neg && decide (0 < zs.length)), sv]) (sgn neg n) :=
  ⟨sv, zs, by rw [sgn_neg neg hR], hO, by rw [sgn_abs neg hR]; exact hR⟩
theorem Wb.below {B : Nat} {W W' : World} {v : Value} {z : Int} (hb : Below W.heap.size W W') : Wb B W v z → Wb B W' v z
  | ⟨sv, zs, e, h, r⟩ => ⟨sv, zs, e, h.below hb, r⟩

theorem sgn_add1 {a b : Int} (h : decide (a < 0) = decide (b < 0)) : sgn (decide (a < 0)) ((a.natAbs : Int) + b.natAbs) = a + b := by
  by_cases ha : a < 0
  · rw [decide_eq_true ha] at h ⊢
    have := of_decide_eq_true h.symm
    rw [sgn_true]; omega
  · rw [decide_eq_false ha] at h ⊢
    have := of_decide_eq_false h.symm
    rw [sgn_false]; omega
theorem sgn_add2 {a b : Int} (h : ¬ decide (a < 0) = decide (b < 0)) : sgn (decide (b < 0)) ((b.natAbs : Int) - a.natAbs) = a + b := by
  by_cases hb : b < 0
  · have ha : ¬ a < 0 := fun ha => h (by rw [decide_eq_true ha, decide_eq_true hb])
    rw [decide_eq_true hb, sgn_true]; omega
  · have ha : a < 0 := Decidable.byContradiction fun ha => h (by rw [decide_eq_false ha, decide_eq_false hb])
    rw [decide_eq_false hb, sgn_false]; omega

set_option maxRecDepth 100000 in
set_option maxHeartbeats 4000000 in
theorem Sum_big (N : Nat) (va vb : Value) (a b : Int) (w : World) (hN : N ≤ 1000000) (hA : Wm N w.heap.size w va a) (hB : Wm N w.heap.size w vb b) : Calls Tryd.prog 59 #[va, vb] w fun e w' => ∃ v, e = .returned v ∧ Wb w.heap.size w' v (a + b) ∧ Below w.heap.size w w' := by
  obtain ⟨sva, A, rfl, hLa, hRa, hla⟩ := hA
  obtain ⟨svb, B, rfl, hLb, hRb, hlb⟩ := hB
  obtain ⟨pa, la, ca, rfl⟩ := hLa.form
  obtain ⟨pb, lb, cb, rfl⟩ := hLb.form
  have hla1 : la ≤ 1000000 := by have := hLa.cells.1; omega
  have hlb1 : lb ≤ 1000000 := by have := hLb.cells.1; omega
  clear hla hlb hN
  obtain ⟨w3, hw3⟩ : ∃ w3, w3 = ((w.alloc (.cells #[.bool (decide (a < 0)), .slice pa la ca] 24)).alloc (.cells #[.bool (decide (b < 0)), .slice pb lb cb] 24)).alloc (.cells #[.bool false, .slice none 0 0] 24) := ⟨_, rfl⟩
  have hB3 : Below w.heap.size w w3 := by rw [hw3]; exact (((Below.refl _ w).alloc (Nat.le_refl _) _).alloc (by simp) _).alloc (by simp; omega) _
  have hs3 : w3.heap.size = w.heap.size + 3 := by rw [hw3]; simp
  obtain ⟨q0, q1, q2⟩ := alloc3 w (.cells #[.bool (decide (a < 0)), .slice pa la ca] 24) (.cells #[.bool (decide (b < 0)), .slice pb lb cb] 24) (.cells #[.bool false, .slice none 0 0] 24)
  rw [← hw3] at q0 q1 q2
  by_cases hs : decide (a < 0) = decide (b < 0)
  · have c0 := cell_of q0 0 rfl
    have c1 := cell_of q0 1 rfl
    have c2 := cell_of q1 0 rfl
    have c3 := cell_of q1 1 rfl
    have hz : sgn (decide (a < 0)) ((a.natAbs : Int) + b.natAbs) = a + b := sgn_add1 hs
    have HZ := Lib.hid hz
    clear hz
    have hsb : (decide (a < 0) == decide (b < 0)) = true := beq_iff_eq.2 hs
    clear hs
    rw [hw3] at c0 c1 c2 c3
    have HW := Lib.hid hw3
    clear hw3
    go_enter Tryd.func59, Tryd.ntmps59
    go_wp2_with fail
    rw [← HW.out]
    clear c0 c1 c2 c3
    refine region_front (n := 9) 8 [.val (.pointer (some ⟨w.heap.size, 0, none⟩)), .val (.bool (decide (a < 0))), .val (.pointer (some ⟨w.heap.size, 1, none⟩)), .val (.slice pa la ca), .val (.pointer (some ⟨(w.heap.size + 1), 1, none⟩)), .val (.slice pb lb cb), .row w3.heap.size ((a.natAbs : Int) + b.natAbs), .big w3.heap.size (sgn (decide (a < 0)) ((a.natAbs : Int) + b.natAbs))] [(0, 10), (1, 11), (2, 12), (3, 13), (4, 14), (5, 15), (6, 16), (7, 17)] (by kernel_rfl) (by kernel_rfl) (by kernel_rfl) (by kernel_rfl) (by decide) ?hstep2 ?hend2
    case hstep2 =>
      intro i o hi ho a' W hI hM
      match i, hi, ho with
      | 0, _, ho =>
        cases ho
        refine ⟨wanted_none rfl, ?_⟩
        exact opField (by decide) rfl (hM.old 2 rfl) ⟨rfl, Below.refl _ _⟩
      | 1, _, ho =>
        cases ho
        refine ⟨wanted_none rfl, ?_⟩
        exact opLoad4 rfl (hM.dep ⟨0, .data⟩ (by simp) rfl 10 rfl) ((hI.block _ (Array.getElem?_eq_some_iff.1 q0).1).trans q0) ⟨rfl, Below.refl _ _⟩
      | 2, _, ho =>
        cases ho
        refine ⟨wanted_none rfl, ?_⟩
        exact opField (by decide) rfl (hM.old 2 rfl) ⟨rfl, Below.refl _ _⟩
      | 3, _, ho =>
        cases ho
        refine ⟨wanted_none rfl, ?_⟩
        exact opLoad22 rfl (hM.dep ⟨2, .data⟩ (by simp) rfl 12 rfl) ((hI.block _ (Array.getElem?_eq_some_iff.1 q0).1).trans q0) ⟨rfl, Below.refl _ _⟩
      | 4, _, ho =>
        cases ho
        refine ⟨wanted_none rfl, ?_⟩
        exact opField (by decide) rfl (hM.old 3 rfl) ⟨rfl, Below.refl _ _⟩
      | 5, _, ho =>
        cases ho
        refine ⟨wanted_none rfl, ?_⟩
        exact opLoad22 rfl (hM.dep ⟨4, .data⟩ (by simp) rfl 14 rfl) ((hI.block _ (Array.getElem?_eq_some_iff.1 q1).1).trans q1) ⟨rfl, Below.refl _ _⟩
      | 6, _, ho =>
        cases ho
        refine ⟨wanted_none rfl, ?_⟩
        refine opCall2 rfl may81 (hM.dep ⟨3, .data⟩ (by simp) rfl 13 rfl) (hM.dep ⟨5, .data⟩ (by simp) rfl 15 rfl) ((Plus_rep pa pb la lb ca cb A B _ _ W hRa hRb (by omega) (by omega) ((hLa.below (hB3.trans (hI.mono hB3.size))).mono (by have := hB3.size; have := hI.size; omega)) ((hLb.below (hB3.trans (hI.mono hB3.size))).mono (by have := hB3.size; have := hI.size; omega))).mono ?_)
        rintro e w' ⟨v, zs, rfl, hO, hR, hb⟩
        exact ⟨v, rfl, ⟨zs, hO.mono hI.size, hR⟩, hb⟩
      | 7, _, ho =>
        cases ho
        refine ⟨wanted_none rfl, ?_⟩
        obtain ⟨zs, hO, hR⟩ := (hM.dep ⟨6, .data⟩ (by simp) rfl 16 rfl)
        obtain ⟨p, l, c, hsh⟩ := hO.shape
        refine opCall2 rfl may80 (hM.dep ⟨1, .data⟩ (by simp) rfl 11 rfl) hsh ((Make_any (decide (a < 0)) p l c W).mono ?_)
        rintro e w' ⟨rfl, rfl⟩
        refine ⟨_, rfl, ?_, (Below.refl _ _).alloc (Nat.le_refl _) _⟩
        rw [hsh] at hO
        have hln := hO.len'
        subst hln
        exact (Wb.of (decide (a < 0)) hO hR).below ((Below.refl _ _).alloc (Nat.le_refl _) _)
      | k + 8, hi, ho => exact absurd hi (by omega)
    case hend2 =>
      intro u W hI hV
      have hk : Wb w3.heap.size W (u 7) (sgn (decide (a < 0)) ((a.natAbs : Int) + b.natAbs)) := hV 7 17 rfl
      rw [HZ.out] at hk
      obtain ⟨sv, zs, e7, hO, hR⟩ := hk
      obtain ⟨p, l, c, rfl⟩ := hO.shape
      simp only [putAll, List.foldl_cons, List.foldl_nil, List.setIfInBounds_toArray, List.set_cons_zero, List.set_cons_succ, e7]
      clear e7 hV
      have p2 := (hI.block _ (Array.getElem?_eq_some_iff.1 q2).1).trans q2
      have d0 := cell_of p2 0 rfl
      have d1 := cell_of p2 1 rfl
      have f0 := frozen_of p2 0
      have f1 := frozen_of p2 1
      gi_wp2
      go_wp2
      obtain ⟨t0, t1⟩ := put2_cell p2 (.bool (decide ((a + b) < 0))) (.slice p l c)
      have hO2 := hO.put2 p2 (by decide) (.bool (decide ((a + b) < 0))) (.slice p l c)
      have hbe := (hB3.trans (hI.mono hB3.size)).trans ((put2_only W (w.heap.size + 1 + 1) (.bool (decide ((a + b) < 0))) (.slice p l c)).below (by omega))
      unfold put2 at t0 t1 hO2 hbe
      exact bodyPost_ret (v := .agg #[.bool (decide ((a + b) < 0)), .slice p l c]) (by simp [results, Tryd.results59, go_sem, t0, t1]) rfl ⟨_, rfl, ⟨_, zs, rfl, hO2.mono hB3.size, hR⟩, hbe⟩
  · have c0 := cell_of q0 0 rfl
    have c1 := cell_of q0 1 rfl
    have c2 := cell_of q1 0 rfl
    have c3 := cell_of q1 1 rfl
    have hsb : (decide (a < 0) == decide (b < 0)) = false := beq_eq_false_iff_ne.2 hs
    by_cases hlt : (a.natAbs : Int) < b.natAbs
    · have hz : sgn (decide (b < 0)) ((b.natAbs : Int) - a.natAbs) = a + b := sgn_add2 hs
      have HZ := Lib.hid hz
      clear hz
      have hdl : decide ((a.natAbs : Int) < b.natAbs) = true := decide_eq_true hlt
      clear hs
      rw [hw3] at c0 c1 c2 c3
      have HW := Lib.hid hw3
      clear hw3
      go_enter Tryd.func59, Tryd.ntmps59
      go_wp2_with fail
      rw [← HW.out]
      clear c0 c1 c2 c3
      refine (Less_rep pa pb la lb ca cb A B _ _ w3 hRa hRb (by omega) (by omega) ((hLa.below hB3).mono hB3.size) ((hLb.below hB3).mono hB3.size)).mono ?_
      rintro e w4 ⟨rfl, hb4⟩
      rw [hdl]
      have hB4 : Below w.heap.size w w4 := hB3.trans (hb4.mono hB3.size)
      have hs4 := hb4.size
      have r0 := (hb4.block _ (Array.getElem?_eq_some_iff.1 q0).1).trans q0
      have r1 := (hb4.block _ (Array.getElem?_eq_some_iff.1 q1).1).trans q1
      have r2 := (hb4.block _ (Array.getElem?_eq_some_iff.1 q2).1).trans q2
      have d0 := cell_of r0 0 rfl
      have d1 := cell_of r0 1 rfl
      have d2 := cell_of r1 0 rfl
      have d3 := cell_of r1 1 rfl
      clear q0 q1 q2 hdl
      go_wp2_with fail
      clear d0 d1 d2 d3
      refine region_front (n := 9) 8 [.val (.pointer (some ⟨(w.heap.size + 1), 0, none⟩)), .val (.bool (decide (b < 0))), .val (.pointer (some ⟨(w.heap.size + 1), 1, none⟩)), .val (.slice pb lb cb), .val (.pointer (some ⟨w.heap.size, 1, none⟩)), .val (.slice pa la ca), .row w4.heap.size ((b.natAbs : Int) - a.natAbs), .big w4.heap.size (sgn (decide (b < 0)) ((b.natAbs : Int) - a.natAbs))] [(0, 23), (1, 24), (2, 25), (3, 26), (4, 27), (5, 28), (6, 29), (7, 30)] (by kernel_rfl) (by kernel_rfl) (by kernel_rfl) (by kernel_rfl) (by decide) ?hstep4 ?hend4
      case hstep4 =>
        intro i o hi ho a' W hI hM
        match i, hi, ho with
        | 0, _, ho =>
          cases ho
          refine ⟨wanted_none rfl, ?_⟩
          exact opField (by decide) rfl (hM.old 3 rfl) ⟨rfl, Below.refl _ _⟩
        | 1, _, ho =>
          cases ho
          refine ⟨wanted_none rfl, ?_⟩
          exact opLoad4 rfl (hM.dep ⟨0, .data⟩ (by simp) rfl 23 rfl) ((hI.block _ (Array.getElem?_eq_some_iff.1 r1).1).trans r1) ⟨rfl, Below.refl _ _⟩
        | 2, _, ho =>
          cases ho
          refine ⟨wanted_none rfl, ?_⟩
          exact opField (by decide) rfl (hM.old 3 rfl) ⟨rfl, Below.refl _ _⟩
        | 3, _, ho =>
          cases ho
          refine ⟨wanted_none rfl, ?_⟩
          exact opLoad22 rfl (hM.dep ⟨2, .data⟩ (by simp) rfl 25 rfl) ((hI.block _ (Array.getElem?_eq_some_iff.1 r1).1).trans r1) ⟨rfl, Below.refl _ _⟩
        | 4, _, ho =>
          cases ho
          refine ⟨wanted_none rfl, ?_⟩
          exact opField (by decide) rfl (hM.old 2 rfl) ⟨rfl, Below.refl _ _⟩
        | 5, _, ho =>
          cases ho
          refine ⟨wanted_none rfl, ?_⟩
          exact opLoad22 rfl (hM.dep ⟨4, .data⟩ (by simp) rfl 27 rfl) ((hI.block _ (Array.getElem?_eq_some_iff.1 r0).1).trans r0) ⟨rfl, Below.refl _ _⟩
        | 6, _, ho =>
          cases ho
          refine ⟨wanted_none rfl, ?_⟩
          refine opCall2 rfl may83 (hM.dep ⟨3, .data⟩ (by simp) rfl 26 rfl) (hM.dep ⟨5, .data⟩ (by simp) rfl 28 rfl) ((Minus_rep pb pa lb la cb ca B A _ _ W hRb hRa (by omega) (by omega) ((hLb.below (hB4.trans (hI.mono hB4.size))).mono (by have := hB4.size; have := hI.size; omega)) ((hLa.below (hB4.trans (hI.mono hB4.size))).mono (by have := hB4.size; have := hI.size; omega))).mono ?_)
          rintro e w' ⟨v, zs, rfl, hO, hR, hb⟩
          exact ⟨v, rfl, ⟨zs, hO.mono hI.size, hR⟩, hb⟩
        | 7, _, ho =>
          cases ho
          refine ⟨wanted_none rfl, ?_⟩
          obtain ⟨zs, hO, hR⟩ := (hM.dep ⟨6, .data⟩ (by simp) rfl 29 rfl)
          obtain ⟨p, l, c, hsh⟩ := hO.shape
          refine opCall2 rfl may80 (hM.dep ⟨1, .data⟩ (by simp) rfl 24 rfl) hsh ((Make_any (decide (b < 0)) p l c W).mono ?_)
          rintro e w' ⟨rfl, rfl⟩
          refine ⟨_, rfl, ?_, (Below.refl _ _).alloc (Nat.le_refl _) _⟩
          rw [hsh] at hO
          have hln := hO.len'
          subst hln
          exact (Wb.of (decide (b < 0)) hO hR).below ((Below.refl _ _).alloc (Nat.le_refl _) _)
        | k + 8, hi, ho => exact absurd hi (by omega)
      case hend4 =>
        intro u W hI hV
        have hk : Wb w4.heap.size W (u 7) (sgn (decide (b < 0)) ((b.natAbs : Int) - a.natAbs)) := hV 7 30 rfl
        rw [HZ.out] at hk
        obtain ⟨sv, zs, e7, hO, hR⟩ := hk
        obtain ⟨p, l, c, rfl⟩ := hO.shape
        simp only [putAll, List.foldl_cons, List.foldl_nil, List.setIfInBounds_toArray, List.set_cons_zero, List.set_cons_succ, e7]
        clear e7 hV
        have p2 := (hI.block _ (Array.getElem?_eq_some_iff.1 r2).1).trans r2
        have d0 := cell_of p2 0 rfl
        have d1 := cell_of p2 1 rfl
        have f0 := frozen_of p2 0
        have f1 := frozen_of p2 1
        gi_wp2
        go_wp2
        obtain ⟨t0, t1⟩ := put2_cell p2 (.bool (decide ((a + b) < 0))) (.slice p l c)
        have hO2 := hO.put2 p2 (by decide) (.bool (decide ((a + b) < 0))) (.slice p l c)
        have hbe := (hB4.trans (hI.mono hB4.size)).trans ((put2_only W (w.heap.size + 1 + 1) (.bool (decide ((a + b) < 0))) (.slice p l c)).below (by omega))
        unfold put2 at t0 t1 hO2 hbe
        exact bodyPost_ret (v := .agg #[.bool (decide ((a + b) < 0)), .slice p l c]) (by simp [results, Tryd.results59, go_sem, t0, t1]) rfl ⟨_, rfl, ⟨_, zs, rfl, hO2.mono hB4.size, hR⟩, hbe⟩
    · have hz : sgn (decide (a < 0)) ((a.natAbs : Int) - b.natAbs) = a + b := by rw [Int.add_comm]; exact sgn_add2 (fun h => hs h.symm)
      have HZ := Lib.hid hz
      clear hz
      have hdl : decide ((a.natAbs : Int) < b.natAbs) = false := decide_eq_false hlt
      clear hs
      rw [hw3] at c0 c1 c2 c3
      have HW := Lib.hid hw3
      clear hw3
      go_enter Tryd.func59, Tryd.ntmps59
      go_wp2_with fail
      rw [← HW.out]
      clear c0 c1 c2 c3
      refine (Less_rep pa pb la lb ca cb A B _ _ w3 hRa hRb (by omega) (by omega) ((hLa.below hB3).mono hB3.size) ((hLb.below hB3).mono hB3.size)).mono ?_
      rintro e w4 ⟨rfl, hb4⟩
      rw [hdl]
      have hB4 : Below w.heap.size w w4 := hB3.trans (hb4.mono hB3.size)
      have hs4 := hb4.size
      have r0 := (hb4.block _ (Array.getElem?_eq_some_iff.1 q0).1).trans q0
      have r1 := (hb4.block _ (Array.getElem?_eq_some_iff.1 q1).1).trans q1
      have r2 := (hb4.block _ (Array.getElem?_eq_some_iff.1 q2).1).trans q2
      have d0 := cell_of r0 0 rfl
      have d1 := cell_of r0 1 rfl
      have d2 := cell_of r1 0 rfl
      have d3 := cell_of r1 1 rfl
      clear q0 q1 q2 hdl
      go_wp2_with fail
      clear d0 d1 d2 d3
      refine region_front (n := 9) 8 [.val (.pointer (some ⟨w.heap.size, 0, none⟩)), .val (.bool (decide (a < 0))), .val (.pointer (some ⟨w.heap.size, 1, none⟩)), .val (.slice pa la ca), .val (.pointer (some ⟨(w.heap.size + 1), 1, none⟩)), .val (.slice pb lb cb), .row w4.heap.size ((a.natAbs : Int) - b.natAbs), .big w4.heap.size (sgn (decide (a < 0)) ((a.natAbs : Int) - b.natAbs))] [(0, 31), (1, 32), (2, 33), (3, 34), (4, 35), (5, 36), (6, 37), (7, 38)] (by kernel_rfl) (by kernel_rfl) (by kernel_rfl) (by kernel_rfl) (by decide) ?hstep5 ?hend5
      case hstep5 =>
        intro i o hi ho a' W hI hM
        match i, hi, ho with
        | 0, _, ho =>
          cases ho
          refine ⟨wanted_none rfl, ?_⟩
          exact opField (by decide) rfl (hM.old 2 rfl) ⟨rfl, Below.refl _ _⟩
        | 1, _, ho =>
          cases ho
          refine ⟨wanted_none rfl, ?_⟩
          exact opLoad4 rfl (hM.dep ⟨0, .data⟩ (by simp) rfl 31 rfl) ((hI.block _ (Array.getElem?_eq_some_iff.1 r0).1).trans r0) ⟨rfl, Below.refl _ _⟩
        | 2, _, ho =>
          cases ho
          refine ⟨wanted_none rfl, ?_⟩
          exact opField (by decide) rfl (hM.old 2 rfl) ⟨rfl, Below.refl _ _⟩
        | 3, _, ho =>
          cases ho
          refine ⟨wanted_none rfl, ?_⟩
          exact opLoad22 rfl (hM.dep ⟨2, .data⟩ (by simp) rfl 33 rfl) ((hI.block _ (Array.getElem?_eq_some_iff.1 r0).1).trans r0) ⟨rfl, Below.refl _ _⟩
        | 4, _, ho =>
          cases ho
          refine ⟨wanted_none rfl, ?_⟩
          exact opField (by decide) rfl (hM.old 3 rfl) ⟨rfl, Below.refl _ _⟩
        | 5, _, ho =>
          cases ho
          refine ⟨wanted_none rfl, ?_⟩
          exact opLoad22 rfl (hM.dep ⟨4, .data⟩ (by simp) rfl 35 rfl) ((hI.block _ (Array.getElem?_eq_some_iff.1 r1).1).trans r1) ⟨rfl, Below.refl _ _⟩
        | 6, _, ho =>
          cases ho
          refine ⟨wanted_none rfl, ?_⟩
          refine opCall2 rfl may83 (hM.dep ⟨3, .data⟩ (by simp) rfl 34 rfl) (hM.dep ⟨5, .data⟩ (by simp) rfl 36 rfl) ((Minus_rep pa pb la lb ca cb A B _ _ W hRa hRb (by omega) (by omega) ((hLa.below (hB4.trans (hI.mono hB4.size))).mono (by have := hB4.size; have := hI.size; omega)) ((hLb.below (hB4.trans (hI.mono hB4.size))).mono (by have := hB4.size; have := hI.size; omega))).mono ?_)
          rintro e w' ⟨v, zs, rfl, hO, hR, hb⟩
          exact ⟨v, rfl, ⟨zs, hO.mono hI.size, hR⟩, hb⟩
        | 7, _, ho =>
          cases ho
          refine ⟨wanted_none rfl, ?_⟩
          obtain ⟨zs, hO, hR⟩ := (hM.dep ⟨6, .data⟩ (by simp) rfl 37 rfl)
          obtain ⟨p, l, c, hsh⟩ := hO.shape
          refine opCall2 rfl may80 (hM.dep ⟨1, .data⟩ (by simp) rfl 32 rfl) hsh ((Make_any (decide (a < 0)) p l c W).mono ?_)
          rintro e w' ⟨rfl, rfl⟩
          refine ⟨_, rfl, ?_, (Below.refl _ _).alloc (Nat.le_refl _) _⟩
          rw [hsh] at hO
          have hln := hO.len'
          subst hln
          exact (Wb.of (decide (a < 0)) hO hR).below ((Below.refl _ _).alloc (Nat.le_refl _) _)
        | k + 8, hi, ho => exact absurd hi (by omega)
      case hend5 =>
        intro u W hI hV
        have hk : Wb w4.heap.size W (u 7) (sgn (decide (a < 0)) ((a.natAbs : Int) - b.natAbs)) := hV 7 38 rfl
        rw [HZ.out] at hk
        obtain ⟨sv, zs, e7, hO, hR⟩ := hk
        obtain ⟨p, l, c, rfl⟩ := hO.shape
        simp only [putAll, List.foldl_cons, List.foldl_nil, List.setIfInBounds_toArray, List.set_cons_zero, List.set_cons_succ, e7]
        clear e7 hV
        have p2 := (hI.block _ (Array.getElem?_eq_some_iff.1 r2).1).trans r2
        have d0 := cell_of p2 0 rfl
        have d1 := cell_of p2 1 rfl
        have f0 := frozen_of p2 0
        have f1 := frozen_of p2 1
        gi_wp2
        go_wp2
        obtain ⟨t0, t1⟩ := put2_cell p2 (.bool (decide ((a + b) < 0))) (.slice p l c)
        have hO2 := hO.put2 p2 (by decide) (.bool (decide ((a + b) < 0))) (.slice p l c)
        have hbe := (hB4.trans (hI.mono hB4.size)).trans ((put2_only W (w.heap.size + 1 + 1) (.bool (decide ((a + b) < 0))) (.slice p l c)).below (by omega))
        unfold put2 at t0 t1 hO2 hbe
        exact bodyPost_ret (v := .agg #[.bool (decide ((a + b) < 0)), .slice p l c]) (by simp [results, Tryd.results59, go_sem, t0, t1]) rfl ⟨_, rfl, ⟨_, zs, rfl, hO2.mono hB4.size, hR⟩, hbe⟩

set_option maxRecDepth 100000 in
set_option maxHeartbeats 4000000 in
theorem Product_big (N : Nat) (va vb : Value) (a b : Int) (w : World) (hN : N ≤ 1000000) (hA : Wm N w.heap.size w va a) (hB : Wm N w.heap.size w vb b) : Calls Tryd.prog 61 #[va, vb] w fun e w' => ∃ v, e = .returned v ∧ Wb w.heap.size w' v (a * b) ∧ Below w.heap.size w w' := by
  obtain ⟨sva, A, rfl, hLa, hRa, hla⟩ := hA
  obtain ⟨svb, B, rfl, hLb, hRb, hlb⟩ := hB
  obtain ⟨pa, la, ca, rfl⟩ := hLa.form
  obtain ⟨pb, lb, cb, rfl⟩ := hLb.form
  have hla1 : la ≤ 1000000 := by have := hLa.cells.1; omega
  have hlb1 : lb ≤ 1000000 := by have := hLb.cells.1; omega
  clear hla hlb hN
  obtain ⟨w3, hw3⟩ : ∃ w3, w3 = ((w.alloc (.cells #[.bool (decide (a < 0)), .slice pa la ca] 24)).alloc (.cells #[.bool (decide (b < 0)), .slice pb lb cb] 24)).alloc (.cells #[.bool false, .slice none 0 0] 24) := ⟨_, rfl⟩
  have hB3 : Below w.heap.size w w3 := by rw [hw3]; exact (((Below.refl _ w).alloc (Nat.le_refl _) _).alloc (by simp) _).alloc (by simp; omega) _
  have hs3 : w3.heap.size = w.heap.size + 3 := by rw [hw3]; simp
  obtain ⟨q0, q1, q2⟩ := alloc3 w (.cells #[.bool (decide (a < 0)), .slice pa la ca] 24) (.cells #[.bool (decide (b < 0)), .slice pb lb cb] 24) (.cells #[.bool false, .slice none 0 0] 24)
  rw [← hw3] at q0 q1 q2
  have hz : sgn (decide (a < 0) != decide (b < 0)) ((a.natAbs : Int) * b.natAbs) = a * b := sgn_mul a b
  have HZ := Lib.hid hz
  clear hz
  have HW := Lib.hid hw3
  clear hw3
  go_enter Tryd.func61, Tryd.ntmps61
  go_wp2_with fail
  rw [← HW.out]
  refine region_front (n := 9) 11 [.val (.pointer (some ⟨w.heap.size, 0, none⟩)), .val (.bool (decide (a < 0))), .val (.pointer (some ⟨(w.heap.size + 1), 0, none⟩)), .val (.bool (decide (b < 0))), .val (.bool (decide (a < 0) != decide (b < 0))), .val (.pointer (some ⟨w.heap.size, 1, none⟩)), .val (.slice pa la ca), .val (.pointer (some ⟨(w.heap.size + 1), 1, none⟩)), .val (.slice pb lb cb), .row w3.heap.size ((a.natAbs : Int) * b.natAbs), .big w3.heap.size (sgn (decide (a < 0) != decide (b < 0)) ((a.natAbs : Int) * b.natAbs))] [(0, 5), (1, 6), (2, 7), (3, 8), (4, 9), (5, 10), (6, 11), (7, 12), (8, 13), (9, 14), (10, 15)] (by kernel_rfl) (by kernel_rfl) (by kernel_rfl) (by kernel_rfl) (by decide) ?hstepp ?hendp
  case hstepp =>
    intro i o hi ho a' W hI hM
    match i, hi, ho with
    | 0, _, ho =>
      cases ho
      refine ⟨wanted_none rfl, ?_⟩
      exact opField (by decide) rfl (hM.old 2 rfl) ⟨rfl, Below.refl _ _⟩
    | 1, _, ho =>
      cases ho
      refine ⟨wanted_none rfl, ?_⟩
      exact opLoad4 rfl (hM.dep ⟨0, .data⟩ (by simp) rfl 5 rfl) ((hI.block _ (Array.getElem?_eq_some_iff.1 q0).1).trans q0) ⟨rfl, Below.refl _ _⟩
    | 2, _, ho =>
      cases ho
      refine ⟨wanted_none rfl, ?_⟩
      exact opField (by decide) rfl (hM.old 3 rfl) ⟨rfl, Below.refl _ _⟩
    | 3, _, ho =>
      cases ho
      refine ⟨wanted_none rfl, ?_⟩
      exact opLoad4 rfl (hM.dep ⟨2, .data⟩ (by simp) rfl 7 rfl) ((hI.block _ (Array.getElem?_eq_some_iff.1 q1).1).trans q1) ⟨rfl, Below.refl _ _⟩
    | 4, _, ho =>
      cases ho
      refine ⟨wanted_none rfl, ?_⟩
      exact opNeqB rfl (hM.dep ⟨1, .data⟩ (by simp) rfl 6 rfl) (hM.dep ⟨3, .data⟩ (by simp) rfl 8 rfl) ⟨rfl, Below.refl _ _⟩
    | 5, _, ho =>
      cases ho
      refine ⟨wanted_none rfl, ?_⟩
      exact opField (by decide) rfl (hM.old 2 rfl) ⟨rfl, Below.refl _ _⟩
    | 6, _, ho =>
      cases ho
      refine ⟨wanted_none rfl, ?_⟩
      exact opLoad22 rfl (hM.dep ⟨5, .data⟩ (by simp) rfl 10 rfl) ((hI.block _ (Array.getElem?_eq_some_iff.1 q0).1).trans q0) ⟨rfl, Below.refl _ _⟩
    | 7, _, ho =>
      cases ho
      refine ⟨wanted_none rfl, ?_⟩
      exact opField (by decide) rfl (hM.old 3 rfl) ⟨rfl, Below.refl _ _⟩
    | 8, _, ho =>
      cases ho
      refine ⟨wanted_none rfl, ?_⟩
      exact opLoad22 rfl (hM.dep ⟨7, .data⟩ (by simp) rfl 12 rfl) ((hI.block _ (Array.getElem?_eq_some_iff.1 q1).1).trans q1) ⟨rfl, Below.refl _ _⟩
    | 9, _, ho =>
      cases ho
      refine ⟨wanted_none rfl, ?_⟩
      refine opCall2 rfl may84 (hM.dep ⟨6, .data⟩ (by simp) rfl 11 rfl) (hM.dep ⟨8, .data⟩ (by simp) rfl 13 rfl) ((Times_rep pa pb la lb ca cb A B _ _ W hRa hRb (by omega) (by omega) ((hLa.below (hB3.trans (hI.mono hB3.size))).mono (by have := hB3.size; have := hI.size; omega)) ((hLb.below (hB3.trans (hI.mono hB3.size))).mono (by have := hB3.size; have := hI.size; omega))).mono ?_)
      rintro e w' ⟨v, zs, rfl, hO, hR, hb⟩
      exact ⟨v, rfl, ⟨zs, hO.mono hI.size, hR⟩, hb⟩
    | 10, _, ho =>
      cases ho
      refine ⟨wanted_none rfl, ?_⟩
      obtain ⟨zs, hO, hR⟩ := (hM.dep ⟨9, .data⟩ (by simp) rfl 14 rfl)
      obtain ⟨p, l, c, hsh⟩ := hO.shape
      refine opCall2 rfl may80 (hM.dep ⟨4, .data⟩ (by simp) rfl 9 rfl) hsh ((Make_any (decide (a < 0) != decide (b < 0)) p l c W).mono ?_)
      rintro e w' ⟨rfl, rfl⟩
      refine ⟨_, rfl, ?_, (Below.refl _ _).alloc (Nat.le_refl _) _⟩
      rw [hsh] at hO
      have hln := hO.len'
      subst hln
      exact (Wb.of (decide (a < 0) != decide (b < 0)) hO hR).below ((Below.refl _ _).alloc (Nat.le_refl _) _)
    | k + 11, hi, ho => exact absurd hi (by omega)
  case hendp =>
    intro u W hI hV
    have hk : Wb w3.heap.size W (u 10) (sgn (decide (a < 0) != decide (b < 0)) ((a.natAbs : Int) * b.natAbs)) := hV 10 15 rfl
    rw [HZ.out] at hk
    obtain ⟨sv, zs, e7, hO, hR⟩ := hk
    obtain ⟨p, l, c, rfl⟩ := hO.shape
    simp only [putAll, List.foldl_cons, List.foldl_nil, List.setIfInBounds_toArray, List.set_cons_zero, List.set_cons_succ, e7]
    clear e7 hV
    have p2 := (hI.block _ (Array.getElem?_eq_some_iff.1 q2).1).trans q2
    have d0 := cell_of p2 0 rfl
    have d1 := cell_of p2 1 rfl
    have f0 := frozen_of p2 0
    have f1 := frozen_of p2 1
    gi_wp2
    go_wp2
    obtain ⟨t0, t1⟩ := put2_cell p2 (.bool (decide ((a * b) < 0))) (.slice p l c)
    have hO2 := hO.put2 p2 (by decide) (.bool (decide ((a * b) < 0))) (.slice p l c)
    have hbe := (hB3.trans (hI.mono hB3.size)).trans ((put2_only W (w.heap.size + 1 + 1) (.bool (decide ((a * b) < 0))) (.slice p l c)).below (by omega))
    unfold put2 at t0 t1 hO2 hbe
    exact bodyPost_ret (v := .agg #[.bool (decide ((a * b) < 0)), .slice p l c]) (by simp [results, Tryd.results61, go_sem, t0, t1]) rfl ⟨_, rfl, ⟨_, zs, rfl, hO2.mono hB3.size, hR⟩, hbe⟩

end Go.Proofs.YtbaiohjladddlaaDoor

/- The reference's Add, Sub and Mul. -/
namespace Go.Proofs.YtbaiohjladddlaaDoor
open Go.RowKit Go.WM Go.WR
attribute [local go_sem] Oper.semAt_some

theorem may57 : MayCall 57 := ⟨_, Tryd.func57, by kernel_rfl, by kernel_rfl⟩
theorem may58 : MayCall 58 := ⟨_, Tryd.func58, by kernel_rfl, by kernel_rfl⟩
theorem may59 : MayCall 59 := ⟨_, Tryd.func59, by kernel_rfl, by kernel_rfl⟩
theorem may60 : MayCall 60 := ⟨_, Tryd.func60, by kernel_rfl, by kernel_rfl⟩

/-- a number that is answered and can be read, and no error -/
def NumR (z : Int) (w : World) (e : Ending) (w' : World) : Prop := ∃ (b : Bool) (p : Option Addr) (l c : Nat), e = .returned (.tuple #[.agg #[.bool b, .slice p l c], .int .i64 0]) ∧ Wn w'.heap.size w' (.agg #[.bool b, .slice p l c]) z ∧ Below w.heap.size w w'
/-- a number that is too long is answered -/
def LongP (w : World) (e : Ending) (w' : World) : Prop := e = .returned (.tuple #[zeroW, .int .i64 3]) ∧ Below w.heap.size w w'

theorem Wb.form {B : Nat} {W : World} {v : Value} {z : Int} (h : Wb B W v z) : ∃ b p l c, v = .agg #[.bool b, .slice p l c] := by
  obtain ⟨sv, zs, rfl, hO, _⟩ := h
  obtain ⟨p, l, c, rfl⟩ := hO.shape
  exact ⟨_, _, _, _, rfl⟩
theorem Wb.mono {B B' : Nat} {W : World} {v : Value} {z : Int} (hb : B' ≤ B) : Wb B W v z → Wb B' W v z
  | ⟨sv, zs, e, h, r⟩ => ⟨sv, zs, e, h.mono hb, r⟩
/-- a number of any length that can be read -/
def Wl (W : World) (v : Value) (z : Int) : Prop := ∃ sv zs, v = .agg #[.bool (decide (z < 0)), sv] ∧ Lims W.heap.size W sv zs ∧ Rep zs z.natAbs
theorem Wb.num' {B : Nat} {W : World} {v : Value} {z : Int} (h : Wb B W v z) (hz : z.natAbs < Cap) : Wn W.heap.size W v z :=
  let ⟨sv, zs, e, hO, hR⟩ := h
  ⟨sv, zs, e, hO.lims, hR, hz⟩
theorem Wb.long {B : Nat} {W : World} {v : Value} {z : Int} : Wb B W v z → Wl W v z
  | ⟨sv, zs, e, hO, hR⟩ => ⟨sv, zs, e, hO.lims, hR⟩

theorem fits_fit (v : Value) (z : Int) (w : World) (hz : z.natAbs < Cap) (h : Wl w v z) : Calls Tryd.prog 58 #[v] w fun e w' => e = .returned (.tuple #[v, .int .i64 0]) ∧ Below w.heap.size w w' := by
  obtain ⟨sv, zs, rfl, hL, hR⟩ := h
  obtain ⟨p, l, c, rfl⟩ := hL.form
  have h1 := hL.cells.1
  have h2 := hR.cap.2 hz
  refine (fits_any _ p l c w).mono ?_
  rintro e w' ⟨rfl, hb⟩
  rw [if_neg (by omega)]
  exact ⟨rfl, hb⟩
theorem fits_long (v : Value) (z : Int) (w : World) (hz : Cap ≤ z.natAbs) (h : Wl w v z) : Calls Tryd.prog 58 #[v] w fun e w' => e = .returned (.tuple #[.agg #[.bool false, .slice none 0 0], .int .i64 3]) ∧ Below w.heap.size w w' := by
  obtain ⟨sv, zs, rfl, hL, hR⟩ := h
  obtain ⟨p, l, c, rfl⟩ := hL.form
  have h1 := hL.cells.1
  have h2 := hR.cap
  refine (fits_any _ p l c w).mono ?_
  rintro e w' ⟨rfl, hb⟩
  rw [if_pos (by omega)]
  exact ⟨rfl, hb⟩
theorem refValid_num (va : Value) (a : Int) (w : World) (hA : Wn w.heap.size w va a) : Calls Tryd.prog 57 #[va] w (BoolP true w) := by
  obtain ⟨zs, hr, hR, hc, hlen, hok⟩ := hA.raw
  refine (refValid_any va _ zs w hr (by omega)).mono ?_
  rintro e w' ⟨rfl, hb⟩
  exact ⟨by rw [hok], hb⟩
theorem neg_big {N n₀ : Nat} {W : World} {b : Bool} {p : Option Addr} {l c : Nat} {z : Int} (h : Wm N n₀ W (.agg #[.bool b, .slice p l c]) z) : Wm N n₀ W (.agg #[.bool (!b && decide (0 < l)), .slice p l c]) (-z) := by
  obtain ⟨sv, zs, e, hL, hR, hN⟩ := h
  cases e
  refine ⟨_, zs, ?_, hL, by rw [Int.natAbs_neg]; exact hR, hN⟩
  have h1 := hL.cells.1
  have h2 := hR.pos
  have h3 : (!decide (z < 0) && decide (0 < l)) = decide (-z < 0) := by
    rw [h1]
    by_cases hz : z < 0
    · rw [decide_eq_true hz, Bool.not_true, Bool.false_and]; exact (decide_eq_false (by omega)).symm
    · rw [decide_eq_false hz]
      by_cases h0 : 0 < zs.length
      · rw [decide_eq_true h0, decide_eq_true (by omega)]; rfl
      · rw [decide_eq_false h0, decide_eq_false (by omega)]; rfl
  rw [h3]

set_option maxRecDepth 100000 in
set_option maxHeartbeats 4000000 in
theorem refAdd_fit (va vb : Value) (a b z : Int) (w : World) (hz : a + b = z) (hc : z.natAbs < Cap) (hA : Wn w.heap.size w va a) (hB : Wn w.heap.size w vb b) : Calls Tryd.prog 27 #[va, vb] w (NumR z w) := by
  obtain ⟨na, pa, la, ca, rfl⟩ := hA.form
  obtain ⟨nb, pb, lb, cb, rfl⟩ := hB.form
  obtain ⟨w3, hw3⟩ : ∃ w3, w3 = ((w.alloc (.cells #[.bool na, .slice pa la ca] 24)).alloc (.cells #[.bool nb, .slice pb lb cb] 24)).alloc (.cells #[.bool false, .slice none 0 0] 24) := ⟨_, rfl⟩
  have hB3 : Below w.heap.size w w3 := by rw [hw3]; exact (((Below.refl _ w).alloc (Nat.le_refl _) _).alloc (by simp) _).alloc (by simp; omega) _
  have hs3 : w3.heap.size = w.heap.size + 3 := by rw [hw3]; simp
  obtain ⟨q0, q1, q2⟩ := alloc3 w (.cells #[.bool na, .slice pa la ca] 24) (.cells #[.bool nb, .slice pb lb cb] 24) (.cells #[.bool false, .slice none 0 0] 24)
  rw [← hw3] at q0 q1 q2
  have HZ := Lib.hid hz
  have HC := Lib.hid hc
  clear hz hc
  have hmx : 1024 ≤ 1000000 := by decide
  have HMX := Lib.hid hmx
  clear hmx
  have hv1 := refValid_num _ a w3 (hA.later hB3)
  have HW := Lib.hid hw3
  clear hw3
  go_enter Tryd.func27, Tryd.ntmps27
  go_wp2_with fail
  rw [← HW.out]
  refine hv1.mono ?_
  rintro e w4 ⟨rfl, hb4⟩
  have r0 := (hb4.block _ (Array.getElem?_eq_some_iff.1 q0).1).trans q0
  have r1 := (hb4.block _ (Array.getElem?_eq_some_iff.1 q1).1).trans q1
  have r2 := (hb4.block _ (Array.getElem?_eq_some_iff.1 q2).1).trans q2
  have hB4 : Below w.heap.size w w4 := hB3.trans (hb4.mono hB3.size)
  have d0 := cell_of r0 0 rfl
  have d1 := cell_of r0 1 rfl
  have d2 := cell_of r1 0 rfl
  have d3 := cell_of r1 1 rfl
  clear q0 q1 q2
  go_wp2_with fail
  refine (refValid_num _ b w4 (hB.later hB4)).mono ?_
  rintro e w5 ⟨rfl, hb5⟩
  have s0 := (hb5.block _ (Array.getElem?_eq_some_iff.1 r0).1).trans r0
  have s1 := (hb5.block _ (Array.getElem?_eq_some_iff.1 r1).1).trans r1
  have s2 := (hb5.block _ (Array.getElem?_eq_some_iff.1 r2).1).trans r2
  have hB5 : Below w.heap.size w w5 := hB4.trans (hb5.mono hB4.size)
  have hs5 : w.heap.size + 3 ≤ w5.heap.size := by have h1 := hb4.size; have h2 := hb5.size; rw [hs3] at h1; exact Nat.le_trans h1 h2
  clear r0 r1 r2 d0 d1 d2 d3 hs3
  have e0 := cell_of s0 0 rfl
  have e1 := cell_of s0 1 rfl
  have e2 := cell_of s1 0 rfl
  have e3 := cell_of s1 1 rfl
  go_wp2_with fail
  clear e0 e1 e2 e3
  refine (Sum_big 1024 _ _ a b w5 HMX.out (hA.later hB5).big (hB.later hB5).big).mono ?_
  rintro e w6 ⟨v, rfl, hv, hb6⟩
  rw [HZ.out] at hv
  obtain ⟨b6, p6, l6, c6, rfl⟩ := hv.form
  have t0 := (hb6.block _ (Array.getElem?_eq_some_iff.1 s0).1).trans s0
  have t1 := (hb6.block _ (Array.getElem?_eq_some_iff.1 s1).1).trans s1
  have t2 := (hb6.block _ (Array.getElem?_eq_some_iff.1 s2).1).trans s2
  have hB6 : Below w.heap.size w w6 := hB5.trans (hb6.mono hB5.size)
  go_wp2_with fail
  refine (fits_fit _ z w6 HC.out hv.long).mono ?_
  rintro e w7 ⟨rfl, hb7⟩
  have u0 := (hb7.block _ (Array.getElem?_eq_some_iff.1 t0).1).trans t0
  have u1 := (hb7.block _ (Array.getElem?_eq_some_iff.1 t1).1).trans t1
  have u2 := (hb7.block _ (Array.getElem?_eq_some_iff.1 t2).1).trans t2
  have hB7 : Below w.heap.size w w7 := hB6.trans (hb7.mono hB6.size)
  have hn6 := (hv.num' HC.out).later hb7
  have e4 := cell_of u2 0 rfl
  have e5 := cell_of u2 1 rfl
  have f4 := frozen_of u2 0
  have f5 := frozen_of u2 1
  go_wp2
  obtain ⟨t0, t1⟩ := put2_cell u2 (.bool b6) (.slice p6 l6 c6)
  have hbe := hB7.trans ((put2_only w7 (w.heap.size + 1 + 1) (.bool b6) (.slice p6 l6 c6)).below (by omega))
  have hn2 := hn6.put2 u2 (.bool b6) (.slice p6 l6 c6)
  unfold put2 at t0 t1 hbe hn2
  exact bodyPost_ret (v := .tuple #[.agg #[.bool b6, (.slice p6 l6 c6)], .int .i64 0]) (by simp [results, Tryd.results27, go_sem, t0, t1]) rfl ⟨b6, p6, l6, c6, rfl, by simpa using hn2, hbe⟩

set_option maxRecDepth 100000 in
set_option maxHeartbeats 4000000 in
theorem refSub_fit (va vb : Value) (a b z : Int) (w : World) (hz : a + -b = z) (hc : z.natAbs < Cap) (hA : Wn w.heap.size w va a) (hB : Wn w.heap.size w vb b) : Calls Tryd.prog 28 #[va, vb] w (NumR z w) := by
  obtain ⟨na, pa, la, ca, rfl⟩ := hA.form
  obtain ⟨nb, pb, lb, cb, rfl⟩ := hB.form
  obtain ⟨w3, hw3⟩ : ∃ w3, w3 = ((w.alloc (.cells #[.bool na, .slice pa la ca] 24)).alloc (.cells #[.bool nb, .slice pb lb cb] 24)).alloc (.cells #[.bool false, .slice none 0 0] 24) := ⟨_, rfl⟩
  have hB3 : Below w.heap.size w w3 := by rw [hw3]; exact (((Below.refl _ w).alloc (Nat.le_refl _) _).alloc (by simp) _).alloc (by simp; omega) _
  have hs3 : w3.heap.size = w.heap.size + 3 := by rw [hw3]; simp
  obtain ⟨q0, q1, q2⟩ := alloc3 w (.cells #[.bool na, .slice pa la ca] 24) (.cells #[.bool nb, .slice pb lb cb] 24) (.cells #[.bool false, .slice none 0 0] 24)
  rw [← hw3] at q0 q1 q2
  have HZ := Lib.hid hz
  have HC := Lib.hid hc
  clear hz hc
  have hmx : 1024 ≤ 1000000 := by decide
  have HMX := Lib.hid hmx
  clear hmx
  have hv1 := refValid_num _ a w3 (hA.later hB3)
  have HW := Lib.hid hw3
  clear hw3
  go_enter Tryd.func28, Tryd.ntmps28
  go_wp2_with fail
  rw [← HW.out]
  refine hv1.mono ?_
  rintro e w4 ⟨rfl, hb4⟩
  have r0 := (hb4.block _ (Array.getElem?_eq_some_iff.1 q0).1).trans q0
  have r1 := (hb4.block _ (Array.getElem?_eq_some_iff.1 q1).1).trans q1
  have r2 := (hb4.block _ (Array.getElem?_eq_some_iff.1 q2).1).trans q2
  have hB4 : Below w.heap.size w w4 := hB3.trans (hb4.mono hB3.size)
  have d0 := cell_of r0 0 rfl
  have d1 := cell_of r0 1 rfl
  have d2 := cell_of r1 0 rfl
  have d3 := cell_of r1 1 rfl
  clear q0 q1 q2
  go_wp2_with fail
  refine (refValid_num _ b w4 (hB.later hB4)).mono ?_
  rintro e w5 ⟨rfl, hb5⟩
  have s0 := (hb5.block _ (Array.getElem?_eq_some_iff.1 r0).1).trans r0
  have s1 := (hb5.block _ (Array.getElem?_eq_some_iff.1 r1).1).trans r1
  have s2 := (hb5.block _ (Array.getElem?_eq_some_iff.1 r2).1).trans r2
  have hB5 : Below w.heap.size w w5 := hB4.trans (hb5.mono hB4.size)
  have hs5 : w.heap.size + 3 ≤ w5.heap.size := by have h1 := hb4.size; have h2 := hb5.size; rw [hs3] at h1; exact Nat.le_trans h1 h2
  clear r0 r1 r2 d0 d1 d2 d3 hs3
  have e0 := cell_of s0 0 rfl
  have e1 := cell_of s0 1 rfl
  have e2 := cell_of s1 0 rfl
  have e3 := cell_of s1 1 rfl
  go_wp2_with fail
  clear e0 e1 e2 e3
  refine region_front (n := 9) 7 [.val (.agg #[.bool na, .slice pa la ca]), .val (.agg #[.bool nb, .slice pb lb cb]), .val (.agg #[.bool (!nb && decide (0 < lb)), .slice pb lb cb]), .big w5.heap.size (a + -b), .pair z 0, .num z, .val (.int .i64 0)] [(0, 15), (1, 16), (2, 17), (3, 18), (4, 19), (5, 20), (6, 21)] (by kernel_rfl) (by kernel_rfl) (by kernel_rfl) (by kernel_rfl) (by decide) ?hstep ?hend
  case hstep =>
    intro i o hi ho a' W hI hM
    match i, hi, ho with
    | 0, _, ho =>
      cases ho
      refine ⟨wanted_none rfl, ?_⟩
      exact opLoad rfl (hM.old 2 rfl) ((hI.block _ (Array.getElem?_eq_some_iff.1 s0).1).trans s0) ⟨rfl, Below.refl _ _⟩
    | 1, _, ho =>
      cases ho
      refine ⟨wanted_none rfl, ?_⟩
      exact opLoad rfl (hM.old 3 rfl) ((hI.block _ (Array.getElem?_eq_some_iff.1 s1).1).trans s1) ⟨rfl, Below.refl _ _⟩
    | 2, _, ho =>
      cases ho
      refine ⟨wanted_none rfl, ?_⟩
      refine opCall1 rfl may60 (hM.dep ⟨1, .data⟩ (by simp) rfl 16 rfl) ((refNeg_any nb pb lb cb W).mono ?_)
      rintro e w' ⟨rfl, hb⟩
      exact ⟨_, rfl, rfl, hb⟩
    | 3, _, ho =>
      cases ho
      refine ⟨wanted_none rfl, ?_⟩
      refine opCall2 rfl may59 (hM.dep ⟨0, .data⟩ (by simp) rfl 15 rfl) (hM.dep ⟨2, .data⟩ (by simp) rfl 17 rfl) ((Sum_big 1024 _ _ a (-b) W HMX.out (hA.later (hB5.trans (hI.mono hB5.size))).big (neg_big (hB.later (hB5.trans (hI.mono hB5.size))).big)).mono ?_)
      rintro e w' ⟨v, rfl, hv, hb⟩
      exact ⟨v, rfl, hv.mono hI.size, hb⟩
    | 4, _, ho =>
      cases ho
      refine ⟨wanted_none rfl, ?_⟩
      have hv : Wb w5.heap.size W _ (a + -b) := hM.dep ⟨3, .data⟩ (by simp) rfl 18 rfl
      rw [HZ.out] at hv
      refine opCall1 rfl may58 rfl ((fits_fit _ z W HC.out hv.long).mono ?_)
      rintro e w' ⟨rfl, hb⟩
      exact ⟨_, rfl, ⟨_, rfl, (hv.num' HC.out).later hb⟩, hb⟩
    | 5, _, ho =>
      cases ho
      refine ⟨wanted_none rfl, ?_⟩
      exact exNum rfl (hM.dep ⟨4, .data⟩ (by simp) rfl 19 rfl)
    | 6, _, ho =>
      cases ho
      refine ⟨wanted_none rfl, ?_⟩
      exact exErr rfl (hM.dep ⟨4, .data⟩ (by simp) rfl 19 rfl)
    | k + 7, hi, ho => exact absurd hi (by omega)
  case hend =>
    intro u W hI hV
    have hn6 : Wn W.heap.size W (u 5) z := hV 5 20 rfl
    have e6 : u 6 = .int .i64 0 := hV 6 21 rfl
    obtain ⟨b6, p6, l6, c6, e5⟩ := hn6.form
    rw [e5] at hn6
    simp only [putAll, List.foldl_cons, List.foldl_nil, List.setIfInBounds_toArray, List.set_cons_zero, List.set_cons_succ, e5, e6]
    clear e5 e6 hV
    have t0 := (hI.block _ (Array.getElem?_eq_some_iff.1 s0).1).trans s0
    have t1 := (hI.block _ (Array.getElem?_eq_some_iff.1 s1).1).trans s1
    have t2 := (hI.block _ (Array.getElem?_eq_some_iff.1 s2).1).trans s2
    have hB6 : Below w.heap.size w W := hB5.trans (hI.mono hB5.size)
    have e4 := cell_of t2 0 rfl
    have e5 := cell_of t2 1 rfl
    have f4 := frozen_of t2 0
    have f5 := frozen_of t2 1
    gi_wp2
    go_wp2
    obtain ⟨t0, t1⟩ := put2_cell t2 (.bool b6) (.slice p6 l6 c6)
    have hbe := hB6.trans ((put2_only W (w.heap.size + 1 + 1) (.bool b6) (.slice p6 l6 c6)).below (by omega))
    have hn2 := hn6.put2 t2 (.bool b6) (.slice p6 l6 c6)
    unfold put2 at t0 t1 hbe hn2
    exact bodyPost_ret (v := .tuple #[.agg #[.bool b6, (.slice p6 l6 c6)], .int .i64 0]) (by simp [results, Tryd.results28, go_sem, t0, t1]) rfl ⟨b6, p6, l6, c6, rfl, by simpa using hn2, hbe⟩

set_option maxRecDepth 100000 in
set_option maxHeartbeats 4000000 in
theorem refMul_fit (va vb : Value) (a b z : Int) (w : World) (hz : a * b = z) (hc : z.natAbs < Cap) (hA : Wn w.heap.size w va a) (hB : Wn w.heap.size w vb b) : Calls Tryd.prog 29 #[va, vb] w (NumR z w) := by
  obtain ⟨na, pa, la, ca, rfl⟩ := hA.form
  obtain ⟨nb, pb, lb, cb, rfl⟩ := hB.form
  obtain ⟨w3, hw3⟩ : ∃ w3, w3 = ((w.alloc (.cells #[.bool na, .slice pa la ca] 24)).alloc (.cells #[.bool nb, .slice pb lb cb] 24)).alloc (.cells #[.bool false, .slice none 0 0] 24) := ⟨_, rfl⟩
  have hB3 : Below w.heap.size w w3 := by rw [hw3]; exact (((Below.refl _ w).alloc (Nat.le_refl _) _).alloc (by simp) _).alloc (by simp; omega) _
  have hs3 : w3.heap.size = w.heap.size + 3 := by rw [hw3]; simp
  obtain ⟨q0, q1, q2⟩ := alloc3 w (.cells #[.bool na, .slice pa la ca] 24) (.cells #[.bool nb, .slice pb lb cb] 24) (.cells #[.bool false, .slice none 0 0] 24)
  rw [← hw3] at q0 q1 q2
  have HZ := Lib.hid hz
  have HC := Lib.hid hc
  clear hz hc
  have hmx : 1024 ≤ 1000000 := by decide
  have HMX := Lib.hid hmx
  clear hmx
  have hv1 := refValid_num _ a w3 (hA.later hB3)
  have HW := Lib.hid hw3
  clear hw3
  go_enter Tryd.func29, Tryd.ntmps29
  go_wp2_with fail
  rw [← HW.out]
  refine hv1.mono ?_
  rintro e w4 ⟨rfl, hb4⟩
  have r0 := (hb4.block _ (Array.getElem?_eq_some_iff.1 q0).1).trans q0
  have r1 := (hb4.block _ (Array.getElem?_eq_some_iff.1 q1).1).trans q1
  have r2 := (hb4.block _ (Array.getElem?_eq_some_iff.1 q2).1).trans q2
  have hB4 : Below w.heap.size w w4 := hB3.trans (hb4.mono hB3.size)
  have d0 := cell_of r0 0 rfl
  have d1 := cell_of r0 1 rfl
  have d2 := cell_of r1 0 rfl
  have d3 := cell_of r1 1 rfl
  clear q0 q1 q2
  go_wp2_with fail
  refine (refValid_num _ b w4 (hB.later hB4)).mono ?_
  rintro e w5 ⟨rfl, hb5⟩
  have s0 := (hb5.block _ (Array.getElem?_eq_some_iff.1 r0).1).trans r0
  have s1 := (hb5.block _ (Array.getElem?_eq_some_iff.1 r1).1).trans r1
  have s2 := (hb5.block _ (Array.getElem?_eq_some_iff.1 r2).1).trans r2
  have hB5 : Below w.heap.size w w5 := hB4.trans (hb5.mono hB4.size)
  have hs5 : w.heap.size + 3 ≤ w5.heap.size := by have h1 := hb4.size; have h2 := hb5.size; rw [hs3] at h1; exact Nat.le_trans h1 h2
  clear r0 r1 r2 d0 d1 d2 d3 hs3
  have e0 := cell_of s0 0 rfl
  have e1 := cell_of s0 1 rfl
  have e2 := cell_of s1 0 rfl
  have e3 := cell_of s1 1 rfl
  go_wp2_with fail
  clear e0 e1 e2 e3
  refine (Product_big 1024 _ _ a b w5 HMX.out (hA.later hB5).big (hB.later hB5).big).mono ?_
  rintro e w6 ⟨v, rfl, hv, hb6⟩
  rw [HZ.out] at hv
  obtain ⟨b6, p6, l6, c6, rfl⟩ := hv.form
  have t0 := (hb6.block _ (Array.getElem?_eq_some_iff.1 s0).1).trans s0
  have t1 := (hb6.block _ (Array.getElem?_eq_some_iff.1 s1).1).trans s1
  have t2 := (hb6.block _ (Array.getElem?_eq_some_iff.1 s2).1).trans s2
  have hB6 : Below w.heap.size w w6 := hB5.trans (hb6.mono hB5.size)
  go_wp2_with fail
  refine (fits_fit _ z w6 HC.out hv.long).mono ?_
  rintro e w7 ⟨rfl, hb7⟩
  have u0 := (hb7.block _ (Array.getElem?_eq_some_iff.1 t0).1).trans t0
  have u1 := (hb7.block _ (Array.getElem?_eq_some_iff.1 t1).1).trans t1
  have u2 := (hb7.block _ (Array.getElem?_eq_some_iff.1 t2).1).trans t2
  have hB7 : Below w.heap.size w w7 := hB6.trans (hb7.mono hB6.size)
  have hn6 := (hv.num' HC.out).later hb7
  have e4 := cell_of u2 0 rfl
  have e5 := cell_of u2 1 rfl
  have f4 := frozen_of u2 0
  have f5 := frozen_of u2 1
  go_wp2
  obtain ⟨t0, t1⟩ := put2_cell u2 (.bool b6) (.slice p6 l6 c6)
  have hbe := hB7.trans ((put2_only w7 (w.heap.size + 1 + 1) (.bool b6) (.slice p6 l6 c6)).below (by omega))
  have hn2 := hn6.put2 u2 (.bool b6) (.slice p6 l6 c6)
  unfold put2 at t0 t1 hbe hn2
  exact bodyPost_ret (v := .tuple #[.agg #[.bool b6, (.slice p6 l6 c6)], .int .i64 0]) (by simp [results, Tryd.results29, go_sem, t0, t1]) rfl ⟨b6, p6, l6, c6, rfl, by simpa using hn2, hbe⟩

set_option maxRecDepth 100000 in
set_option maxHeartbeats 4000000 in
theorem refAdd_long (va vb : Value) (a b z : Int) (w : World) (hz : a + b = z) (hc : Cap ≤ z.natAbs) (hA : Wn w.heap.size w va a) (hB : Wn w.heap.size w vb b) : Calls Tryd.prog 27 #[va, vb] w (LongP w) := by
  obtain ⟨na, pa, la, ca, rfl⟩ := hA.form
  obtain ⟨nb, pb, lb, cb, rfl⟩ := hB.form
  obtain ⟨w3, hw3⟩ : ∃ w3, w3 = ((w.alloc (.cells #[.bool na, .slice pa la ca] 24)).alloc (.cells #[.bool nb, .slice pb lb cb] 24)).alloc (.cells #[.bool false, .slice none 0 0] 24) := ⟨_, rfl⟩
  have hB3 : Below w.heap.size w w3 := by rw [hw3]; exact (((Below.refl _ w).alloc (Nat.le_refl _) _).alloc (by simp) _).alloc (by simp; omega) _
  have hs3 : w3.heap.size = w.heap.size + 3 := by rw [hw3]; simp
  obtain ⟨q0, q1, q2⟩ := alloc3 w (.cells #[.bool na, .slice pa la ca] 24) (.cells #[.bool nb, .slice pb lb cb] 24) (.cells #[.bool false, .slice none 0 0] 24)
  rw [← hw3] at q0 q1 q2
  have HZ := Lib.hid hz
  have HC := Lib.hid hc
  clear hz hc
  have hmx : 1024 ≤ 1000000 := by decide
  have HMX := Lib.hid hmx
  clear hmx
  have hv1 := refValid_num _ a w3 (hA.later hB3)
  have HW := Lib.hid hw3
  clear hw3
  go_enter Tryd.func27, Tryd.ntmps27
  go_wp2_with fail
  rw [← HW.out]
  refine hv1.mono ?_
  rintro e w4 ⟨rfl, hb4⟩
  have r0 := (hb4.block _ (Array.getElem?_eq_some_iff.1 q0).1).trans q0
  have r1 := (hb4.block _ (Array.getElem?_eq_some_iff.1 q1).1).trans q1
  have r2 := (hb4.block _ (Array.getElem?_eq_some_iff.1 q2).1).trans q2
  have hB4 : Below w.heap.size w w4 := hB3.trans (hb4.mono hB3.size)
  have d0 := cell_of r0 0 rfl
  have d1 := cell_of r0 1 rfl
  have d2 := cell_of r1 0 rfl
  have d3 := cell_of r1 1 rfl
  clear q0 q1 q2
  go_wp2_with fail
  refine (refValid_num _ b w4 (hB.later hB4)).mono ?_
  rintro e w5 ⟨rfl, hb5⟩
  have s0 := (hb5.block _ (Array.getElem?_eq_some_iff.1 r0).1).trans r0
  have s1 := (hb5.block _ (Array.getElem?_eq_some_iff.1 r1).1).trans r1
  have s2 := (hb5.block _ (Array.getElem?_eq_some_iff.1 r2).1).trans r2
  have hB5 : Below w.heap.size w w5 := hB4.trans (hb5.mono hB4.size)
  have hs5 : w.heap.size + 3 ≤ w5.heap.size := by have h1 := hb4.size; have h2 := hb5.size; rw [hs3] at h1; exact Nat.le_trans h1 h2
  clear r0 r1 r2 d0 d1 d2 d3 hs3
  have e0 := cell_of s0 0 rfl
  have e1 := cell_of s0 1 rfl
  have e2 := cell_of s1 0 rfl
  have e3 := cell_of s1 1 rfl
  go_wp2_with fail
  clear e0 e1 e2 e3
  refine (Sum_big 1024 _ _ a b w5 HMX.out (hA.later hB5).big (hB.later hB5).big).mono ?_
  rintro e w6 ⟨v, rfl, hv, hb6⟩
  rw [HZ.out] at hv
  obtain ⟨b6, p6, l6, c6, rfl⟩ := hv.form
  have t0 := (hb6.block _ (Array.getElem?_eq_some_iff.1 s0).1).trans s0
  have t1 := (hb6.block _ (Array.getElem?_eq_some_iff.1 s1).1).trans s1
  have t2 := (hb6.block _ (Array.getElem?_eq_some_iff.1 s2).1).trans s2
  have hB6 : Below w.heap.size w w6 := hB5.trans (hb6.mono hB5.size)
  go_wp2_with fail
  refine (fits_long _ z w6 HC.out hv.long).mono ?_
  rintro e w7 ⟨rfl, hb7⟩
  have u0 := (hb7.block _ (Array.getElem?_eq_some_iff.1 t0).1).trans t0
  have u1 := (hb7.block _ (Array.getElem?_eq_some_iff.1 t1).1).trans t1
  have u2 := (hb7.block _ (Array.getElem?_eq_some_iff.1 t2).1).trans t2
  have hB7 : Below w.heap.size w w7 := hB6.trans (hb7.mono hB6.size)
  have e4 := cell_of u2 0 rfl
  have e5 := cell_of u2 1 rfl
  have f4 := frozen_of u2 0
  have f5 := frozen_of u2 1
  go_wp2
  obtain ⟨t0, t1⟩ := put2_cell u2 (.bool false) (.slice none 0 0)
  have hbe := hB7.trans ((put2_only w7 (w.heap.size + 1 + 1) (.bool false) (.slice none 0 0)).below (by omega))
  unfold put2 at t0 t1 hbe
  exact bodyPost_ret (v := .tuple #[.agg #[.bool false, (.slice none 0 0)], .int .i64 3]) (by simp [results, Tryd.results27, go_sem, t0, t1]) rfl ⟨rfl, hbe⟩

set_option maxRecDepth 100000 in
set_option maxHeartbeats 4000000 in
theorem refSub_long (va vb : Value) (a b z : Int) (w : World) (hz : a + -b = z) (hc : Cap ≤ z.natAbs) (hA : Wn w.heap.size w va a) (hB : Wn w.heap.size w vb b) : Calls Tryd.prog 28 #[va, vb] w (LongP w) := by
  obtain ⟨na, pa, la, ca, rfl⟩ := hA.form
  obtain ⟨nb, pb, lb, cb, rfl⟩ := hB.form
  obtain ⟨w3, hw3⟩ : ∃ w3, w3 = ((w.alloc (.cells #[.bool na, .slice pa la ca] 24)).alloc (.cells #[.bool nb, .slice pb lb cb] 24)).alloc (.cells #[.bool false, .slice none 0 0] 24) := ⟨_, rfl⟩
  have hB3 : Below w.heap.size w w3 := by rw [hw3]; exact (((Below.refl _ w).alloc (Nat.le_refl _) _).alloc (by simp) _).alloc (by simp; omega) _
  have hs3 : w3.heap.size = w.heap.size + 3 := by rw [hw3]; simp
  obtain ⟨q0, q1, q2⟩ := alloc3 w (.cells #[.bool na, .slice pa la ca] 24) (.cells #[.bool nb, .slice pb lb cb] 24) (.cells #[.bool false, .slice none 0 0] 24)
  rw [← hw3] at q0 q1 q2
  have HZ := Lib.hid hz
  have HC := Lib.hid hc
  clear hz hc
  have hmx : 1024 ≤ 1000000 := by decide
  have HMX := Lib.hid hmx
  clear hmx
  have hv1 := refValid_num _ a w3 (hA.later hB3)
  have HW := Lib.hid hw3
  clear hw3
  go_enter Tryd.func28, Tryd.ntmps28
  go_wp2_with fail
  rw [← HW.out]
  refine hv1.mono ?_
  rintro e w4 ⟨rfl, hb4⟩
  have r0 := (hb4.block _ (Array.getElem?_eq_some_iff.1 q0).1).trans q0
  have r1 := (hb4.block _ (Array.getElem?_eq_some_iff.1 q1).1).trans q1
  have r2 := (hb4.block _ (Array.getElem?_eq_some_iff.1 q2).1).trans q2
  have hB4 : Below w.heap.size w w4 := hB3.trans (hb4.mono hB3.size)
  have d0 := cell_of r0 0 rfl
  have d1 := cell_of r0 1 rfl
  have d2 := cell_of r1 0 rfl
  have d3 := cell_of r1 1 rfl
  clear q0 q1 q2
  go_wp2_with fail
  refine (refValid_num _ b w4 (hB.later hB4)).mono ?_
  rintro e w5 ⟨rfl, hb5⟩
  have s0 := (hb5.block _ (Array.getElem?_eq_some_iff.1 r0).1).trans r0
  have s1 := (hb5.block _ (Array.getElem?_eq_some_iff.1 r1).1).trans r1
  have s2 := (hb5.block _ (Array.getElem?_eq_some_iff.1 r2).1).trans r2
  have hB5 : Below w.heap.size w w5 := hB4.trans (hb5.mono hB4.size)
  have hs5 : w.heap.size + 3 ≤ w5.heap.size := by have h1 := hb4.size; have h2 := hb5.size; rw [hs3] at h1; exact Nat.le_trans h1 h2
  clear r0 r1 r2 d0 d1 d2 d3 hs3
  have e0 := cell_of s0 0 rfl
  have e1 := cell_of s0 1 rfl
  have e2 := cell_of s1 0 rfl
  have e3 := cell_of s1 1 rfl
  go_wp2_with fail
  clear e0 e1 e2 e3
  refine region_front (n := 9) 7 [.val (.agg #[.bool na, .slice pa la ca]), .val (.agg #[.bool nb, .slice pb lb cb]), .val (.agg #[.bool (!nb && decide (0 < lb)), .slice pb lb cb]), .big w5.heap.size (a + -b), .val (.tuple #[zeroW, .int .i64 3]), .val zeroW, .val (.int .i64 3)] [(0, 15), (1, 16), (2, 17), (3, 18), (4, 19), (5, 20), (6, 21)] (by kernel_rfl) (by kernel_rfl) (by kernel_rfl) (by kernel_rfl) (by decide) ?hstep ?hend
  case hstep =>
    intro i o hi ho a' W hI hM
    match i, hi, ho with
    | 0, _, ho =>
      cases ho
      refine ⟨wanted_none rfl, ?_⟩
      exact opLoad rfl (hM.old 2 rfl) ((hI.block _ (Array.getElem?_eq_some_iff.1 s0).1).trans s0) ⟨rfl, Below.refl _ _⟩
    | 1, _, ho =>
      cases ho
      refine ⟨wanted_none rfl, ?_⟩
      exact opLoad rfl (hM.old 3 rfl) ((hI.block _ (Array.getElem?_eq_some_iff.1 s1).1).trans s1) ⟨rfl, Below.refl _ _⟩
    | 2, _, ho =>
      cases ho
      refine ⟨wanted_none rfl, ?_⟩
      refine opCall1 rfl may60 (hM.dep ⟨1, .data⟩ (by simp) rfl 16 rfl) ((refNeg_any nb pb lb cb W).mono ?_)
      rintro e w' ⟨rfl, hb⟩
      exact ⟨_, rfl, rfl, hb⟩
    | 3, _, ho =>
      cases ho
      refine ⟨wanted_none rfl, ?_⟩
      refine opCall2 rfl may59 (hM.dep ⟨0, .data⟩ (by simp) rfl 15 rfl) (hM.dep ⟨2, .data⟩ (by simp) rfl 17 rfl) ((Sum_big 1024 _ _ a (-b) W HMX.out (hA.later (hB5.trans (hI.mono hB5.size))).big (neg_big (hB.later (hB5.trans (hI.mono hB5.size))).big)).mono ?_)
      rintro e w' ⟨v, rfl, hv, hb⟩
      exact ⟨v, rfl, hv.mono hI.size, hb⟩
    | 4, _, ho =>
      cases ho
      refine ⟨wanted_none rfl, ?_⟩
      have hv : Wb w5.heap.size W _ (a + -b) := hM.dep ⟨3, .data⟩ (by simp) rfl 18 rfl
      rw [HZ.out] at hv
      refine opCall1 rfl may58 rfl ((fits_long _ z W HC.out hv.long).mono ?_)
      rintro e w' ⟨rfl, hb⟩
      exact ⟨_, rfl, rfl, hb⟩
    | 5, _, ho =>
      cases ho
      refine ⟨wanted_none rfl, ?_⟩
      exact opExtract rfl (hM.dep ⟨4, .data⟩ (by simp) rfl 19 rfl) rfl ⟨rfl, Below.refl _ _⟩
    | 6, _, ho =>
      cases ho
      refine ⟨wanted_none rfl, ?_⟩
      exact opExtract rfl (hM.dep ⟨4, .data⟩ (by simp) rfl 19 rfl) rfl ⟨rfl, Below.refl _ _⟩
    | k + 7, hi, ho => exact absurd hi (by omega)
  case hend =>
    intro u W hI hV
    have e5 : u 5 = .agg #[.bool false, .slice none 0 0] := hV 5 20 rfl
    have e6 : u 6 = .int .i64 3 := hV 6 21 rfl
    simp only [putAll, List.foldl_cons, List.foldl_nil, List.setIfInBounds_toArray, List.set_cons_zero, List.set_cons_succ, e5, e6]
    clear e5 e6 hV
    have t0 := (hI.block _ (Array.getElem?_eq_some_iff.1 s0).1).trans s0
    have t1 := (hI.block _ (Array.getElem?_eq_some_iff.1 s1).1).trans s1
    have t2 := (hI.block _ (Array.getElem?_eq_some_iff.1 s2).1).trans s2
    have hB6 : Below w.heap.size w W := hB5.trans (hI.mono hB5.size)
    have e4 := cell_of t2 0 rfl
    have e5 := cell_of t2 1 rfl
    have f4 := frozen_of t2 0
    have f5 := frozen_of t2 1
    gi_wp2
    go_wp2
    obtain ⟨t0, t1⟩ := put2_cell t2 (.bool false) (.slice none 0 0)
    have hbe := hB6.trans ((put2_only W (w.heap.size + 1 + 1) (.bool false) (.slice none 0 0)).below (by omega))
    unfold put2 at t0 t1 hbe
    exact bodyPost_ret (v := .tuple #[.agg #[.bool false, (.slice none 0 0)], .int .i64 3]) (by simp [results, Tryd.results28, go_sem, t0, t1]) rfl ⟨rfl, hbe⟩

set_option maxRecDepth 100000 in
set_option maxHeartbeats 4000000 in
theorem refMul_long (va vb : Value) (a b z : Int) (w : World) (hz : a * b = z) (hc : Cap ≤ z.natAbs) (hA : Wn w.heap.size w va a) (hB : Wn w.heap.size w vb b) : Calls Tryd.prog 29 #[va, vb] w (LongP w) := by
  obtain ⟨na, pa, la, ca, rfl⟩ := hA.form
  obtain ⟨nb, pb, lb, cb, rfl⟩ := hB.form
  obtain ⟨w3, hw3⟩ : ∃ w3, w3 = ((w.alloc (.cells #[.bool na, .slice pa la ca] 24)).alloc (.cells #[.bool nb, .slice pb lb cb] 24)).alloc (.cells #[.bool false, .slice none 0 0] 24) := ⟨_, rfl⟩
  have hB3 : Below w.heap.size w w3 := by rw [hw3]; exact (((Below.refl _ w).alloc (Nat.le_refl _) _).alloc (by simp) _).alloc (by simp; omega) _
  have hs3 : w3.heap.size = w.heap.size + 3 := by rw [hw3]; simp
  obtain ⟨q0, q1, q2⟩ := alloc3 w (.cells #[.bool na, .slice pa la ca] 24) (.cells #[.bool nb, .slice pb lb cb] 24) (.cells #[.bool false, .slice none 0 0] 24)
  rw [← hw3] at q0 q1 q2
  have HZ := Lib.hid hz
  have HC := Lib.hid hc
  clear hz hc
  have hmx : 1024 ≤ 1000000 := by decide
  have HMX := Lib.hid hmx
  clear hmx
  have hv1 := refValid_num _ a w3 (hA.later hB3)
  have HW := Lib.hid hw3
  clear hw3
  go_enter Tryd.func29, Tryd.ntmps29
  go_wp2_with fail
  rw [← HW.out]
  refine hv1.mono ?_
  rintro e w4 ⟨rfl, hb4⟩
  have r0 := (hb4.block _ (Array.getElem?_eq_some_iff.1 q0).1).trans q0
  have r1 := (hb4.block _ (Array.getElem?_eq_some_iff.1 q1).1).trans q1
  have r2 := (hb4.block _ (Array.getElem?_eq_some_iff.1 q2).1).trans q2
  have hB4 : Below w.heap.size w w4 := hB3.trans (hb4.mono hB3.size)
  have d0 := cell_of r0 0 rfl
  have d1 := cell_of r0 1 rfl
  have d2 := cell_of r1 0 rfl
  have d3 := cell_of r1 1 rfl
  clear q0 q1 q2
  go_wp2_with fail
  refine (refValid_num _ b w4 (hB.later hB4)).mono ?_
  rintro e w5 ⟨rfl, hb5⟩
  have s0 := (hb5.block _ (Array.getElem?_eq_some_iff.1 r0).1).trans r0
  have s1 := (hb5.block _ (Array.getElem?_eq_some_iff.1 r1).1).trans r1
  have s2 := (hb5.block _ (Array.getElem?_eq_some_iff.1 r2).1).trans r2
  have hB5 : Below w.heap.size w w5 := hB4.trans (hb5.mono hB4.size)
  have hs5 : w.heap.size + 3 ≤ w5.heap.size := by have h1 := hb4.size; have h2 := hb5.size; rw [hs3] at h1; exact Nat.le_trans h1 h2
  clear r0 r1 r2 d0 d1 d2 d3 hs3
  have e0 := cell_of s0 0 rfl
  have e1 := cell_of s0 1 rfl
  have e2 := cell_of s1 0 rfl
  have e3 := cell_of s1 1 rfl
  go_wp2_with fail
  clear e0 e1 e2 e3
  refine (Product_big 1024 _ _ a b w5 HMX.out (hA.later hB5).big (hB.later hB5).big).mono ?_
  rintro e w6 ⟨v, rfl, hv, hb6⟩
  rw [HZ.out] at hv
  obtain ⟨b6, p6, l6, c6, rfl⟩ := hv.form
  have t0 := (hb6.block _ (Array.getElem?_eq_some_iff.1 s0).1).trans s0
  have t1 := (hb6.block _ (Array.getElem?_eq_some_iff.1 s1).1).trans s1
  have t2 := (hb6.block _ (Array.getElem?_eq_some_iff.1 s2).1).trans s2
  have hB6 : Below w.heap.size w w6 := hB5.trans (hb6.mono hB5.size)
  go_wp2_with fail
  refine (fits_long _ z w6 HC.out hv.long).mono ?_
  rintro e w7 ⟨rfl, hb7⟩
  have u0 := (hb7.block _ (Array.getElem?_eq_some_iff.1 t0).1).trans t0
  have u1 := (hb7.block _ (Array.getElem?_eq_some_iff.1 t1).1).trans t1
  have u2 := (hb7.block _ (Array.getElem?_eq_some_iff.1 t2).1).trans t2
  have hB7 : Below w.heap.size w w7 := hB6.trans (hb7.mono hB6.size)
  have e4 := cell_of u2 0 rfl
  have e5 := cell_of u2 1 rfl
  have f4 := frozen_of u2 0
  have f5 := frozen_of u2 1
  go_wp2
  obtain ⟨t0, t1⟩ := put2_cell u2 (.bool false) (.slice none 0 0)
  have hbe := hB7.trans ((put2_only w7 (w.heap.size + 1 + 1) (.bool false) (.slice none 0 0)).below (by omega))
  unfold put2 at t0 t1 hbe
  exact bodyPost_ret (v := .tuple #[.agg #[.bool false, (.slice none 0 0)], .int .i64 3]) (by simp [results, Tryd.results29, go_sem, t0, t1]) rfl ⟨rfl, hbe⟩

set_option maxRecDepth 100000 in
set_option maxHeartbeats 4000000 in
theorem refAdd_bad (va vb : Value) (na nb : Bool) (A B : List Int) (w : World) (hA : Wr w.heap.size w va na A) (hB : Wr w.heap.size w vb nb B) (hla : A.length ≤ 140737488355328) (hlb : B.length ≤ 140737488355328) (hbad : (okB na A && okB nb B) = false) : Calls Tryd.prog 27 #[va, vb] w (BadPost w) := by
  obtain ⟨sa, rfl, hLa⟩ := hA
  obtain ⟨sb, rfl, hLb⟩ := hB
  obtain ⟨pa, la, ca, rfl⟩ := hLa.form
  obtain ⟨pb, lb, cb, rfl⟩ := hLb.form
  obtain ⟨w3, hw3⟩ : ∃ w3, w3 = ((w.alloc (.cells #[.bool na, .slice pa la ca] 24)).alloc (.cells #[.bool nb, .slice pb lb cb] 24)).alloc (.cells #[.bool false, .slice none 0 0] 24) := ⟨_, rfl⟩
  have hB3 : Below w.heap.size w w3 := by rw [hw3]; exact (((Below.refl _ w).alloc (Nat.le_refl _) _).alloc (by simp) _).alloc (by simp; omega) _
  have hs3 : w3.heap.size = w.heap.size + 3 := by rw [hw3]; simp
  obtain ⟨q0, q1, q2⟩ := alloc3 w (.cells #[.bool na, .slice pa la ca] 24) (.cells #[.bool nb, .slice pb lb cb] 24) (.cells #[.bool false, .slice none 0 0] 24)
  rw [← hw3] at q0 q1 q2
  have hv1 := refValid_any _ na A w3 ⟨_, rfl, (hLa.below hB3).mono hB3.size⟩ hla
  have HW := Lib.hid hw3
  clear hw3
  cases hoa : okB na A
  · have HOA := Lib.hid hoa
    clear hoa hbad
    go_enter Tryd.func27, Tryd.ntmps27
    go_wp2_with fail
    rw [← HW.out]
    refine hv1.mono ?_
    rintro e w4 ⟨rfl, hb4⟩
    have r0 := (hb4.block _ (Array.getElem?_eq_some_iff.1 q0).1).trans q0
    have r1 := (hb4.block _ (Array.getElem?_eq_some_iff.1 q1).1).trans q1
    have r2 := (hb4.block _ (Array.getElem?_eq_some_iff.1 q2).1).trans q2
    have hB4 : Below w.heap.size w w4 := hB3.trans (hb4.mono hB3.size)
    rw [HOA.out]
    have e4 := cell_of r2 0 rfl
    have e5 := cell_of r2 1 rfl
    have f4 := frozen_of r2 0
    have f5 := frozen_of r2 1
    go_wp2
    obtain ⟨t0, t1⟩ := put2_cell r2 (.bool false) (.slice none 0 0)
    have hbe := hB4.trans ((put2_only w4 (w.heap.size + 1 + 1) (.bool false) (.slice none 0 0)).below (by omega))
    unfold put2 at t0 t1 hbe
    exact bodyPost_ret (v := .tuple #[.agg #[.bool false, .slice none 0 0], .int .i64 2]) (by simp [results, Tryd.results27, go_sem, t0, t1]) rfl ⟨rfl, hbe⟩
  · have hob : okB nb B = false := by rw [hoa] at hbad; simpa using hbad
    have HOA := Lib.hid hoa
    have HOB := Lib.hid hob
    clear hoa hob hbad
    go_enter Tryd.func27, Tryd.ntmps27
    go_wp2_with fail
    rw [← HW.out]
    refine hv1.mono ?_
    rintro e w4 ⟨rfl, hb4⟩
    have r0 := (hb4.block _ (Array.getElem?_eq_some_iff.1 q0).1).trans q0
    have r1 := (hb4.block _ (Array.getElem?_eq_some_iff.1 q1).1).trans q1
    have r2 := (hb4.block _ (Array.getElem?_eq_some_iff.1 q2).1).trans q2
    have hB4 : Below w.heap.size w w4 := hB3.trans (hb4.mono hB3.size)
    rw [HOA.out]
    have d0 := cell_of r0 0 rfl
    have d1 := cell_of r0 1 rfl
    have d2 := cell_of r1 0 rfl
    have d3 := cell_of r1 1 rfl
    go_wp2_with fail
    refine (refValid_any _ nb B w4 ⟨_, rfl, (hLb.below hB4).mono hB4.size⟩ hlb).mono ?_
    rintro e w5 ⟨rfl, hb5⟩
    have s0 := (hb5.block _ (Array.getElem?_eq_some_iff.1 r0).1).trans r0
    have s1 := (hb5.block _ (Array.getElem?_eq_some_iff.1 r1).1).trans r1
    have s2 := (hb5.block _ (Array.getElem?_eq_some_iff.1 r2).1).trans r2
    have hB5 : Below w.heap.size w w5 := hB4.trans (hb5.mono hB4.size)
    rw [HOB.out]
    have e4 := cell_of s2 0 rfl
    have e5 := cell_of s2 1 rfl
    have f4 := frozen_of s2 0
    have f5 := frozen_of s2 1
    go_wp2
    obtain ⟨t0, t1⟩ := put2_cell s2 (.bool false) (.slice none 0 0)
    have hbe := hB5.trans ((put2_only w5 (w.heap.size + 1 + 1) (.bool false) (.slice none 0 0)).below (by omega))
    unfold put2 at t0 t1 hbe
    exact bodyPost_ret (v := .tuple #[.agg #[.bool false, .slice none 0 0], .int .i64 2]) (by simp [results, Tryd.results27, go_sem, t0, t1]) rfl ⟨rfl, hbe⟩

set_option maxRecDepth 100000 in
set_option maxHeartbeats 4000000 in
theorem refSub_bad (va vb : Value) (na nb : Bool) (A B : List Int) (w : World) (hA : Wr w.heap.size w va na A) (hB : Wr w.heap.size w vb nb B) (hla : A.length ≤ 140737488355328) (hlb : B.length ≤ 140737488355328) (hbad : (okB na A && okB nb B) = false) : Calls Tryd.prog 28 #[va, vb] w (BadPost w) := by
  obtain ⟨sa, rfl, hLa⟩ := hA
  obtain ⟨sb, rfl, hLb⟩ := hB
  obtain ⟨pa, la, ca, rfl⟩ := hLa.form
  obtain ⟨pb, lb, cb, rfl⟩ := hLb.form
  obtain ⟨w3, hw3⟩ : ∃ w3, w3 = ((w.alloc (.cells #[.bool na, .slice pa la ca] 24)).alloc (.cells #[.bool nb, .slice pb lb cb] 24)).alloc (.cells #[.bool false, .slice none 0 0] 24) := ⟨_, rfl⟩
  have hB3 : Below w.heap.size w w3 := by rw [hw3]; exact (((Below.refl _ w).alloc (Nat.le_refl _) _).alloc (by simp) _).alloc (by simp; omega) _
  have hs3 : w3.heap.size = w.heap.size + 3 := by rw [hw3]; simp
  obtain ⟨q0, q1, q2⟩ := alloc3 w (.cells #[.bool na, .slice pa la ca] 24) (.cells #[.bool nb, .slice pb lb cb] 24) (.cells #[.bool false, .slice none 0 0] 24)
  rw [← hw3] at q0 q1 q2
  have hv1 := refValid_any _ na A w3 ⟨_, rfl, (hLa.below hB3).mono hB3.size⟩ hla
  have HW := Lib.hid hw3
  clear hw3
  cases hoa : okB na A
  · have HOA := Lib.hid hoa
    clear hoa hbad
    go_enter Tryd.func28, Tryd.ntmps28
    go_wp2_with fail
    rw [← HW.out]
    refine hv1.mono ?_
    rintro e w4 ⟨rfl, hb4⟩
    have r0 := (hb4.block _ (Array.getElem?_eq_some_iff.1 q0).1).trans q0
    have r1 := (hb4.block _ (Array.getElem?_eq_some_iff.1 q1).1).trans q1
    have r2 := (hb4.block _ (Array.getElem?_eq_some_iff.1 q2).1).trans q2
    have hB4 : Below w.heap.size w w4 := hB3.trans (hb4.mono hB3.size)
    rw [HOA.out]
    have e4 := cell_of r2 0 rfl
    have e5 := cell_of r2 1 rfl
    have f4 := frozen_of r2 0
    have f5 := frozen_of r2 1
    go_wp2
    obtain ⟨t0, t1⟩ := put2_cell r2 (.bool false) (.slice none 0 0)
    have hbe := hB4.trans ((put2_only w4 (w.heap.size + 1 + 1) (.bool false) (.slice none 0 0)).below (by omega))
    unfold put2 at t0 t1 hbe
    exact bodyPost_ret (v := .tuple #[.agg #[.bool false, .slice none 0 0], .int .i64 2]) (by simp [results, Tryd.results28, go_sem, t0, t1]) rfl ⟨rfl, hbe⟩
  · have hob : okB nb B = false := by rw [hoa] at hbad; simpa using hbad
    have HOA := Lib.hid hoa
    have HOB := Lib.hid hob
    clear hoa hob hbad
    go_enter Tryd.func28, Tryd.ntmps28
    go_wp2_with fail
    rw [← HW.out]
    refine hv1.mono ?_
    rintro e w4 ⟨rfl, hb4⟩
    have r0 := (hb4.block _ (Array.getElem?_eq_some_iff.1 q0).1).trans q0
    have r1 := (hb4.block _ (Array.getElem?_eq_some_iff.1 q1).1).trans q1
    have r2 := (hb4.block _ (Array.getElem?_eq_some_iff.1 q2).1).trans q2
    have hB4 : Below w.heap.size w w4 := hB3.trans (hb4.mono hB3.size)
    rw [HOA.out]
    have d0 := cell_of r0 0 rfl
    have d1 := cell_of r0 1 rfl
    have d2 := cell_of r1 0 rfl
    have d3 := cell_of r1 1 rfl
    go_wp2_with fail
    refine (refValid_any _ nb B w4 ⟨_, rfl, (hLb.below hB4).mono hB4.size⟩ hlb).mono ?_
    rintro e w5 ⟨rfl, hb5⟩
    have s0 := (hb5.block _ (Array.getElem?_eq_some_iff.1 r0).1).trans r0
    have s1 := (hb5.block _ (Array.getElem?_eq_some_iff.1 r1).1).trans r1
    have s2 := (hb5.block _ (Array.getElem?_eq_some_iff.1 r2).1).trans r2
    have hB5 : Below w.heap.size w w5 := hB4.trans (hb5.mono hB4.size)
    rw [HOB.out]
    have e4 := cell_of s2 0 rfl
    have e5 := cell_of s2 1 rfl
    have f4 := frozen_of s2 0
    have f5 := frozen_of s2 1
    go_wp2
    obtain ⟨t0, t1⟩ := put2_cell s2 (.bool false) (.slice none 0 0)
    have hbe := hB5.trans ((put2_only w5 (w.heap.size + 1 + 1) (.bool false) (.slice none 0 0)).below (by omega))
    unfold put2 at t0 t1 hbe
    exact bodyPost_ret (v := .tuple #[.agg #[.bool false, .slice none 0 0], .int .i64 2]) (by simp [results, Tryd.results28, go_sem, t0, t1]) rfl ⟨rfl, hbe⟩

set_option maxRecDepth 100000 in
set_option maxHeartbeats 4000000 in
theorem refMul_bad (va vb : Value) (na nb : Bool) (A B : List Int) (w : World) (hA : Wr w.heap.size w va na A) (hB : Wr w.heap.size w vb nb B) (hla : A.length ≤ 140737488355328) (hlb : B.length ≤ 140737488355328) (hbad : (okB na A && okB nb B) = false) : Calls Tryd.prog 29 #[va, vb] w (BadPost w) := by
  obtain ⟨sa, rfl, hLa⟩ := hA
  obtain ⟨sb, rfl, hLb⟩ := hB
  obtain ⟨pa, la, ca, rfl⟩ := hLa.form
  obtain ⟨pb, lb, cb, rfl⟩ := hLb.form
  obtain ⟨w3, hw3⟩ : ∃ w3, w3 = ((w.alloc (.cells #[.bool na, .slice pa la ca] 24)).alloc (.cells #[.bool nb, .slice pb lb cb] 24)).alloc (.cells #[.bool false, .slice none 0 0] 24) := ⟨_, rfl⟩
  have hB3 : Below w.heap.size w w3 := by rw [hw3]; exact (((Below.refl _ w).alloc (Nat.le_refl _) _).alloc (by simp) _).alloc (by simp; omega) _
  have hs3 : w3.heap.size = w.heap.size + 3 := by rw [hw3]; simp
  obtain ⟨q0, q1, q2⟩ := alloc3 w (.cells #[.bool na, .slice pa la ca] 24) (.cells #[.bool nb, .slice pb lb cb] 24) (.cells #[.bool false, .slice none 0 0] 24)
  rw [← hw3] at q0 q1 q2
  have hv1 := refValid_any _ na A w3 ⟨_, rfl, (hLa.below hB3).mono hB3.size⟩ hla
  have HW := Lib.hid hw3
  clear hw3
  cases hoa : okB na A
  · have HOA := Lib.hid hoa
    clear hoa hbad
    go_enter Tryd.func29, Tryd.ntmps29
    go_wp2_with fail
    rw [← HW.out]
    refine hv1.mono ?_
    rintro e w4 ⟨rfl, hb4⟩
    have r0 := (hb4.block _ (Array.getElem?_eq_some_iff.1 q0).1).trans q0
    have r1 := (hb4.block _ (Array.getElem?_eq_some_iff.1 q1).1).trans q1
    have r2 := (hb4.block _ (Array.getElem?_eq_some_iff.1 q2).1).trans q2
    have hB4 : Below w.heap.size w w4 := hB3.trans (hb4.mono hB3.size)
    rw [HOA.out]
    have e4 := cell_of r2 0 rfl
    have e5 := cell_of r2 1 rfl
    have f4 := frozen_of r2 0
    have f5 := frozen_of r2 1
    go_wp2
    obtain ⟨t0, t1⟩ := put2_cell r2 (.bool false) (.slice none 0 0)
    have hbe := hB4.trans ((put2_only w4 (w.heap.size + 1 + 1) (.bool false) (.slice none 0 0)).below (by omega))
    unfold put2 at t0 t1 hbe
    exact bodyPost_ret (v := .tuple #[.agg #[.bool false, .slice none 0 0], .int .i64 2]) (by simp [results, Tryd.results29, go_sem, t0, t1]) rfl ⟨rfl, hbe⟩
  · have hob : okB nb B = false := by rw [hoa] at hbad; simpa using hbad
    have HOA := Lib.hid hoa
    have HOB := Lib.hid hob
    clear hoa hob hbad
    go_enter Tryd.func29, Tryd.ntmps29
    go_wp2_with fail
    rw [← HW.out]
    refine hv1.mono ?_
    rintro e w4 ⟨rfl, hb4⟩
    have r0 := (hb4.block _ (Array.getElem?_eq_some_iff.1 q0).1).trans q0
    have r1 := (hb4.block _ (Array.getElem?_eq_some_iff.1 q1).1).trans q1
    have r2 := (hb4.block _ (Array.getElem?_eq_some_iff.1 q2).1).trans q2
    have hB4 : Below w.heap.size w w4 := hB3.trans (hb4.mono hB3.size)
    rw [HOA.out]
    have d0 := cell_of r0 0 rfl
    have d1 := cell_of r0 1 rfl
    have d2 := cell_of r1 0 rfl
    have d3 := cell_of r1 1 rfl
    go_wp2_with fail
    refine (refValid_any _ nb B w4 ⟨_, rfl, (hLb.below hB4).mono hB4.size⟩ hlb).mono ?_
    rintro e w5 ⟨rfl, hb5⟩
    have s0 := (hb5.block _ (Array.getElem?_eq_some_iff.1 r0).1).trans r0
    have s1 := (hb5.block _ (Array.getElem?_eq_some_iff.1 r1).1).trans r1
    have s2 := (hb5.block _ (Array.getElem?_eq_some_iff.1 r2).1).trans r2
    have hB5 : Below w.heap.size w w5 := hB4.trans (hb5.mono hB4.size)
    rw [HOB.out]
    have e4 := cell_of s2 0 rfl
    have e5 := cell_of s2 1 rfl
    have f4 := frozen_of s2 0
    have f5 := frozen_of s2 1
    go_wp2
    obtain ⟨t0, t1⟩ := put2_cell s2 (.bool false) (.slice none 0 0)
    have hbe := hB5.trans ((put2_only w5 (w.heap.size + 1 + 1) (.bool false) (.slice none 0 0)).below (by omega))
    unfold put2 at t0 t1 hbe
    exact bodyPost_ret (v := .tuple #[.agg #[.bool false, .slice none 0 0], .int .i64 2]) (by simp [results, Tryd.results29, go_sem, t0, t1]) rfl ⟨rfl, hbe⟩

end Go.Proofs.YtbaiohjladddlaaDoor
