import Derived.Test.YtbaiohjladddlaaDoorL7
/- The law WholeOrder, walked. -/
namespace Go.Proofs.YtbaiohjladddlaaDoor
open Go.RowKit Go.WM Go.WR
attribute [local go_sem] Oper.semAt_some

theorem cmp_sw {a b o : Int} (h : o = cmpI a b) : cmpI b a = -o := by rw [h]; exact cmpI_swap a b
theorem cmp_dec {a b o : Int} (h : o = cmpI a b) : decide (a = b) = (o == 0) := by
  rw [h]; unfold cmpI
  by_cases h1 : a < b
  · rw [if_pos h1, decide_eq_false (by omega)]; rfl
  · by_cases h2 : a = b
    · rw [if_neg h1, if_pos h2, decide_eq_true h2]; rfl
    · rw [if_neg h1, if_neg h2, decide_eq_false h2]; rfl
theorem cmp_sub0 (a b : Int) : cmpI (a - b) (0 : Int) = cmpI a b := by unfold cmpI; split <;> split <;> (try split) <;> (try split) <;> omega
theorem cmp_addr (a b c : Int) : cmpI (a + c) (b + c) = cmpI a b := by unfold cmpI; split <;> split <;> (try split) <;> (try split) <;> omega
theorem cmp_negm {a b o : Int} (h : o = cmpI a b) : cmpI (a * (-1 : Int)) (b * (-1 : Int)) = -o := by rw [h]; unfold cmpI; split <;> split <;> (try split) <;> (try split) <;> omega
theorem cmp_tr {a b c o : Int} (h : o = cmpI a b) (k : o = cmpI b c) : cmpI a c = o := by
  rw [h] at k ⊢; revert k; unfold cmpI; split <;> split <;> (try split) <;> (try split) <;> (try split) <;> omega

set_option maxRecDepth 100000 in
set_option maxHeartbeats 4000000 in
theorem Order_any (va vb vc : Value) (na nb nc : Bool) (A B C : List Int) (w : World) (hA : Wr w.heap.size w va na A) (hB : Wr w.heap.size w vb nb B) (hC : Wr w.heap.size w vc nc C) (hla : A.length ≤ 140737488355328) (hlb : B.length ≤ 140737488355328) (hlc : C.length ≤ 140737488355328) (hma : Lm A) (hmb : Lm B) (hmc : Lm C) (htab : Tab w) : Calls Tryd.prog 9 #[va, vb, vc] w (BoolP true w) := by
  by_cases hu : (A.length ≤ 200 ∧ okB na A = true) ∧ (B.length ≤ 200 ∧ okB nb B = true) ∧ (C.length ≤ 200 ∧ okB nc C = true)
  · -- usable
    obtain ⟨⟨hua, hoa⟩, ⟨hub, hob⟩, ⟨huc, hoc⟩⟩ := hu
    obtain ⟨a, hNa, hSa⟩ := num_of_ok 2 hA (by omega) hoa hma
    obtain ⟨b, hNb, hSb⟩ := num_of_ok 2 hB (by omega) hob hmb
    obtain ⟨c, hNc, hSc⟩ := num_of_ok 2 hC (by omega) hoc hmc
    obtain ⟨sa, rfl, hLa⟩ := hA
    obtain ⟨pa, la, ca, rfl⟩ := hLa.form
    obtain ⟨sb, rfl, hLb⟩ := hB
    obtain ⟨pb, lb, cb, rfl⟩ := hLb.form
    obtain ⟨sc, rfl, hLc⟩ := hC
    obtain ⟨pc, lc, cc, rfl⟩ := hLc.form
    obtain ⟨w3, hw3⟩ : ∃ x, x = (((w.alloc (.cells #[.bool na, .slice pa la ca] 24)).alloc (.cells #[.bool nb, .slice pb lb cb] 24)).alloc (.cells #[.bool nc, .slice pc lc cc] 24)) := ⟨_, rfl⟩
    have hB3 : Below w.heap.size w w3 := by rw [hw3]; exact (((Below.refl _ w).alloc (by omega) _).alloc (by simp) _).alloc (by simp; omega) _
    have hs3 : w3.heap.size = w.heap.size + 3 := by rw [hw3]; simp
    obtain ⟨q0, q1, q2⟩ := alloc3 w (.cells #[.bool na, .slice pa la ca] 24) (.cells #[.bool nb, .slice pb lb cb] 24) (.cells #[.bool nc, .slice pc lc cc] 24)
    rw [← hw3] at q0 q1 q2
    have haw := awake_ok w3 (htab.below' hB3)
    have HW := Lib.hid hw3
    clear hw3
    go_enter Tryd.func9, Tryd.ntmps9
    go_wp2_with fail
    rw [← HW.out]
    refine haw.mono ?_
    rintro e w4 ⟨rfl, hb4⟩
    have hz4 := hb4.size
    have r0 := (hb4.block _ (Array.getElem?_eq_some_iff.1 q0).1).trans q0
    have d0 := cell_of r0 0 rfl
    have d1 := cell_of r0 1 rfl
    have r1 := (hb4.block _ (Array.getElem?_eq_some_iff.1 q1).1).trans q1
    have d2 := cell_of r1 0 rfl
    have d3 := cell_of r1 1 rfl
    have r2 := (hb4.block _ (Array.getElem?_eq_some_iff.1 q2).1).trans q2
    have d4 := cell_of r2 0 rfl
    have d5 := cell_of r2 1 rfl
    go_wp2_with fail
    obtain ⟨w5, hw5⟩ : ∃ x, x = w4.alloc (.cells #[.bool na, .slice pa la ca, .bool nb, .slice pb lb cb, .bool nc, .slice pc lc cc] 24) := ⟨_, rfl⟩
    rw [← hw5]
    have hb5 : Below w4.heap.size w4 w5 := by rw [hw5]; exact (Below.refl _ _).alloc (Nat.le_refl _) _
    have qg : w5.heap[w4.heap.size]? = some (.cells #[.bool na, .slice pa la ca, .bool nb, .slice pb lb cb, .bool nc, .slice pc lc cc] 24) := by rw [hw5]; exact alloc_new _ _ rfl
    have HW5 := Lib.hid hw5
    clear hw5 d0 d1 d2 d3 d4 d5
    have hB5 : Below w.heap.size w w5 := hB3.trans ((hb4.trans (hb5.mono hb4.size)).mono hB3.size)
    refine (usable3 w4.heap.size 200 na nb nc _ _ _ A B C w5 (Array.getElem?_eq_some_iff.1 qg).1 (by omega) hla hlb hlc qg ((hLa.below hB5).mono hB5.size) ((hLb.below hB5).mono hB5.size) ((hLc.below hB5).mono hB5.size) true ?_).mono ?_
    · exact ⟨fun _ => ⟨⟨hua, hoa⟩, ⟨hub, hob⟩, ⟨huc, hoc⟩⟩, fun _ => rfl⟩
    rintro e w6 ⟨rfl, hb6⟩
    have hB6 : Below w.heap.size w w6 := hB5.trans (hb6.mono hB5.size)
    have t0 := (hb6.block _ (Array.getElem?_eq_some_iff.1 ((hb5.block _ (Array.getElem?_eq_some_iff.1 r0).1).trans r0)).1).trans ((hb5.block _ (Array.getElem?_eq_some_iff.1 r0).1).trans r0)
    have ma : Wn w6.heap.size w6 (.agg #[.bool na, .slice pa la ca]) a := hNa.later hB6
    have t1 := (hb6.block _ (Array.getElem?_eq_some_iff.1 ((hb5.block _ (Array.getElem?_eq_some_iff.1 r1).1).trans r1)).1).trans ((hb5.block _ (Array.getElem?_eq_some_iff.1 r1).1).trans r1)
    have mb : Wn w6.heap.size w6 (.agg #[.bool nb, .slice pb lb cb]) b := hNb.later hB6
    have t2 := (hb6.block _ (Array.getElem?_eq_some_iff.1 ((hb5.block _ (Array.getElem?_eq_some_iff.1 r2).1).trans r2)).1).trans ((hb5.block _ (Array.getElem?_eq_some_iff.1 r2).1).trans r2)
    have mc : Wn w6.heap.size w6 (.agg #[.bool nc, .slice pc lc cc]) c := hNc.later hB6
    clear r0 r1 r2 q0 q1 q2 qg hz4 hs3 hNa hNb hNc hLa hLb hLc hua hoa hub hob huc hoc
    obtain ⟨o, ho⟩ : ∃ o, o = cmpI a b := ⟨_, rfl⟩
    obtain ⟨o1, o2⟩ := cmpI_bd a b
    rw [← ho] at o1 o2
    have HO := Lib.hid ho
    have y3_0 := cell_of t0 0 rfl
    have y3_1 := cell_of t0 1 rfl
    have y4_0 := cell_of t1 0 rfl
    have y4_1 := cell_of t1 1 rfl
    have y5_0 := cell_of t2 0 rfl
    have y5_1 := cell_of t2 1 rfl
    go_wp2_with fail
    clear y3_0 y3_1 y4_0 y4_1 y5_0 y5_1
    refine (Cmp_ok _ _ a b w6 ma mb).mono ?_
    rintro e w7 ⟨rfl, hbw7⟩
    have q3w7 := (hbw7.block _ (Array.getElem?_eq_some_iff.1 t0).1).trans t0
    have n3w7 := ma.later hbw7
    have q4w7 := (hbw7.block _ (Array.getElem?_eq_some_iff.1 t1).1).trans t1
    have n4w7 := mb.later hbw7
    have q5w7 := (hbw7.block _ (Array.getElem?_eq_some_iff.1 t2).1).trans t2
    have n5w7 := mc.later hbw7
    have hBXw7 := hB6.trans (hbw7.mono hB6.size)
    rw [← ho]
    clear ho
    go_wp2
    refine region_kinds (n := 9) [.val (.int .i64 o), .val (.bool false), .val (.bool false), .val (.int .i64 o), .val (.bool false), .val (.bool false), .val (.bool false), .num b, .num a, .val (.int .i64 (-o)), .val (.int .i64 o), .val (.int .i64 (-o)), .val (.bool false), .val (.bool false), .val (.bool false), .val (.int .i64 o), .val (Value.bool (o == 0)), .num a, .num b, .val (Value.bool (o == 0)), .val (.bool false), .val (.bool false), .val (.bool false), .num a, .num b, .num (a - b), .num (0 : Int), .val (.int .i64 o), .val (.int .i64 o), .val (.bool false), .val (.bool false), .val (.bool false), .num a, .num c, .num (a + c), .num b, .num c, .num (b + c), .val (.int .i64 o), .val (.int .i64 o), .val (.bool false), .val (.bool false)] [(0, 19), (1, 20), (2, 21), (3, 22), (4, 23), (5, 24), (6, 25), (7, 26), (8, 27), (9, 28), (10, 29), (11, 30), (12, 31), (13, 32), (14, 33), (15, 34), (16, 35), (17, 36), (18, 37), (19, 38), (20, 39), (21, 40), (22, 41), (23, 42), (24, 43), (25, 44), (26, 45), (27, 46), (28, 47), (29, 48), (30, 49), (31, 50), (32, 51), (33, 52), (34, 53), (35, 54), (36, 55), (37, 56), (38, 57), (39, 58), (40, 59), (41, 60)] (by kernel_rfl) (by kernel_rfl) (by kernel_rfl) ?hstep1 ?hend1
    case hstep1 =>
      intro i o ho a' W hI hM
      match i, ho with
      | 0, ho =>
        cases ho
        refine stepK_of (wanted_none rfl) ?_
        exact opMove rfl (hM.old 7 rfl) ⟨rfl, Below.refl _ _⟩
      | 1, ho =>
        cases ho
        refine stepK_of (wanted_none rfl) ?_
        exact opLss3 rfl (hM.dep ⟨0, .data⟩ (by simp) rfl 19 rfl) rfl ⟨congrArg Value.bool (decide_eq_false (by omega)), Below.refl _ _⟩
      | 2, ho =>
        cases ho
        refine stepK_of (wanted_none rfl) ?_
        exact opMove rfl (hM.dep ⟨1, .data⟩ (by simp) rfl 20 rfl) ⟨rfl, Below.refl _ _⟩
      | 3, ho =>
        cases ho
        refine stepK_of (wantedK hM rfl rfl (hM.dep ⟨2, .guard⟩ (by simp) rfl 21 rfl) rfl (show 21 < 83 by decide)) ?_
        exact opMove rfl (hM.old 7 rfl) ⟨rfl, Below.refl _ _⟩
      | 4, ho =>
        cases ho
        refine stepK_of (wantedK hM rfl rfl (hM.dep ⟨2, .guard⟩ (by simp) rfl 21 rfl) rfl (show 21 < 83 by decide)) ?_
        exact opGtr3 rfl (hM.dep ⟨3, .data⟩ (by simp) rfl 22 rfl) rfl ⟨congrArg Value.bool (decide_eq_false (by omega)), Below.refl _ _⟩
      | 5, ho =>
        cases ho
        refine stepK_of (wanted_none rfl) ?_
        exact opPick rfl (hM.dep ⟨2, .data⟩ (by simp) rfl 21 rfl) (hM.dep ⟨4, .data⟩ (by simp) rfl 23 rfl) ⟨rfl, Below.refl _ _⟩
      | 6, ho =>
        cases ho
        refine stepK_of (wanted_none rfl) ?_
        exact opMove rfl (hM.dep ⟨5, .data⟩ (by simp) rfl 24 rfl) ⟨rfl, Below.refl _ _⟩
      | 7, ho =>
        cases ho
        refine stepK_of (wantedK hM rfl rfl (hM.dep ⟨6, .guard⟩ (by simp) rfl 25 rfl) rfl (show 25 < 83 by decide)) ?_
        exact opLoad rfl (hM.old 4 rfl) ((hI.block _ (Array.getElem?_eq_some_iff.1 q4w7).1).trans q4w7) ⟨n4w7.later hI, Below.refl _ _⟩
      | 8, ho =>
        cases ho
        refine stepK_of (wantedK hM rfl rfl (hM.dep ⟨6, .guard⟩ (by simp) rfl 25 rfl) rfl (show 25 < 83 by decide)) ?_
        exact opLoad rfl (hM.old 3 rfl) ((hI.block _ (Array.getElem?_eq_some_iff.1 q3w7).1).trans q3w7) ⟨n3w7.later hI, Below.refl _ _⟩
      | 9, ho =>
        cases ho
        refine stepK_of (wantedK hM rfl rfl (hM.dep ⟨6, .chain⟩ (by simp) rfl 25 rfl) rfl (show 25 < 83 by decide)) ?_
        exact opCall2 rfl may33 rfl rfl (cmpK' (Cmp_ok _ _ b a W (hM.dep ⟨7, .data⟩ (by simp) rfl 26 rfl) (hM.dep ⟨8, .data⟩ (by simp) rfl 27 rfl)) (cmp_sw HO.out))
      | 10, ho =>
        cases ho
        refine stepK_of (wantedK hM rfl rfl (hM.dep ⟨6, .guard⟩ (by simp) rfl 25 rfl) rfl (show 25 < 83 by decide)) ?_
        exact opMove rfl (hM.old 7 rfl) ⟨rfl, Below.refl _ _⟩
      | 11, ho =>
        cases ho
        refine stepK_of (wantedK hM rfl rfl (hM.dep ⟨6, .guard⟩ (by simp) rfl 25 rfl) rfl (show 25 < 83 by decide)) ?_
        exact opNeg3 rfl (hM.dep ⟨10, .data⟩ (by simp) rfl 29 rfl) (by omega) (by omega) ⟨rfl, Below.refl _ _⟩
      | 12, ho =>
        cases ho
        refine stepK_of (wantedK hM rfl rfl (hM.dep ⟨6, .guard⟩ (by simp) rfl 25 rfl) rfl (show 25 < 83 by decide)) ?_
        exact opNeq3 rfl (hM.dep ⟨9, .data⟩ (by simp) rfl 28 rfl) (hM.dep ⟨11, .data⟩ (by simp) rfl 30 rfl) ⟨congrArg Value.bool (bne_self_eq_false _), Below.refl _ _⟩
      | 13, ho =>
        cases ho
        refine stepK_of (wanted_none rfl) ?_
        exact opPick rfl (hM.dep ⟨6, .data⟩ (by simp) rfl 25 rfl) (hM.dep ⟨12, .data⟩ (by simp) rfl 31 rfl) ⟨rfl, Below.refl _ _⟩
      | 14, ho =>
        cases ho
        refine stepK_of (wanted_none rfl) ?_
        exact opMove rfl (hM.dep ⟨13, .data⟩ (by simp) rfl 32 rfl) ⟨rfl, Below.refl _ _⟩
      | 15, ho =>
        cases ho
        refine stepK_of (wantedK hM rfl rfl (hM.dep ⟨14, .guard⟩ (by simp) rfl 33 rfl) rfl (show 33 < 83 by decide)) ?_
        exact opMove rfl (hM.old 7 rfl) ⟨rfl, Below.refl _ _⟩
      | 16, ho =>
        cases ho
        refine stepK_of (wantedK hM rfl rfl (hM.dep ⟨14, .guard⟩ (by simp) rfl 33 rfl) rfl (show 33 < 83 by decide)) ?_
        exact opEql3 rfl (hM.dep ⟨15, .data⟩ (by simp) rfl 34 rfl) rfl ⟨rfl, Below.refl _ _⟩
      | 17, ho =>
        cases ho
        refine stepK_of (wantedK hM rfl rfl (hM.dep ⟨14, .guard⟩ (by simp) rfl 33 rfl) rfl (show 33 < 83 by decide)) ?_
        exact opLoad rfl (hM.old 3 rfl) ((hI.block _ (Array.getElem?_eq_some_iff.1 q3w7).1).trans q3w7) ⟨n3w7.later hI, Below.refl _ _⟩
      | 18, ho =>
        cases ho
        refine stepK_of (wantedK hM rfl rfl (hM.dep ⟨14, .guard⟩ (by simp) rfl 33 rfl) rfl (show 33 < 83 by decide)) ?_
        exact opLoad rfl (hM.old 4 rfl) ((hI.block _ (Array.getElem?_eq_some_iff.1 q4w7).1).trans q4w7) ⟨n4w7.later hI, Below.refl _ _⟩
      | 19, ho =>
        cases ho
        refine stepK_of (wantedK hM rfl rfl (hM.dep ⟨14, .chain⟩ (by simp) rfl 33 rfl) rfl (show 33 < 83 by decide)) ?_
        exact opCall2 rfl may37 rfl rfl (boolK' (Same_num _ _ a b W (hM.dep ⟨17, .data⟩ (by simp) rfl 36 rfl) (hM.dep ⟨18, .data⟩ (by simp) rfl 37 rfl)) (cmp_dec HO.out))
      | 20, ho =>
        cases ho
        refine stepK_of (wantedK hM rfl rfl (hM.dep ⟨14, .guard⟩ (by simp) rfl 33 rfl) rfl (show 33 < 83 by decide)) ?_
        exact opNeqB rfl (hM.dep ⟨16, .data⟩ (by simp) rfl 35 rfl) (hM.dep ⟨19, .data⟩ (by simp) rfl 38 rfl) ⟨congrArg Value.bool (bne_self_eq_false _), Below.refl _ _⟩
      | 21, ho =>
        cases ho
        refine stepK_of (wanted_none rfl) ?_
        exact opPick rfl (hM.dep ⟨14, .data⟩ (by simp) rfl 33 rfl) (hM.dep ⟨20, .data⟩ (by simp) rfl 39 rfl) ⟨rfl, Below.refl _ _⟩
      | 22, ho =>
        cases ho
        refine stepK_of (wanted_none rfl) ?_
        exact opMove rfl (hM.dep ⟨21, .data⟩ (by simp) rfl 40 rfl) ⟨rfl, Below.refl _ _⟩
      | 23, ho =>
        cases ho
        refine stepK_of (wantedK hM rfl rfl (hM.dep ⟨22, .guard⟩ (by simp) rfl 41 rfl) rfl (show 41 < 83 by decide)) ?_
        exact opLoad rfl (hM.old 3 rfl) ((hI.block _ (Array.getElem?_eq_some_iff.1 q3w7).1).trans q3w7) ⟨n3w7.later hI, Below.refl _ _⟩
      | 24, ho =>
        cases ho
        refine stepK_of (wantedK hM rfl rfl (hM.dep ⟨22, .guard⟩ (by simp) rfl 41 rfl) rfl (show 41 < 83 by decide)) ?_
        exact opLoad rfl (hM.old 4 rfl) ((hI.block _ (Array.getElem?_eq_some_iff.1 q4w7).1).trans q4w7) ⟨n4w7.later hI, Below.refl _ _⟩
      | 25, ho =>
        cases ho
        refine stepK_of (wantedK hM rfl rfl (hM.dep ⟨22, .chain⟩ (by simp) rfl 41 rfl) rfl (show 41 < 83 by decide)) ?_
        exact opCall2 rfl may31 rfl rfl (numK (less_ok _ _ a b W (hM.dep ⟨23, .data⟩ (by simp) rfl 42 rfl) (hM.dep ⟨24, .data⟩ (by simp) rfl 43 rfl) (Sz.cap (Sz.sub (j := 0) (k := 2) hSa hSb) (by decide) (by decide))))
      | 26, ho =>
        cases ho
        refine stepK_of (wantedK hM rfl rfl (hM.dep ⟨22, .guard⟩ (by simp) rfl 41 rfl) rfl (show 41 < 83 by decide)) ?_
        exact opCall1 rfl may20 rfl (numK (num_ok (0) W (by decide) (by decide)))
      | 27, ho =>
        cases ho
        refine stepK_of (wantedK hM rfl rfl (hM.dep ⟨22, .guard⟩ (by simp) rfl 41 rfl) rfl (show 41 < 83 by decide)) ?_
        exact opCall2 rfl may33 rfl rfl (cmpK' (Cmp_ok _ _ (a - b) (0 : Int) W (hM.dep ⟨25, .data⟩ (by simp) rfl 44 rfl) (hM.dep ⟨26, .data⟩ (by simp) rfl 45 rfl)) ((cmp_sub0 a b).trans HO.out.symm))
      | 28, ho =>
        cases ho
        refine stepK_of (wantedK hM rfl rfl (hM.dep ⟨22, .guard⟩ (by simp) rfl 41 rfl) rfl (show 41 < 83 by decide)) ?_
        exact opMove rfl (hM.old 7 rfl) ⟨rfl, Below.refl _ _⟩
      | 29, ho =>
        cases ho
        refine stepK_of (wantedK hM rfl rfl (hM.dep ⟨22, .guard⟩ (by simp) rfl 41 rfl) rfl (show 41 < 83 by decide)) ?_
        exact opNeq3 rfl (hM.dep ⟨27, .data⟩ (by simp) rfl 46 rfl) (hM.dep ⟨28, .data⟩ (by simp) rfl 47 rfl) ⟨congrArg Value.bool (bne_self_eq_false _), Below.refl _ _⟩
      | 30, ho =>
        cases ho
        refine stepK_of (wanted_none rfl) ?_
        exact opPick rfl (hM.dep ⟨22, .data⟩ (by simp) rfl 41 rfl) (hM.dep ⟨29, .data⟩ (by simp) rfl 48 rfl) ⟨rfl, Below.refl _ _⟩
      | 31, ho =>
        cases ho
        refine stepK_of (wanted_none rfl) ?_
        exact opMove rfl (hM.dep ⟨30, .data⟩ (by simp) rfl 49 rfl) ⟨rfl, Below.refl _ _⟩
      | 32, ho =>
        cases ho
        refine stepK_of (wantedK hM rfl rfl (hM.dep ⟨31, .guard⟩ (by simp) rfl 50 rfl) rfl (show 50 < 83 by decide)) ?_
        exact opLoad rfl (hM.old 3 rfl) ((hI.block _ (Array.getElem?_eq_some_iff.1 q3w7).1).trans q3w7) ⟨n3w7.later hI, Below.refl _ _⟩
      | 33, ho =>
        cases ho
        refine stepK_of (wantedK hM rfl rfl (hM.dep ⟨31, .guard⟩ (by simp) rfl 50 rfl) rfl (show 50 < 83 by decide)) ?_
        exact opLoad rfl (hM.old 5 rfl) ((hI.block _ (Array.getElem?_eq_some_iff.1 q5w7).1).trans q5w7) ⟨n5w7.later hI, Below.refl _ _⟩
      | 34, ho =>
        cases ho
        refine stepK_of (wantedK hM rfl rfl (hM.dep ⟨31, .chain⟩ (by simp) rfl 50 rfl) rfl (show 50 < 83 by decide)) ?_
        exact opCall2 rfl may16 rfl rfl (numK (sum_ok _ _ a c W (hM.dep ⟨32, .data⟩ (by simp) rfl 51 rfl) (hM.dep ⟨33, .data⟩ (by simp) rfl 52 rfl) (Sz.cap (Sz.add (j := 0) (k := 2) hSa hSc) (by decide) (by decide))))
      | 35, ho =>
        cases ho
        refine stepK_of (wantedK hM rfl rfl (hM.dep ⟨31, .guard⟩ (by simp) rfl 50 rfl) rfl (show 50 < 83 by decide)) ?_
        exact opLoad rfl (hM.old 4 rfl) ((hI.block _ (Array.getElem?_eq_some_iff.1 q4w7).1).trans q4w7) ⟨n4w7.later hI, Below.refl _ _⟩
      | 36, ho =>
        cases ho
        refine stepK_of (wantedK hM rfl rfl (hM.dep ⟨31, .guard⟩ (by simp) rfl 50 rfl) rfl (show 50 < 83 by decide)) ?_
        exact opLoad rfl (hM.old 5 rfl) ((hI.block _ (Array.getElem?_eq_some_iff.1 q5w7).1).trans q5w7) ⟨n5w7.later hI, Below.refl _ _⟩
      | 37, ho =>
        cases ho
        refine stepK_of (wantedK hM rfl rfl (hM.dep ⟨31, .guard⟩ (by simp) rfl 50 rfl) rfl (show 50 < 83 by decide)) ?_
        exact opCall2 rfl may16 rfl rfl (numK (sum_ok _ _ b c W (hM.dep ⟨35, .data⟩ (by simp) rfl 54 rfl) (hM.dep ⟨36, .data⟩ (by simp) rfl 55 rfl) (Sz.cap (Sz.add (j := 0) (k := 2) hSb hSc) (by decide) (by decide))))
      | 38, ho =>
        cases ho
        refine stepK_of (wantedK hM rfl rfl (hM.dep ⟨31, .guard⟩ (by simp) rfl 50 rfl) rfl (show 50 < 83 by decide)) ?_
        exact opCall2 rfl may33 rfl rfl (cmpK' (Cmp_ok _ _ (a + c) (b + c) W (hM.dep ⟨34, .data⟩ (by simp) rfl 53 rfl) (hM.dep ⟨37, .data⟩ (by simp) rfl 56 rfl)) ((cmp_addr a b c).trans HO.out.symm))
      | 39, ho =>
        cases ho
        refine stepK_of (wantedK hM rfl rfl (hM.dep ⟨31, .guard⟩ (by simp) rfl 50 rfl) rfl (show 50 < 83 by decide)) ?_
        exact opMove rfl (hM.old 7 rfl) ⟨rfl, Below.refl _ _⟩
      | 40, ho =>
        cases ho
        refine stepK_of (wantedK hM rfl rfl (hM.dep ⟨31, .guard⟩ (by simp) rfl 50 rfl) rfl (show 50 < 83 by decide)) ?_
        exact opNeq3 rfl (hM.dep ⟨38, .data⟩ (by simp) rfl 57 rfl) (hM.dep ⟨39, .data⟩ (by simp) rfl 58 rfl) ⟨congrArg Value.bool (bne_self_eq_false _), Below.refl _ _⟩
      | 41, ho =>
        cases ho
        refine stepK_of (wanted_none rfl) ?_
        exact opPick rfl (hM.dep ⟨31, .data⟩ (by simp) rfl 50 rfl) (hM.dep ⟨40, .data⟩ (by simp) rfl 59 rfl) ⟨rfl, Below.refl _ _⟩
      | k + 42, ho => simp at ho
    case hend1 =>
      intro u1 W1 hI1 hV1
      have e1_41 : u1 41 = (.bool false) := hV1 41 60 rfl
      simp only [putAll, List.foldl_cons, List.foldl_nil, List.setIfInBounds_toArray, List.set_cons_zero, List.set_cons_succ, e1_41]
      clear e1_41 hV1
      have q3_1 := (hI1.block _ (Array.getElem?_eq_some_iff.1 q3w7).1).trans q3w7
      have n3_1 := n3w7.later hI1
      have q4_1 := (hI1.block _ (Array.getElem?_eq_some_iff.1 q4w7).1).trans q4w7
      have n4_1 := n4w7.later hI1
      have q5_1 := (hI1.block _ (Array.getElem?_eq_some_iff.1 q5w7).1).trans q5w7
      have n5_1 := n5w7.later hI1
      have hBW1 := hBXw7.trans (hI1.mono hBXw7.size)
      go_wp2
      refine region_kinds (n := 9) [.num a, .num (-1 : Int), .num (a * (-1 : Int)), .num b, .num (-1 : Int), .num (b * (-1 : Int)), .val (.int .i64 (-o)), .val (.int .i64 o), .val (.int .i64 (-o)), .val (.bool false)] [(0, 61), (1, 62), (2, 63), (3, 64), (4, 65), (5, 66), (6, 67), (7, 68), (8, 69), (9, 70)] (by kernel_rfl) (by kernel_rfl) (by kernel_rfl) ?hstep2 ?hend2
      case hstep2 =>
        intro i o ho a' W hI hM
        match i, ho with
        | 0, ho =>
          cases ho
          refine stepK_of (wanted_none rfl) ?_
          exact opLoad rfl (hM.old 3 rfl) ((hI.block _ (Array.getElem?_eq_some_iff.1 q3_1).1).trans q3_1) ⟨n3_1.later hI, Below.refl _ _⟩
        | 1, ho =>
          cases ho
          refine stepK_of (wanted_none rfl) ?_
          exact opCall1 rfl may20 rfl (numK (num_ok (-1) W (by decide) (by decide)))
        | 2, ho =>
          cases ho
          refine stepK_of (wanted_none rfl) ?_
          exact opCall2 rfl may17 rfl rfl (numK (product_ok _ _ a (-1 : Int) W (hM.dep ⟨0, .data⟩ (by simp) rfl 61 rfl) (hM.dep ⟨1, .data⟩ (by simp) rfl 62 rfl) (Sz.cap (Sz.mul hSa (Sz.lit (z := -1) (by decide))) (by decide) (by decide))))
        | 3, ho =>
          cases ho
          refine stepK_of (wanted_none rfl) ?_
          exact opLoad rfl (hM.old 4 rfl) ((hI.block _ (Array.getElem?_eq_some_iff.1 q4_1).1).trans q4_1) ⟨n4_1.later hI, Below.refl _ _⟩
        | 4, ho =>
          cases ho
          refine stepK_of (wanted_none rfl) ?_
          exact opCall1 rfl may20 rfl (numK (num_ok (-1) W (by decide) (by decide)))
        | 5, ho =>
          cases ho
          refine stepK_of (wanted_none rfl) ?_
          exact opCall2 rfl may17 rfl rfl (numK (product_ok _ _ b (-1 : Int) W (hM.dep ⟨3, .data⟩ (by simp) rfl 64 rfl) (hM.dep ⟨4, .data⟩ (by simp) rfl 65 rfl) (Sz.cap (Sz.mul hSb (Sz.lit (z := -1) (by decide))) (by decide) (by decide))))
        | 6, ho =>
          cases ho
          refine stepK_of (wanted_none rfl) ?_
          exact opCall2 rfl may33 rfl rfl (cmpK' (Cmp_ok _ _ (a * (-1 : Int)) (b * (-1 : Int)) W (hM.dep ⟨2, .data⟩ (by simp) rfl 63 rfl) (hM.dep ⟨5, .data⟩ (by simp) rfl 66 rfl)) (cmp_negm HO.out))
        | 7, ho =>
          cases ho
          refine stepK_of (wanted_none rfl) ?_
          exact opMove rfl (hM.old 7 rfl) ⟨rfl, Below.refl _ _⟩
        | 8, ho =>
          cases ho
          refine stepK_of (wanted_none rfl) ?_
          exact opNeg3 rfl (hM.dep ⟨7, .data⟩ (by simp) rfl 68 rfl) (by omega) (by omega) ⟨rfl, Below.refl _ _⟩
        | 9, ho =>
          cases ho
          refine stepK_of (wanted_none rfl) ?_
          exact opNeq3 rfl (hM.dep ⟨6, .data⟩ (by simp) rfl 67 rfl) (hM.dep ⟨8, .data⟩ (by simp) rfl 69 rfl) ⟨congrArg Value.bool (bne_self_eq_false _), Below.refl _ _⟩
        | k + 10, ho => simp at ho
      case hend2 =>
        intro u2 W2 hI2 hV2
        have e2_9 : u2 9 = (.bool false) := hV2 9 70 rfl
        simp only [putAll, List.foldl_cons, List.foldl_nil, List.setIfInBounds_toArray, List.set_cons_zero, List.set_cons_succ, e2_9]
        clear e2_9 hV2
        have q3_2 := (hI2.block _ (Array.getElem?_eq_some_iff.1 q3_1).1).trans q3_1
        have n3_2 := n3_1.later hI2
        have q4_2 := (hI2.block _ (Array.getElem?_eq_some_iff.1 q4_1).1).trans q4_1
        have n4_2 := n4_1.later hI2
        have q5_2 := (hI2.block _ (Array.getElem?_eq_some_iff.1 q5_1).1).trans q5_1
        have n5_2 := n5_1.later hI2
        have hBW2 := hBW1.trans (hI2.mono hBW1.size)
        have y3_0 := cell_of q3_2 0 rfl
        have y3_1 := cell_of q3_2 1 rfl
        have y4_0 := cell_of q4_2 0 rfl
        have y4_1 := cell_of q4_2 1 rfl
        have y5_0 := cell_of q5_2 0 rfl
        have y5_1 := cell_of q5_2 1 rfl
        go_wp2_with fail
        clear y3_0 y3_1 y4_0 y4_1 y5_0 y5_1
        refine (Cmp_ok _ _ b c W2 n4_2 n5_2).mono ?_
        rintro e w8 ⟨rfl, hbw8⟩
        have q3w8 := (hbw8.block _ (Array.getElem?_eq_some_iff.1 q3_2).1).trans q3_2
        have n3w8 := n3_2.later hbw8
        have q4w8 := (hbw8.block _ (Array.getElem?_eq_some_iff.1 q4_2).1).trans q4_2
        have n4w8 := n4_2.later hbw8
        have q5w8 := (hbw8.block _ (Array.getElem?_eq_some_iff.1 q5_2).1).trans q5_2
        have n5w8 := n5_2.later hbw8
        have hBXw8 := hBW2.trans (hbw8.mono hBW2.size)
        obtain ⟨p, hp⟩ : ∃ p, p = cmpI b c := ⟨_, rfl⟩
        rw [← hp]
        have HP := Lib.hid hp
        clear hp
        by_cases hpo : o = p
        · subst hpo
          have y3_0 := cell_of q3w8 0 rfl
          have y3_1 := cell_of q3w8 1 rfl
          have y4_0 := cell_of q4w8 0 rfl
          have y4_1 := cell_of q4w8 1 rfl
          have y5_0 := cell_of q5w8 0 rfl
          have y5_1 := cell_of q5w8 1 rfl
          go_wp2_with fail
          clear y3_0 y3_1 y4_0 y4_1 y5_0 y5_1
          refine (Cmp_ok _ _ a c w8 n3w8 n5w8).mono ?_
          rintro e w9 ⟨rfl, hbw9⟩
          have q3w9 := (hbw9.block _ (Array.getElem?_eq_some_iff.1 q3w8).1).trans q3w8
          have n3w9 := n3w8.later hbw9
          have q4w9 := (hbw9.block _ (Array.getElem?_eq_some_iff.1 q4w8).1).trans q4w8
          have n4w9 := n4w8.later hbw9
          have q5w9 := (hbw9.block _ (Array.getElem?_eq_some_iff.1 q5w8).1).trans q5w8
          have n5w9 := n5w8.later hbw9
          have hBXw9 := hBXw8.trans (hbw9.mono hBXw8.size)
          rw [cmp_tr HO.out HP.out]
          go_wp2
          go_ret
          exact ⟨by simp, hBXw9⟩
        · have hne : (o != p) = true := bne_iff_ne.2 hpo
          go_wp2
          go_ret
          exact ⟨rfl, hBXw8⟩
  · -- not usable
    obtain ⟨sa, rfl, hLa⟩ := hA
    obtain ⟨pa, la, ca, rfl⟩ := hLa.form
    obtain ⟨sb, rfl, hLb⟩ := hB
    obtain ⟨pb, lb, cb, rfl⟩ := hLb.form
    obtain ⟨sc, rfl, hLc⟩ := hC
    obtain ⟨pc, lc, cc, rfl⟩ := hLc.form
    obtain ⟨w3, hw3⟩ : ∃ x, x = (((w.alloc (.cells #[.bool na, .slice pa la ca] 24)).alloc (.cells #[.bool nb, .slice pb lb cb] 24)).alloc (.cells #[.bool nc, .slice pc lc cc] 24)) := ⟨_, rfl⟩
    have hB3 : Below w.heap.size w w3 := by rw [hw3]; exact (((Below.refl _ w).alloc (by omega) _).alloc (by simp) _).alloc (by simp; omega) _
    have hs3 : w3.heap.size = w.heap.size + 3 := by rw [hw3]; simp
    obtain ⟨q0, q1, q2⟩ := alloc3 w (.cells #[.bool na, .slice pa la ca] 24) (.cells #[.bool nb, .slice pb lb cb] 24) (.cells #[.bool nc, .slice pc lc cc] 24)
    rw [← hw3] at q0 q1 q2
    have haw := awake_ok w3 (htab.below' hB3)
    have HW := Lib.hid hw3
    clear hw3
    go_enter Tryd.func9, Tryd.ntmps9
    go_wp2_with fail
    rw [← HW.out]
    refine haw.mono ?_
    rintro e w4 ⟨rfl, hb4⟩
    have hz4 := hb4.size
    have r0 := (hb4.block _ (Array.getElem?_eq_some_iff.1 q0).1).trans q0
    have d0 := cell_of r0 0 rfl
    have d1 := cell_of r0 1 rfl
    have r1 := (hb4.block _ (Array.getElem?_eq_some_iff.1 q1).1).trans q1
    have d2 := cell_of r1 0 rfl
    have d3 := cell_of r1 1 rfl
    have r2 := (hb4.block _ (Array.getElem?_eq_some_iff.1 q2).1).trans q2
    have d4 := cell_of r2 0 rfl
    have d5 := cell_of r2 1 rfl
    go_wp2_with fail
    obtain ⟨w5, hw5⟩ : ∃ x, x = w4.alloc (.cells #[.bool na, .slice pa la ca, .bool nb, .slice pb lb cb, .bool nc, .slice pc lc cc] 24) := ⟨_, rfl⟩
    rw [← hw5]
    have hb5 : Below w4.heap.size w4 w5 := by rw [hw5]; exact (Below.refl _ _).alloc (Nat.le_refl _) _
    have qg : w5.heap[w4.heap.size]? = some (.cells #[.bool na, .slice pa la ca, .bool nb, .slice pb lb cb, .bool nc, .slice pc lc cc] 24) := by rw [hw5]; exact alloc_new _ _ rfl
    have HW5 := Lib.hid hw5
    clear hw5 d0 d1 d2 d3 d4 d5
    have hB5 : Below w.heap.size w w5 := hB3.trans ((hb4.trans (hb5.mono hb4.size)).mono hB3.size)
    refine (usable3 w4.heap.size 200 na nb nc _ _ _ A B C w5 (Array.getElem?_eq_some_iff.1 qg).1 (by omega) hla hlb hlc qg ((hLa.below hB5).mono hB5.size) ((hLb.below hB5).mono hB5.size) ((hLc.below hB5).mono hB5.size) false ?_).mono ?_
    · exact ⟨fun h => (by cases h), fun h => absurd h hu⟩
    rintro e w6 ⟨rfl, hb6⟩
    have hB6 : Below w.heap.size w w6 := hB5.trans (hb6.mono hB5.size)
    go_wp2
    go_ret
    exact ⟨rfl, hB6⟩

end Go.Proofs.YtbaiohjladddlaaDoor
