import Derived.Test.YtbaiohjladddlaaDoorL7
/- The law WholeRing, walked. -/
namespace Go.Proofs.YtbaiohjladddlaaDoor
open Go.RowKit Go.WM Go.WR
attribute [local go_sem] Oper.semAt_some

set_option maxRecDepth 100000 in
set_option maxHeartbeats 4000000 in
theorem Ring_any (va vb vc : Value) (na nb nc : Bool) (A B C : List Int) (w : World) (hA : Wr w.heap.size w va na A) (hB : Wr w.heap.size w vb nb B) (hC : Wr w.heap.size w vc nc C) (hla : A.length ≤ 140737488355328) (hlb : B.length ≤ 140737488355328) (hlc : C.length ≤ 140737488355328) (hma : Lm A) (hmb : Lm B) (hmc : Lm C) (htab : Tab w) : Calls Tryd.prog 6 #[va, vb, vc] w (BoolP true w) := by
  by_cases hu : (A.length ≤ 100 ∧ okB na A = true) ∧ (B.length ≤ 100 ∧ okB nb B = true) ∧ (C.length ≤ 100 ∧ okB nc C = true)
  · -- usable
    obtain ⟨⟨hua, hoa⟩, ⟨hub, hob⟩, ⟨huc, hoc⟩⟩ := hu
    obtain ⟨a, hNa, hSa⟩ := num_of_ok 1 hA (by omega) hoa hma
    obtain ⟨b, hNb, hSb⟩ := num_of_ok 1 hB (by omega) hob hmb
    obtain ⟨c, hNc, hSc⟩ := num_of_ok 1 hC (by omega) hoc hmc
    obtain ⟨sa, rfl, hLa⟩ := hA
    obtain ⟨pa, la, ca, rfl⟩ := hLa.form
    obtain ⟨sb, rfl, hLb⟩ := hB
    obtain ⟨pb, lb, cb, rfl⟩ := hLb.form
    obtain ⟨sc, rfl, hLc⟩ := hC
    obtain ⟨pc, lc, cc, rfl⟩ := hLc.form
    obtain ⟨w3, hw3⟩ : ∃ x, x = (((w.alloc (.cells #[.bool na, .slice pa la ca] 24)).alloc (.cells #[.bool nb, .slice pb lb cb] 24)).alloc (.cells #[.bool nc, .slice pc lc cc] 24)) := ⟨_, rfl⟩
    have hB3 : Below w.heap.size w w3 := by rw [hw3]; exact (((Below.refl _ w).alloc (by omega) _).alloc (by simp) _).alloc (by simp; omega) _
    have hs3 : w3.heap.size = w.heap.size + 3 := by rw [hw3]; simp
    obtain ⟨q0, q1, q2⟩ := alloc3 w (.cells #[.bool na, .slice pa la ca] 24) (.cells #[.bool nb, .slice pb lb cb] 24) (.cells #[.bool nc, .slice pc lc cc] 24)
    rw [← hw3] at q0 q1 q2
    have haw := awake_ok w3 (htab.below' hB3)
    have HW := Lib.hid hw3
    clear hw3
    go_enter Tryd.func6, Tryd.ntmps6
    go_wp2_with fail
    rw [← HW.out]
    refine haw.mono ?_
    rintro e w4 ⟨rfl, hb4⟩
    have hz4 := hb4.size
    have r0 := (hb4.block _ (Array.getElem?_eq_some_iff.1 q0).1).trans q0
    have d0 := cell_of r0 0 rfl
    have d1 := cell_of r0 1 rfl
    have r1 := (hb4.block _ (Array.getElem?_eq_some_iff.1 q1).1).trans q1
    have d2 := cell_of r1 0 rfl
    have d3 := cell_of r1 1 rfl
    have r2 := (hb4.block _ (Array.getElem?_eq_some_iff.1 q2).1).trans q2
    have d4 := cell_of r2 0 rfl
    have d5 := cell_of r2 1 rfl
    go_wp2_with fail
    obtain ⟨w5, hw5⟩ : ∃ x, x = w4.alloc (.cells #[.bool na, .slice pa la ca, .bool nb, .slice pb lb cb, .bool nc, .slice pc lc cc] 24) := ⟨_, rfl⟩
    rw [← hw5]
    have hb5 : Below w4.heap.size w4 w5 := by rw [hw5]; exact (Below.refl _ _).alloc (Nat.le_refl _) _
    have qg : w5.heap[w4.heap.size]? = some (.cells #[.bool na, .slice pa la ca, .bool nb, .slice pb lb cb, .bool nc, .slice pc lc cc] 24) := by rw [hw5]; exact alloc_new _ _ rfl
    have HW5 := Lib.hid hw5
    clear hw5 d0 d1 d2 d3 d4 d5
    have hB5 : Below w.heap.size w w5 := hB3.trans ((hb4.trans (hb5.mono hb4.size)).mono hB3.size)
    refine (usable3 w4.heap.size 100 na nb nc _ _ _ A B C w5 (Array.getElem?_eq_some_iff.1 qg).1 (by omega) hla hlb hlc qg ((hLa.below hB5).mono hB5.size) ((hLb.below hB5).mono hB5.size) ((hLc.below hB5).mono hB5.size) true ?_).mono ?_
    · exact ⟨fun _ => ⟨⟨hua, hoa⟩, ⟨hub, hob⟩, ⟨huc, hoc⟩⟩, fun _ => rfl⟩
    rintro e w6 ⟨rfl, hb6⟩
    have hB6 : Below w.heap.size w w6 := hB5.trans (hb6.mono hB5.size)
    have t0 := (hb6.block _ (Array.getElem?_eq_some_iff.1 ((hb5.block _ (Array.getElem?_eq_some_iff.1 r0).1).trans r0)).1).trans ((hb5.block _ (Array.getElem?_eq_some_iff.1 r0).1).trans r0)
    have ma : Wn w6.heap.size w6 (.agg #[.bool na, .slice pa la ca]) a := hNa.later hB6
    have t1 := (hb6.block _ (Array.getElem?_eq_some_iff.1 ((hb5.block _ (Array.getElem?_eq_some_iff.1 r1).1).trans r1)).1).trans ((hb5.block _ (Array.getElem?_eq_some_iff.1 r1).1).trans r1)
    have mb : Wn w6.heap.size w6 (.agg #[.bool nb, .slice pb lb cb]) b := hNb.later hB6
    have t2 := (hb6.block _ (Array.getElem?_eq_some_iff.1 ((hb5.block _ (Array.getElem?_eq_some_iff.1 r2).1).trans r2)).1).trans ((hb5.block _ (Array.getElem?_eq_some_iff.1 r2).1).trans r2)
    have mc : Wn w6.heap.size w6 (.agg #[.bool nc, .slice pc lc cc]) c := hNc.later hB6
    clear r0 r1 r2 q0 q1 q2 qg hz4 hs3 hNa hNb hNc hLa hLb hLc hua hoa hub hob huc hoc
    go_wp2
    refine region_kinds (n := 9) [.num a, .num b, .num (a + b), .num b, .num a, .num (b + a), .val (.bool true), .val (.bool false), .val (.bool false), .num a, .num b, .num (a * b), .num b, .num a, .num (b * a), .val (.bool true), .val (.bool false), .val (.bool false), .val (.bool false), .num a, .num b, .num (a + b), .num c, .num ((a + b) + c), .num a, .num b, .num c, .num (b + c), .num (a + (b + c)), .val (.bool true), .val (.bool false), .val (.bool false), .val (.bool false), .num a, .num b, .num (a * b), .num c, .num ((a * b) * c), .num a, .num b, .num c, .num (b * c), .num (a * (b * c)), .val (.bool true), .val (.bool false), .val (.bool false)] [(0, 15), (1, 16), (2, 17), (3, 18), (4, 19), (5, 20), (6, 21), (7, 22), (8, 23), (9, 24), (10, 25), (11, 26), (12, 27), (13, 28), (14, 29), (15, 30), (16, 31), (17, 32), (18, 33), (19, 34), (20, 35), (21, 36), (22, 37), (23, 38), (24, 39), (25, 40), (26, 41), (27, 42), (28, 43), (29, 44), (30, 45), (31, 46), (32, 47), (33, 48), (34, 49), (35, 50), (36, 51), (37, 52), (38, 53), (39, 54), (40, 55), (41, 56), (42, 57), (43, 58), (44, 59), (45, 60)] (by kernel_rfl) (by kernel_rfl) (by kernel_rfl) ?hstep1 ?hend1
    case hstep1 =>
      intro i o ho a' W hI hM
      match i, ho with
      | 0, ho =>
        cases ho
        refine stepK_of (wanted_none rfl) ?_
        exact opLoad rfl (hM.old 3 rfl) ((hI.block _ (Array.getElem?_eq_some_iff.1 t0).1).trans t0) ⟨ma.later hI, Below.refl _ _⟩
      | 1, ho =>
        cases ho
        refine stepK_of (wanted_none rfl) ?_
        exact opLoad rfl (hM.old 4 rfl) ((hI.block _ (Array.getElem?_eq_some_iff.1 t1).1).trans t1) ⟨mb.later hI, Below.refl _ _⟩
      | 2, ho =>
        cases ho
        refine stepK_of (wanted_none rfl) ?_
        exact opCall2 rfl may16 rfl rfl (numK (sum_ok _ _ a b W (hM.dep ⟨0, .data⟩ (by simp) rfl 15 rfl) (hM.dep ⟨1, .data⟩ (by simp) rfl 16 rfl) (Sz.cap (Sz.add (j := 0) (k := 1) hSa hSb) (by decide) (by decide))))
      | 3, ho =>
        cases ho
        refine stepK_of (wanted_none rfl) ?_
        exact opLoad rfl (hM.old 4 rfl) ((hI.block _ (Array.getElem?_eq_some_iff.1 t1).1).trans t1) ⟨mb.later hI, Below.refl _ _⟩
      | 4, ho =>
        cases ho
        refine stepK_of (wanted_none rfl) ?_
        exact opLoad rfl (hM.old 3 rfl) ((hI.block _ (Array.getElem?_eq_some_iff.1 t0).1).trans t0) ⟨ma.later hI, Below.refl _ _⟩
      | 5, ho =>
        cases ho
        refine stepK_of (wanted_none rfl) ?_
        exact opCall2 rfl may16 rfl rfl (numK (sum_ok _ _ b a W (hM.dep ⟨3, .data⟩ (by simp) rfl 18 rfl) (hM.dep ⟨4, .data⟩ (by simp) rfl 19 rfl) (Sz.cap (Sz.add (j := 0) (k := 1) hSb hSa) (by decide) (by decide))))
      | 6, ho =>
        cases ho
        refine stepK_of (wanted_none rfl) ?_
        exact opCall2 rfl may18 rfl rfl (boolK (equal_true _ _ (a + b) (b + a) W (hM.dep ⟨2, .data⟩ (by simp) rfl 17 rfl) (hM.dep ⟨5, .data⟩ (by simp) rfl 20 rfl) (Int.add_comm a b)))
      | 7, ho =>
        cases ho
        refine stepK_of (wanted_none rfl) ?_
        exact opNot rfl (hM.dep ⟨6, .data⟩ (by simp) rfl 21 rfl) ⟨rfl, Below.refl _ _⟩
      | 8, ho =>
        cases ho
        refine stepK_of (wanted_none rfl) ?_
        exact opMove rfl (hM.dep ⟨7, .data⟩ (by simp) rfl 22 rfl) ⟨rfl, Below.refl _ _⟩
      | 9, ho =>
        cases ho
        refine stepK_of (wantedK hM rfl rfl (hM.dep ⟨8, .guard⟩ (by simp) rfl 23 rfl) rfl (show 23 < 124 by decide)) ?_
        exact opLoad rfl (hM.old 3 rfl) ((hI.block _ (Array.getElem?_eq_some_iff.1 t0).1).trans t0) ⟨ma.later hI, Below.refl _ _⟩
      | 10, ho =>
        cases ho
        refine stepK_of (wantedK hM rfl rfl (hM.dep ⟨8, .guard⟩ (by simp) rfl 23 rfl) rfl (show 23 < 124 by decide)) ?_
        exact opLoad rfl (hM.old 4 rfl) ((hI.block _ (Array.getElem?_eq_some_iff.1 t1).1).trans t1) ⟨mb.later hI, Below.refl _ _⟩
      | 11, ho =>
        cases ho
        refine stepK_of (wantedK hM rfl rfl (hM.dep ⟨8, .chain⟩ (by simp) rfl 23 rfl) rfl (show 23 < 124 by decide)) ?_
        exact opCall2 rfl may17 rfl rfl (numK (product_ok _ _ a b W (hM.dep ⟨9, .data⟩ (by simp) rfl 24 rfl) (hM.dep ⟨10, .data⟩ (by simp) rfl 25 rfl) (Sz.cap (Sz.mul hSa hSb) (by decide) (by decide))))
      | 12, ho =>
        cases ho
        refine stepK_of (wantedK hM rfl rfl (hM.dep ⟨8, .guard⟩ (by simp) rfl 23 rfl) rfl (show 23 < 124 by decide)) ?_
        exact opLoad rfl (hM.old 4 rfl) ((hI.block _ (Array.getElem?_eq_some_iff.1 t1).1).trans t1) ⟨mb.later hI, Below.refl _ _⟩
      | 13, ho =>
        cases ho
        refine stepK_of (wantedK hM rfl rfl (hM.dep ⟨8, .guard⟩ (by simp) rfl 23 rfl) rfl (show 23 < 124 by decide)) ?_
        exact opLoad rfl (hM.old 3 rfl) ((hI.block _ (Array.getElem?_eq_some_iff.1 t0).1).trans t0) ⟨ma.later hI, Below.refl _ _⟩
      | 14, ho =>
        cases ho
        refine stepK_of (wantedK hM rfl rfl (hM.dep ⟨8, .guard⟩ (by simp) rfl 23 rfl) rfl (show 23 < 124 by decide)) ?_
        exact opCall2 rfl may17 rfl rfl (numK (product_ok _ _ b a W (hM.dep ⟨12, .data⟩ (by simp) rfl 27 rfl) (hM.dep ⟨13, .data⟩ (by simp) rfl 28 rfl) (Sz.cap (Sz.mul hSb hSa) (by decide) (by decide))))
      | 15, ho =>
        cases ho
        refine stepK_of (wantedK hM rfl rfl (hM.dep ⟨8, .guard⟩ (by simp) rfl 23 rfl) rfl (show 23 < 124 by decide)) ?_
        exact opCall2 rfl may18 rfl rfl (boolK (equal_true _ _ (a * b) (b * a) W (hM.dep ⟨11, .data⟩ (by simp) rfl 26 rfl) (hM.dep ⟨14, .data⟩ (by simp) rfl 29 rfl) (Int.mul_comm a b)))
      | 16, ho =>
        cases ho
        refine stepK_of (wantedK hM rfl rfl (hM.dep ⟨8, .guard⟩ (by simp) rfl 23 rfl) rfl (show 23 < 124 by decide)) ?_
        exact opNot rfl (hM.dep ⟨15, .data⟩ (by simp) rfl 30 rfl) ⟨rfl, Below.refl _ _⟩
      | 17, ho =>
        cases ho
        refine stepK_of (wanted_none rfl) ?_
        exact opPick rfl (hM.dep ⟨8, .data⟩ (by simp) rfl 23 rfl) (hM.dep ⟨16, .data⟩ (by simp) rfl 31 rfl) ⟨rfl, Below.refl _ _⟩
      | 18, ho =>
        cases ho
        refine stepK_of (wanted_none rfl) ?_
        exact opMove rfl (hM.dep ⟨17, .data⟩ (by simp) rfl 32 rfl) ⟨rfl, Below.refl _ _⟩
      | 19, ho =>
        cases ho
        refine stepK_of (wantedK hM rfl rfl (hM.dep ⟨18, .guard⟩ (by simp) rfl 33 rfl) rfl (show 33 < 124 by decide)) ?_
        exact opLoad rfl (hM.old 3 rfl) ((hI.block _ (Array.getElem?_eq_some_iff.1 t0).1).trans t0) ⟨ma.later hI, Below.refl _ _⟩
      | 20, ho =>
        cases ho
        refine stepK_of (wantedK hM rfl rfl (hM.dep ⟨18, .guard⟩ (by simp) rfl 33 rfl) rfl (show 33 < 124 by decide)) ?_
        exact opLoad rfl (hM.old 4 rfl) ((hI.block _ (Array.getElem?_eq_some_iff.1 t1).1).trans t1) ⟨mb.later hI, Below.refl _ _⟩
      | 21, ho =>
        cases ho
        refine stepK_of (wantedK hM rfl rfl (hM.dep ⟨18, .chain⟩ (by simp) rfl 33 rfl) rfl (show 33 < 124 by decide)) ?_
        exact opCall2 rfl may16 rfl rfl (numK (sum_ok _ _ a b W (hM.dep ⟨19, .data⟩ (by simp) rfl 34 rfl) (hM.dep ⟨20, .data⟩ (by simp) rfl 35 rfl) (Sz.cap (Sz.add (j := 0) (k := 1) hSa hSb) (by decide) (by decide))))
      | 22, ho =>
        cases ho
        refine stepK_of (wantedK hM rfl rfl (hM.dep ⟨18, .guard⟩ (by simp) rfl 33 rfl) rfl (show 33 < 124 by decide)) ?_
        exact opLoad rfl (hM.old 5 rfl) ((hI.block _ (Array.getElem?_eq_some_iff.1 t2).1).trans t2) ⟨mc.later hI, Below.refl _ _⟩
      | 23, ho =>
        cases ho
        refine stepK_of (wantedK hM rfl rfl (hM.dep ⟨18, .guard⟩ (by simp) rfl 33 rfl) rfl (show 33 < 124 by decide)) ?_
        exact opCall2 rfl may16 rfl rfl (numK (sum_ok _ _ (a + b) c W (hM.dep ⟨21, .data⟩ (by simp) rfl 36 rfl) (hM.dep ⟨22, .data⟩ (by simp) rfl 37 rfl) (Sz.cap (Sz.add (j := 1) (k := 1) (Sz.add (j := 0) (k := 1) hSa hSb) (hSc.up (by decide) (by decide))) (by decide) (by decide))))
      | 24, ho =>
        cases ho
        refine stepK_of (wantedK hM rfl rfl (hM.dep ⟨18, .guard⟩ (by simp) rfl 33 rfl) rfl (show 33 < 124 by decide)) ?_
        exact opLoad rfl (hM.old 3 rfl) ((hI.block _ (Array.getElem?_eq_some_iff.1 t0).1).trans t0) ⟨ma.later hI, Below.refl _ _⟩
      | 25, ho =>
        cases ho
        refine stepK_of (wantedK hM rfl rfl (hM.dep ⟨18, .guard⟩ (by simp) rfl 33 rfl) rfl (show 33 < 124 by decide)) ?_
        exact opLoad rfl (hM.old 4 rfl) ((hI.block _ (Array.getElem?_eq_some_iff.1 t1).1).trans t1) ⟨mb.later hI, Below.refl _ _⟩
      | 26, ho =>
        cases ho
        refine stepK_of (wantedK hM rfl rfl (hM.dep ⟨18, .guard⟩ (by simp) rfl 33 rfl) rfl (show 33 < 124 by decide)) ?_
        exact opLoad rfl (hM.old 5 rfl) ((hI.block _ (Array.getElem?_eq_some_iff.1 t2).1).trans t2) ⟨mc.later hI, Below.refl _ _⟩
      | 27, ho =>
        cases ho
        refine stepK_of (wantedK hM rfl rfl (hM.dep ⟨18, .guard⟩ (by simp) rfl 33 rfl) rfl (show 33 < 124 by decide)) ?_
        exact opCall2 rfl may16 rfl rfl (numK (sum_ok _ _ b c W (hM.dep ⟨25, .data⟩ (by simp) rfl 40 rfl) (hM.dep ⟨26, .data⟩ (by simp) rfl 41 rfl) (Sz.cap (Sz.add (j := 0) (k := 1) hSb hSc) (by decide) (by decide))))
      | 28, ho =>
        cases ho
        refine stepK_of (wantedK hM rfl rfl (hM.dep ⟨18, .guard⟩ (by simp) rfl 33 rfl) rfl (show 33 < 124 by decide)) ?_
        exact opCall2 rfl may16 rfl rfl (numK (sum_ok _ _ a (b + c) W (hM.dep ⟨24, .data⟩ (by simp) rfl 39 rfl) (hM.dep ⟨27, .data⟩ (by simp) rfl 42 rfl) (Sz.cap (Sz.add (j := 1) (k := 1) (hSa.up (by decide) (by decide)) (Sz.add (j := 0) (k := 1) hSb hSc)) (by decide) (by decide))))
      | 29, ho =>
        cases ho
        refine stepK_of (wantedK hM rfl rfl (hM.dep ⟨18, .guard⟩ (by simp) rfl 33 rfl) rfl (show 33 < 124 by decide)) ?_
        exact opCall2 rfl may18 rfl rfl (boolK (equal_true _ _ ((a + b) + c) (a + (b + c)) W (hM.dep ⟨23, .data⟩ (by simp) rfl 38 rfl) (hM.dep ⟨28, .data⟩ (by simp) rfl 43 rfl) (Int.add_assoc a b c)))
      | 30, ho =>
        cases ho
        refine stepK_of (wantedK hM rfl rfl (hM.dep ⟨18, .guard⟩ (by simp) rfl 33 rfl) rfl (show 33 < 124 by decide)) ?_
        exact opNot rfl (hM.dep ⟨29, .data⟩ (by simp) rfl 44 rfl) ⟨rfl, Below.refl _ _⟩
      | 31, ho =>
        cases ho
        refine stepK_of (wanted_none rfl) ?_
        exact opPick rfl (hM.dep ⟨18, .data⟩ (by simp) rfl 33 rfl) (hM.dep ⟨30, .data⟩ (by simp) rfl 45 rfl) ⟨rfl, Below.refl _ _⟩
      | 32, ho =>
        cases ho
        refine stepK_of (wanted_none rfl) ?_
        exact opMove rfl (hM.dep ⟨31, .data⟩ (by simp) rfl 46 rfl) ⟨rfl, Below.refl _ _⟩
      | 33, ho =>
        cases ho
        refine stepK_of (wantedK hM rfl rfl (hM.dep ⟨32, .guard⟩ (by simp) rfl 47 rfl) rfl (show 47 < 124 by decide)) ?_
        exact opLoad rfl (hM.old 3 rfl) ((hI.block _ (Array.getElem?_eq_some_iff.1 t0).1).trans t0) ⟨ma.later hI, Below.refl _ _⟩
      | 34, ho =>
        cases ho
        refine stepK_of (wantedK hM rfl rfl (hM.dep ⟨32, .guard⟩ (by simp) rfl 47 rfl) rfl (show 47 < 124 by decide)) ?_
        exact opLoad rfl (hM.old 4 rfl) ((hI.block _ (Array.getElem?_eq_some_iff.1 t1).1).trans t1) ⟨mb.later hI, Below.refl _ _⟩
      | 35, ho =>
        cases ho
        refine stepK_of (wantedK hM rfl rfl (hM.dep ⟨32, .chain⟩ (by simp) rfl 47 rfl) rfl (show 47 < 124 by decide)) ?_
        exact opCall2 rfl may17 rfl rfl (numK (product_ok _ _ a b W (hM.dep ⟨33, .data⟩ (by simp) rfl 48 rfl) (hM.dep ⟨34, .data⟩ (by simp) rfl 49 rfl) (Sz.cap (Sz.mul hSa hSb) (by decide) (by decide))))
      | 36, ho =>
        cases ho
        refine stepK_of (wantedK hM rfl rfl (hM.dep ⟨32, .guard⟩ (by simp) rfl 47 rfl) rfl (show 47 < 124 by decide)) ?_
        exact opLoad rfl (hM.old 5 rfl) ((hI.block _ (Array.getElem?_eq_some_iff.1 t2).1).trans t2) ⟨mc.later hI, Below.refl _ _⟩
      | 37, ho =>
        cases ho
        refine stepK_of (wantedK hM rfl rfl (hM.dep ⟨32, .guard⟩ (by simp) rfl 47 rfl) rfl (show 47 < 124 by decide)) ?_
        exact opCall2 rfl may17 rfl rfl (numK (product_ok _ _ (a * b) c W (hM.dep ⟨35, .data⟩ (by simp) rfl 50 rfl) (hM.dep ⟨36, .data⟩ (by simp) rfl 51 rfl) (Sz.cap (Sz.mul (Sz.mul hSa hSb) hSc) (by decide) (by decide))))
      | 38, ho =>
        cases ho
        refine stepK_of (wantedK hM rfl rfl (hM.dep ⟨32, .guard⟩ (by simp) rfl 47 rfl) rfl (show 47 < 124 by decide)) ?_
        exact opLoad rfl (hM.old 3 rfl) ((hI.block _ (Array.getElem?_eq_some_iff.1 t0).1).trans t0) ⟨ma.later hI, Below.refl _ _⟩
      | 39, ho =>
        cases ho
        refine stepK_of (wantedK hM rfl rfl (hM.dep ⟨32, .guard⟩ (by simp) rfl 47 rfl) rfl (show 47 < 124 by decide)) ?_
        exact opLoad rfl (hM.old 4 rfl) ((hI.block _ (Array.getElem?_eq_some_iff.1 t1).1).trans t1) ⟨mb.later hI, Below.refl _ _⟩
      | 40, ho =>
        cases ho
        refine stepK_of (wantedK hM rfl rfl (hM.dep ⟨32, .guard⟩ (by simp) rfl 47 rfl) rfl (show 47 < 124 by decide)) ?_
        exact opLoad rfl (hM.old 5 rfl) ((hI.block _ (Array.getElem?_eq_some_iff.1 t2).1).trans t2) ⟨mc.later hI, Below.refl _ _⟩
      | 41, ho =>
        cases ho
        refine stepK_of (wantedK hM rfl rfl (hM.dep ⟨32, .guard⟩ (by simp) rfl 47 rfl) rfl (show 47 < 124 by decide)) ?_
        exact opCall2 rfl may17 rfl rfl (numK (product_ok _ _ b c W (hM.dep ⟨39, .data⟩ (by simp) rfl 54 rfl) (hM.dep ⟨40, .data⟩ (by simp) rfl 55 rfl) (Sz.cap (Sz.mul hSb hSc) (by decide) (by decide))))
      | 42, ho =>
        cases ho
        refine stepK_of (wantedK hM rfl rfl (hM.dep ⟨32, .guard⟩ (by simp) rfl 47 rfl) rfl (show 47 < 124 by decide)) ?_
        exact opCall2 rfl may17 rfl rfl (numK (product_ok _ _ a (b * c) W (hM.dep ⟨38, .data⟩ (by simp) rfl 53 rfl) (hM.dep ⟨41, .data⟩ (by simp) rfl 56 rfl) (Sz.cap (Sz.mul hSa (Sz.mul hSb hSc)) (by decide) (by decide))))
      | 43, ho =>
        cases ho
        refine stepK_of (wantedK hM rfl rfl (hM.dep ⟨32, .guard⟩ (by simp) rfl 47 rfl) rfl (show 47 < 124 by decide)) ?_
        exact opCall2 rfl may18 rfl rfl (boolK (equal_true _ _ ((a * b) * c) (a * (b * c)) W (hM.dep ⟨37, .data⟩ (by simp) rfl 52 rfl) (hM.dep ⟨42, .data⟩ (by simp) rfl 57 rfl) (Int.mul_assoc a b c)))
      | 44, ho =>
        cases ho
        refine stepK_of (wantedK hM rfl rfl (hM.dep ⟨32, .guard⟩ (by simp) rfl 47 rfl) rfl (show 47 < 124 by decide)) ?_
        exact opNot rfl (hM.dep ⟨43, .data⟩ (by simp) rfl 58 rfl) ⟨rfl, Below.refl _ _⟩
      | 45, ho =>
        cases ho
        refine stepK_of (wanted_none rfl) ?_
        exact opPick rfl (hM.dep ⟨32, .data⟩ (by simp) rfl 47 rfl) (hM.dep ⟨44, .data⟩ (by simp) rfl 59 rfl) ⟨rfl, Below.refl _ _⟩
      | k + 46, ho => simp at ho
    case hend1 =>
      intro u1 W1 hI1 hV1
      have e1_45 : u1 45 = (.bool false) := hV1 45 60 rfl
      simp only [putAll, List.foldl_cons, List.foldl_nil, List.setIfInBounds_toArray, List.set_cons_zero, List.set_cons_succ, e1_45]
      clear e1_45 hV1
      have q3_1 := (hI1.block _ (Array.getElem?_eq_some_iff.1 t0).1).trans t0
      have n3_1 := ma.later hI1
      have q4_1 := (hI1.block _ (Array.getElem?_eq_some_iff.1 t1).1).trans t1
      have n4_1 := mb.later hI1
      have q5_1 := (hI1.block _ (Array.getElem?_eq_some_iff.1 t2).1).trans t2
      have n5_1 := mc.later hI1
      have hBW1 := hB6.trans (hI1.mono hB6.size)
      go_wp2
      refine region_kinds (n := 9) [.num a, .num b, .num c, .num (b + c), .num (a * (b + c)), .num a, .num b, .num (a * b), .num a, .num c, .num (a * c), .num ((a * b) + (a * c)), .val (.bool true), .val (.bool false), .val (.bool false), .num a, .num (0 : Int), .num (a + (0 : Int)), .num a, .val (.bool true), .val (.bool false), .val (.bool false), .val (.bool false), .num a, .num (1 : Int), .num (a * (1 : Int)), .num a, .val (.bool true), .val (.bool false), .val (.bool false), .val (.bool false), .num a, .num (0 : Int), .num (a * (0 : Int)), .num (0 : Int), .val (.bool true), .val (.bool false), .val (.bool false)] [(0, 61), (1, 62), (2, 63), (3, 64), (4, 65), (5, 66), (6, 67), (7, 68), (8, 69), (9, 70), (10, 71), (11, 72), (12, 73), (13, 74), (14, 75), (15, 76), (16, 77), (17, 78), (18, 79), (19, 80), (20, 81), (21, 82), (22, 83), (23, 84), (24, 85), (25, 86), (26, 87), (27, 88), (28, 89), (29, 90), (30, 91), (31, 92), (32, 93), (33, 94), (34, 95), (35, 96), (36, 97), (37, 98)] (by kernel_rfl) (by kernel_rfl) (by kernel_rfl) ?hstep2 ?hend2
      case hstep2 =>
        intro i o ho a' W hI hM
        match i, ho with
        | 0, ho =>
          cases ho
          refine stepK_of (wanted_none rfl) ?_
          exact opLoad rfl (hM.old 3 rfl) ((hI.block _ (Array.getElem?_eq_some_iff.1 q3_1).1).trans q3_1) ⟨n3_1.later hI, Below.refl _ _⟩
        | 1, ho =>
          cases ho
          refine stepK_of (wanted_none rfl) ?_
          exact opLoad rfl (hM.old 4 rfl) ((hI.block _ (Array.getElem?_eq_some_iff.1 q4_1).1).trans q4_1) ⟨n4_1.later hI, Below.refl _ _⟩
        | 2, ho =>
          cases ho
          refine stepK_of (wanted_none rfl) ?_
          exact opLoad rfl (hM.old 5 rfl) ((hI.block _ (Array.getElem?_eq_some_iff.1 q5_1).1).trans q5_1) ⟨n5_1.later hI, Below.refl _ _⟩
        | 3, ho =>
          cases ho
          refine stepK_of (wanted_none rfl) ?_
          exact opCall2 rfl may16 rfl rfl (numK (sum_ok _ _ b c W (hM.dep ⟨1, .data⟩ (by simp) rfl 62 rfl) (hM.dep ⟨2, .data⟩ (by simp) rfl 63 rfl) (Sz.cap (Sz.add (j := 0) (k := 1) hSb hSc) (by decide) (by decide))))
        | 4, ho =>
          cases ho
          refine stepK_of (wanted_none rfl) ?_
          exact opCall2 rfl may17 rfl rfl (numK (product_ok _ _ a (b + c) W (hM.dep ⟨0, .data⟩ (by simp) rfl 61 rfl) (hM.dep ⟨3, .data⟩ (by simp) rfl 64 rfl) (Sz.cap (Sz.mul hSa (Sz.add (j := 0) (k := 1) hSb hSc)) (by decide) (by decide))))
        | 5, ho =>
          cases ho
          refine stepK_of (wanted_none rfl) ?_
          exact opLoad rfl (hM.old 3 rfl) ((hI.block _ (Array.getElem?_eq_some_iff.1 q3_1).1).trans q3_1) ⟨n3_1.later hI, Below.refl _ _⟩
        | 6, ho =>
          cases ho
          refine stepK_of (wanted_none rfl) ?_
          exact opLoad rfl (hM.old 4 rfl) ((hI.block _ (Array.getElem?_eq_some_iff.1 q4_1).1).trans q4_1) ⟨n4_1.later hI, Below.refl _ _⟩
        | 7, ho =>
          cases ho
          refine stepK_of (wanted_none rfl) ?_
          exact opCall2 rfl may17 rfl rfl (numK (product_ok _ _ a b W (hM.dep ⟨5, .data⟩ (by simp) rfl 66 rfl) (hM.dep ⟨6, .data⟩ (by simp) rfl 67 rfl) (Sz.cap (Sz.mul hSa hSb) (by decide) (by decide))))
        | 8, ho =>
          cases ho
          refine stepK_of (wanted_none rfl) ?_
          exact opLoad rfl (hM.old 3 rfl) ((hI.block _ (Array.getElem?_eq_some_iff.1 q3_1).1).trans q3_1) ⟨n3_1.later hI, Below.refl _ _⟩
        | 9, ho =>
          cases ho
          refine stepK_of (wanted_none rfl) ?_
          exact opLoad rfl (hM.old 5 rfl) ((hI.block _ (Array.getElem?_eq_some_iff.1 q5_1).1).trans q5_1) ⟨n5_1.later hI, Below.refl _ _⟩
        | 10, ho =>
          cases ho
          refine stepK_of (wanted_none rfl) ?_
          exact opCall2 rfl may17 rfl rfl (numK (product_ok _ _ a c W (hM.dep ⟨8, .data⟩ (by simp) rfl 69 rfl) (hM.dep ⟨9, .data⟩ (by simp) rfl 70 rfl) (Sz.cap (Sz.mul hSa hSc) (by decide) (by decide))))
        | 11, ho =>
          cases ho
          refine stepK_of (wanted_none rfl) ?_
          exact opCall2 rfl may16 rfl rfl (numK (sum_ok _ _ (a * b) (a * c) W (hM.dep ⟨7, .data⟩ (by simp) rfl 68 rfl) (hM.dep ⟨10, .data⟩ (by simp) rfl 71 rfl) (Sz.cap (Sz.add (j := 0) (k := 2) (Sz.mul hSa hSb) (Sz.mul hSa hSc)) (by decide) (by decide))))
        | 12, ho =>
          cases ho
          refine stepK_of (wanted_none rfl) ?_
          exact opCall2 rfl may18 rfl rfl (boolK (equal_true _ _ (a * (b + c)) ((a * b) + (a * c)) W (hM.dep ⟨4, .data⟩ (by simp) rfl 65 rfl) (hM.dep ⟨11, .data⟩ (by simp) rfl 72 rfl) (Int.mul_add a b c)))
        | 13, ho =>
          cases ho
          refine stepK_of (wanted_none rfl) ?_
          exact opNot rfl (hM.dep ⟨12, .data⟩ (by simp) rfl 73 rfl) ⟨rfl, Below.refl _ _⟩
        | 14, ho =>
          cases ho
          refine stepK_of (wanted_none rfl) ?_
          exact opMove rfl (hM.dep ⟨13, .data⟩ (by simp) rfl 74 rfl) ⟨rfl, Below.refl _ _⟩
        | 15, ho =>
          cases ho
          refine stepK_of (wantedK hM rfl rfl (hM.dep ⟨14, .guard⟩ (by simp) rfl 75 rfl) rfl (show 75 < 124 by decide)) ?_
          exact opLoad rfl (hM.old 3 rfl) ((hI.block _ (Array.getElem?_eq_some_iff.1 q3_1).1).trans q3_1) ⟨n3_1.later hI, Below.refl _ _⟩
        | 16, ho =>
          cases ho
          refine stepK_of (wantedK hM rfl rfl (hM.dep ⟨14, .chain⟩ (by simp) rfl 75 rfl) rfl (show 75 < 124 by decide)) ?_
          exact opCall1 rfl may20 rfl (numK (num_ok (0) W (by decide) (by decide)))
        | 17, ho =>
          cases ho
          refine stepK_of (wantedK hM rfl rfl (hM.dep ⟨14, .guard⟩ (by simp) rfl 75 rfl) rfl (show 75 < 124 by decide)) ?_
          exact opCall2 rfl may16 rfl rfl (numK (sum_ok _ _ a (0 : Int) W (hM.dep ⟨15, .data⟩ (by simp) rfl 76 rfl) (hM.dep ⟨16, .data⟩ (by simp) rfl 77 rfl) (Sz.cap (Sz.add (j := 1) (k := 1) (hSa.up (by decide) (by decide)) ((Sz.lit (z := 0) (by decide)).up (by decide) (by decide))) (by decide) (by decide))))
        | 18, ho =>
          cases ho
          refine stepK_of (wantedK hM rfl rfl (hM.dep ⟨14, .guard⟩ (by simp) rfl 75 rfl) rfl (show 75 < 124 by decide)) ?_
          exact opLoad rfl (hM.old 3 rfl) ((hI.block _ (Array.getElem?_eq_some_iff.1 q3_1).1).trans q3_1) ⟨n3_1.later hI, Below.refl _ _⟩
        | 19, ho =>
          cases ho
          refine stepK_of (wantedK hM rfl rfl (hM.dep ⟨14, .guard⟩ (by simp) rfl 75 rfl) rfl (show 75 < 124 by decide)) ?_
          exact opCall2 rfl may18 rfl rfl (boolK (equal_true _ _ (a + (0 : Int)) a W (hM.dep ⟨17, .data⟩ (by simp) rfl 78 rfl) (hM.dep ⟨18, .data⟩ (by simp) rfl 79 rfl) (Int.add_zero a)))
        | 20, ho =>
          cases ho
          refine stepK_of (wantedK hM rfl rfl (hM.dep ⟨14, .guard⟩ (by simp) rfl 75 rfl) rfl (show 75 < 124 by decide)) ?_
          exact opNot rfl (hM.dep ⟨19, .data⟩ (by simp) rfl 80 rfl) ⟨rfl, Below.refl _ _⟩
        | 21, ho =>
          cases ho
          refine stepK_of (wanted_none rfl) ?_
          exact opPick rfl (hM.dep ⟨14, .data⟩ (by simp) rfl 75 rfl) (hM.dep ⟨20, .data⟩ (by simp) rfl 81 rfl) ⟨rfl, Below.refl _ _⟩
        | 22, ho =>
          cases ho
          refine stepK_of (wanted_none rfl) ?_
          exact opMove rfl (hM.dep ⟨21, .data⟩ (by simp) rfl 82 rfl) ⟨rfl, Below.refl _ _⟩
        | 23, ho =>
          cases ho
          refine stepK_of (wantedK hM rfl rfl (hM.dep ⟨22, .guard⟩ (by simp) rfl 83 rfl) rfl (show 83 < 124 by decide)) ?_
          exact opLoad rfl (hM.old 3 rfl) ((hI.block _ (Array.getElem?_eq_some_iff.1 q3_1).1).trans q3_1) ⟨n3_1.later hI, Below.refl _ _⟩
        | 24, ho =>
          cases ho
          refine stepK_of (wantedK hM rfl rfl (hM.dep ⟨22, .chain⟩ (by simp) rfl 83 rfl) rfl (show 83 < 124 by decide)) ?_
          exact opCall1 rfl may20 rfl (numK (num_ok (1) W (by decide) (by decide)))
        | 25, ho =>
          cases ho
          refine stepK_of (wantedK hM rfl rfl (hM.dep ⟨22, .guard⟩ (by simp) rfl 83 rfl) rfl (show 83 < 124 by decide)) ?_
          exact opCall2 rfl may17 rfl rfl (numK (product_ok _ _ a (1 : Int) W (hM.dep ⟨23, .data⟩ (by simp) rfl 84 rfl) (hM.dep ⟨24, .data⟩ (by simp) rfl 85 rfl) (Sz.cap (Sz.mul hSa (Sz.lit (z := 1) (by decide))) (by decide) (by decide))))
        | 26, ho =>
          cases ho
          refine stepK_of (wantedK hM rfl rfl (hM.dep ⟨22, .guard⟩ (by simp) rfl 83 rfl) rfl (show 83 < 124 by decide)) ?_
          exact opLoad rfl (hM.old 3 rfl) ((hI.block _ (Array.getElem?_eq_some_iff.1 q3_1).1).trans q3_1) ⟨n3_1.later hI, Below.refl _ _⟩
        | 27, ho =>
          cases ho
          refine stepK_of (wantedK hM rfl rfl (hM.dep ⟨22, .guard⟩ (by simp) rfl 83 rfl) rfl (show 83 < 124 by decide)) ?_
          exact opCall2 rfl may18 rfl rfl (boolK (equal_true _ _ (a * (1 : Int)) a W (hM.dep ⟨25, .data⟩ (by simp) rfl 86 rfl) (hM.dep ⟨26, .data⟩ (by simp) rfl 87 rfl) (Int.mul_one a)))
        | 28, ho =>
          cases ho
          refine stepK_of (wantedK hM rfl rfl (hM.dep ⟨22, .guard⟩ (by simp) rfl 83 rfl) rfl (show 83 < 124 by decide)) ?_
          exact opNot rfl (hM.dep ⟨27, .data⟩ (by simp) rfl 88 rfl) ⟨rfl, Below.refl _ _⟩
        | 29, ho =>
          cases ho
          refine stepK_of (wanted_none rfl) ?_
          exact opPick rfl (hM.dep ⟨22, .data⟩ (by simp) rfl 83 rfl) (hM.dep ⟨28, .data⟩ (by simp) rfl 89 rfl) ⟨rfl, Below.refl _ _⟩
        | 30, ho =>
          cases ho
          refine stepK_of (wanted_none rfl) ?_
          exact opMove rfl (hM.dep ⟨29, .data⟩ (by simp) rfl 90 rfl) ⟨rfl, Below.refl _ _⟩
        | 31, ho =>
          cases ho
          refine stepK_of (wantedK hM rfl rfl (hM.dep ⟨30, .guard⟩ (by simp) rfl 91 rfl) rfl (show 91 < 124 by decide)) ?_
          exact opLoad rfl (hM.old 3 rfl) ((hI.block _ (Array.getElem?_eq_some_iff.1 q3_1).1).trans q3_1) ⟨n3_1.later hI, Below.refl _ _⟩
        | 32, ho =>
          cases ho
          refine stepK_of (wantedK hM rfl rfl (hM.dep ⟨30, .chain⟩ (by simp) rfl 91 rfl) rfl (show 91 < 124 by decide)) ?_
          exact opCall1 rfl may20 rfl (numK (num_ok (0) W (by decide) (by decide)))
        | 33, ho =>
          cases ho
          refine stepK_of (wantedK hM rfl rfl (hM.dep ⟨30, .guard⟩ (by simp) rfl 91 rfl) rfl (show 91 < 124 by decide)) ?_
          exact opCall2 rfl may17 rfl rfl (numK (product_ok _ _ a (0 : Int) W (hM.dep ⟨31, .data⟩ (by simp) rfl 92 rfl) (hM.dep ⟨32, .data⟩ (by simp) rfl 93 rfl) (Sz.cap (Sz.mul hSa (Sz.lit (z := 0) (by decide))) (by decide) (by decide))))
        | 34, ho =>
          cases ho
          refine stepK_of (wantedK hM rfl rfl (hM.dep ⟨30, .guard⟩ (by simp) rfl 91 rfl) rfl (show 91 < 124 by decide)) ?_
          exact opCall1 rfl may20 rfl (numK (num_ok (0) W (by decide) (by decide)))
        | 35, ho =>
          cases ho
          refine stepK_of (wantedK hM rfl rfl (hM.dep ⟨30, .guard⟩ (by simp) rfl 91 rfl) rfl (show 91 < 124 by decide)) ?_
          exact opCall2 rfl may18 rfl rfl (boolK (equal_true _ _ (a * (0 : Int)) (0 : Int) W (hM.dep ⟨33, .data⟩ (by simp) rfl 94 rfl) (hM.dep ⟨34, .data⟩ (by simp) rfl 95 rfl) (Int.mul_zero a)))
        | 36, ho =>
          cases ho
          refine stepK_of (wantedK hM rfl rfl (hM.dep ⟨30, .guard⟩ (by simp) rfl 91 rfl) rfl (show 91 < 124 by decide)) ?_
          exact opNot rfl (hM.dep ⟨35, .data⟩ (by simp) rfl 96 rfl) ⟨rfl, Below.refl _ _⟩
        | 37, ho =>
          cases ho
          refine stepK_of (wanted_none rfl) ?_
          exact opPick rfl (hM.dep ⟨30, .data⟩ (by simp) rfl 91 rfl) (hM.dep ⟨36, .data⟩ (by simp) rfl 97 rfl) ⟨rfl, Below.refl _ _⟩
        | k + 38, ho => simp at ho
      case hend2 =>
        intro u2 W2 hI2 hV2
        have e2_37 : u2 37 = (.bool false) := hV2 37 98 rfl
        simp only [putAll, List.foldl_cons, List.foldl_nil, List.setIfInBounds_toArray, List.set_cons_zero, List.set_cons_succ, e2_37]
        clear e2_37 hV2
        have q3_2 := (hI2.block _ (Array.getElem?_eq_some_iff.1 q3_1).1).trans q3_1
        have n3_2 := n3_1.later hI2
        have q4_2 := (hI2.block _ (Array.getElem?_eq_some_iff.1 q4_1).1).trans q4_1
        have n4_2 := n4_1.later hI2
        have q5_2 := (hI2.block _ (Array.getElem?_eq_some_iff.1 q5_1).1).trans q5_1
        have n5_2 := n5_1.later hI2
        have hBW2 := hBW1.trans (hI2.mono hBW1.size)
        go_wp2
        refine region_kinds (n := 9) [.num a, .num b, .num (a + b), .num b, .num ((a + b) - b), .num a, .val (.bool true), .val (.bool true), .num a, .num a, .num (a - a), .num (0 : Int), .val (.bool true), .val (.bool true), .val (.bool true), .num a, .num b, .num (a - b), .num b, .num a, .num (b - a), .num (-1 : Int), .num ((b - a) * (-1 : Int)), .val (.bool true), .val (.bool true), .val (.bool true)] [(0, 99), (1, 100), (2, 101), (3, 102), (4, 103), (5, 104), (6, 105), (7, 106), (8, 107), (9, 108), (10, 109), (11, 110), (12, 111), (13, 112), (14, 113), (15, 114), (16, 115), (17, 116), (18, 117), (19, 118), (20, 119), (21, 120), (22, 121), (23, 122), (24, 123), (25, 6)] (by kernel_rfl) (by kernel_rfl) (by kernel_rfl) ?hstep3 ?hend3
        case hstep3 =>
          intro i o ho a' W hI hM
          match i, ho with
          | 0, ho =>
            cases ho
            refine stepK_of (wanted_none rfl) ?_
            exact opLoad rfl (hM.old 3 rfl) ((hI.block _ (Array.getElem?_eq_some_iff.1 q3_2).1).trans q3_2) ⟨n3_2.later hI, Below.refl _ _⟩
          | 1, ho =>
            cases ho
            refine stepK_of (wanted_none rfl) ?_
            exact opLoad rfl (hM.old 4 rfl) ((hI.block _ (Array.getElem?_eq_some_iff.1 q4_2).1).trans q4_2) ⟨n4_2.later hI, Below.refl _ _⟩
          | 2, ho =>
            cases ho
            refine stepK_of (wanted_none rfl) ?_
            exact opCall2 rfl may16 rfl rfl (numK (sum_ok _ _ a b W (hM.dep ⟨0, .data⟩ (by simp) rfl 99 rfl) (hM.dep ⟨1, .data⟩ (by simp) rfl 100 rfl) (Sz.cap (Sz.add (j := 0) (k := 1) hSa hSb) (by decide) (by decide))))
          | 3, ho =>
            cases ho
            refine stepK_of (wanted_none rfl) ?_
            exact opLoad rfl (hM.old 4 rfl) ((hI.block _ (Array.getElem?_eq_some_iff.1 q4_2).1).trans q4_2) ⟨n4_2.later hI, Below.refl _ _⟩
          | 4, ho =>
            cases ho
            refine stepK_of (wanted_none rfl) ?_
            exact opCall2 rfl may31 rfl rfl (numK (less_ok _ _ (a + b) b W (hM.dep ⟨2, .data⟩ (by simp) rfl 101 rfl) (hM.dep ⟨3, .data⟩ (by simp) rfl 102 rfl) (Sz.cap (Sz.sub (j := 1) (k := 1) (Sz.add (j := 0) (k := 1) hSa hSb) (hSb.up (by decide) (by decide))) (by decide) (by decide))))
          | 5, ho =>
            cases ho
            refine stepK_of (wanted_none rfl) ?_
            exact opLoad rfl (hM.old 3 rfl) ((hI.block _ (Array.getElem?_eq_some_iff.1 q3_2).1).trans q3_2) ⟨n3_2.later hI, Below.refl _ _⟩
          | 6, ho =>
            cases ho
            refine stepK_of (wanted_none rfl) ?_
            exact opCall2 rfl may18 rfl rfl (boolK (equal_true _ _ ((a + b) - b) a W (hM.dep ⟨4, .data⟩ (by simp) rfl 103 rfl) (hM.dep ⟨5, .data⟩ (by simp) rfl 104 rfl) (Int.add_sub_cancel a b)))
          | 7, ho =>
            cases ho
            refine stepK_of (wanted_none rfl) ?_
            exact opMove rfl (hM.dep ⟨6, .data⟩ (by simp) rfl 105 rfl) ⟨rfl, Below.refl _ _⟩
          | 8, ho =>
            cases ho
            refine stepK_of (wantedK hM rfl rfl (hM.dep ⟨7, .guard⟩ (by simp) rfl 106 rfl) rfl (show 106 < 124 by decide)) ?_
            exact opLoad rfl (hM.old 3 rfl) ((hI.block _ (Array.getElem?_eq_some_iff.1 q3_2).1).trans q3_2) ⟨n3_2.later hI, Below.refl _ _⟩
          | 9, ho =>
            cases ho
            refine stepK_of (wantedK hM rfl rfl (hM.dep ⟨7, .guard⟩ (by simp) rfl 106 rfl) rfl (show 106 < 124 by decide)) ?_
            exact opLoad rfl (hM.old 3 rfl) ((hI.block _ (Array.getElem?_eq_some_iff.1 q3_2).1).trans q3_2) ⟨n3_2.later hI, Below.refl _ _⟩
          | 10, ho =>
            cases ho
            refine stepK_of (wantedK hM rfl rfl (hM.dep ⟨7, .chain⟩ (by simp) rfl 106 rfl) rfl (show 106 < 124 by decide)) ?_
            exact opCall2 rfl may31 rfl rfl (numK (less_ok _ _ a a W (hM.dep ⟨8, .data⟩ (by simp) rfl 107 rfl) (hM.dep ⟨9, .data⟩ (by simp) rfl 108 rfl) (Sz.cap (Sz.sub (j := 0) (k := 1) hSa hSa) (by decide) (by decide))))
          | 11, ho =>
            cases ho
            refine stepK_of (wantedK hM rfl rfl (hM.dep ⟨7, .guard⟩ (by simp) rfl 106 rfl) rfl (show 106 < 124 by decide)) ?_
            exact opCall1 rfl may20 rfl (numK (num_ok (0) W (by decide) (by decide)))
          | 12, ho =>
            cases ho
            refine stepK_of (wantedK hM rfl rfl (hM.dep ⟨7, .guard⟩ (by simp) rfl 106 rfl) rfl (show 106 < 124 by decide)) ?_
            exact opCall2 rfl may18 rfl rfl (boolK (equal_true _ _ (a - a) (0 : Int) W (hM.dep ⟨10, .data⟩ (by simp) rfl 109 rfl) (hM.dep ⟨11, .data⟩ (by simp) rfl 110 rfl) (Int.sub_self a)))
          | 13, ho =>
            cases ho
            refine stepK_of (wanted_none rfl) ?_
            exact opPick rfl (hM.dep ⟨7, .data⟩ (by simp) rfl 106 rfl) (hM.dep ⟨12, .data⟩ (by simp) rfl 111 rfl) ⟨rfl, Below.refl _ _⟩
          | 14, ho =>
            cases ho
            refine stepK_of (wanted_none rfl) ?_
            exact opMove rfl (hM.dep ⟨13, .data⟩ (by simp) rfl 112 rfl) ⟨rfl, Below.refl _ _⟩
          | 15, ho =>
            cases ho
            refine stepK_of (wantedK hM rfl rfl (hM.dep ⟨14, .guard⟩ (by simp) rfl 113 rfl) rfl (show 113 < 124 by decide)) ?_
            exact opLoad rfl (hM.old 3 rfl) ((hI.block _ (Array.getElem?_eq_some_iff.1 q3_2).1).trans q3_2) ⟨n3_2.later hI, Below.refl _ _⟩
          | 16, ho =>
            cases ho
            refine stepK_of (wantedK hM rfl rfl (hM.dep ⟨14, .guard⟩ (by simp) rfl 113 rfl) rfl (show 113 < 124 by decide)) ?_
            exact opLoad rfl (hM.old 4 rfl) ((hI.block _ (Array.getElem?_eq_some_iff.1 q4_2).1).trans q4_2) ⟨n4_2.later hI, Below.refl _ _⟩
          | 17, ho =>
            cases ho
            refine stepK_of (wantedK hM rfl rfl (hM.dep ⟨14, .chain⟩ (by simp) rfl 113 rfl) rfl (show 113 < 124 by decide)) ?_
            exact opCall2 rfl may31 rfl rfl (numK (less_ok _ _ a b W (hM.dep ⟨15, .data⟩ (by simp) rfl 114 rfl) (hM.dep ⟨16, .data⟩ (by simp) rfl 115 rfl) (Sz.cap (Sz.sub (j := 0) (k := 1) hSa hSb) (by decide) (by decide))))
          | 18, ho =>
            cases ho
            refine stepK_of (wantedK hM rfl rfl (hM.dep ⟨14, .guard⟩ (by simp) rfl 113 rfl) rfl (show 113 < 124 by decide)) ?_
            exact opLoad rfl (hM.old 4 rfl) ((hI.block _ (Array.getElem?_eq_some_iff.1 q4_2).1).trans q4_2) ⟨n4_2.later hI, Below.refl _ _⟩
          | 19, ho =>
            cases ho
            refine stepK_of (wantedK hM rfl rfl (hM.dep ⟨14, .guard⟩ (by simp) rfl 113 rfl) rfl (show 113 < 124 by decide)) ?_
            exact opLoad rfl (hM.old 3 rfl) ((hI.block _ (Array.getElem?_eq_some_iff.1 q3_2).1).trans q3_2) ⟨n3_2.later hI, Below.refl _ _⟩
          | 20, ho =>
            cases ho
            refine stepK_of (wantedK hM rfl rfl (hM.dep ⟨14, .guard⟩ (by simp) rfl 113 rfl) rfl (show 113 < 124 by decide)) ?_
            exact opCall2 rfl may31 rfl rfl (numK (less_ok _ _ b a W (hM.dep ⟨18, .data⟩ (by simp) rfl 117 rfl) (hM.dep ⟨19, .data⟩ (by simp) rfl 118 rfl) (Sz.cap (Sz.sub (j := 0) (k := 1) hSb hSa) (by decide) (by decide))))
          | 21, ho =>
            cases ho
            refine stepK_of (wantedK hM rfl rfl (hM.dep ⟨14, .guard⟩ (by simp) rfl 113 rfl) rfl (show 113 < 124 by decide)) ?_
            exact opCall1 rfl may20 rfl (numK (num_ok (-1) W (by decide) (by decide)))
          | 22, ho =>
            cases ho
            refine stepK_of (wantedK hM rfl rfl (hM.dep ⟨14, .guard⟩ (by simp) rfl 113 rfl) rfl (show 113 < 124 by decide)) ?_
            exact opCall2 rfl may17 rfl rfl (numK (product_ok _ _ (b - a) (-1 : Int) W (hM.dep ⟨20, .data⟩ (by simp) rfl 119 rfl) (hM.dep ⟨21, .data⟩ (by simp) rfl 120 rfl) (Sz.cap (Sz.mul (Sz.sub (j := 0) (k := 1) hSb hSa) (Sz.lit (z := -1) (by decide))) (by decide) (by decide))))
          | 23, ho =>
            cases ho
            refine stepK_of (wantedK hM rfl rfl (hM.dep ⟨14, .guard⟩ (by simp) rfl 113 rfl) rfl (show 113 < 124 by decide)) ?_
            exact opCall2 rfl may18 rfl rfl (boolK (equal_true _ _ (a - b) ((b - a) * (-1 : Int)) W (hM.dep ⟨17, .data⟩ (by simp) rfl 116 rfl) (hM.dep ⟨22, .data⟩ (by simp) rfl 121 rfl) (by omega)))
          | 24, ho =>
            cases ho
            refine stepK_of (wanted_none rfl) ?_
            exact opPick rfl (hM.dep ⟨14, .data⟩ (by simp) rfl 113 rfl) (hM.dep ⟨23, .data⟩ (by simp) rfl 122 rfl) ⟨rfl, Below.refl _ _⟩
          | 25, ho =>
            cases ho
            refine stepK_of (wanted_none rfl) ?_
            exact opAssign rfl (hM.dep ⟨24, .data⟩ (by simp) rfl 123 rfl) ⟨rfl, Below.refl _ _⟩
          | k + 26, ho => simp at ho
        case hend3 =>
          intro u3 W3 hI3 hV3
          have e3_25 : u3 25 = (.bool true) := hV3 25 6 rfl
          simp only [putAll, List.foldl_cons, List.foldl_nil, List.setIfInBounds_toArray, List.set_cons_zero, List.set_cons_succ, e3_25]
          clear e3_25 hV3
          have q3_3 := (hI3.block _ (Array.getElem?_eq_some_iff.1 q3_2).1).trans q3_2
          have n3_3 := n3_2.later hI3
          have q4_3 := (hI3.block _ (Array.getElem?_eq_some_iff.1 q4_2).1).trans q4_2
          have n4_3 := n4_2.later hI3
          have q5_3 := (hI3.block _ (Array.getElem?_eq_some_iff.1 q5_2).1).trans q5_2
          have n5_3 := n5_2.later hI3
          have hBW3 := hBW2.trans (hI3.mono hBW2.size)
          go_wp2
          go_ret
          exact ⟨rfl, hBW3⟩
  · -- not usable
    obtain ⟨sa, rfl, hLa⟩ := hA
    obtain ⟨pa, la, ca, rfl⟩ := hLa.form
    obtain ⟨sb, rfl, hLb⟩ := hB
    obtain ⟨pb, lb, cb, rfl⟩ := hLb.form
    obtain ⟨sc, rfl, hLc⟩ := hC
    obtain ⟨pc, lc, cc, rfl⟩ := hLc.form
    obtain ⟨w3, hw3⟩ : ∃ x, x = (((w.alloc (.cells #[.bool na, .slice pa la ca] 24)).alloc (.cells #[.bool nb, .slice pb lb cb] 24)).alloc (.cells #[.bool nc, .slice pc lc cc] 24)) := ⟨_, rfl⟩
    have hB3 : Below w.heap.size w w3 := by rw [hw3]; exact (((Below.refl _ w).alloc (by omega) _).alloc (by simp) _).alloc (by simp; omega) _
    have hs3 : w3.heap.size = w.heap.size + 3 := by rw [hw3]; simp
    obtain ⟨q0, q1, q2⟩ := alloc3 w (.cells #[.bool na, .slice pa la ca] 24) (.cells #[.bool nb, .slice pb lb cb] 24) (.cells #[.bool nc, .slice pc lc cc] 24)
    rw [← hw3] at q0 q1 q2
    have haw := awake_ok w3 (htab.below' hB3)
    have HW := Lib.hid hw3
    clear hw3
    go_enter Tryd.func6, Tryd.ntmps6
    go_wp2_with fail
    rw [← HW.out]
    refine haw.mono ?_
    rintro e w4 ⟨rfl, hb4⟩
    have hz4 := hb4.size
    have r0 := (hb4.block _ (Array.getElem?_eq_some_iff.1 q0).1).trans q0
    have d0 := cell_of r0 0 rfl
    have d1 := cell_of r0 1 rfl
    have r1 := (hb4.block _ (Array.getElem?_eq_some_iff.1 q1).1).trans q1
    have d2 := cell_of r1 0 rfl
    have d3 := cell_of r1 1 rfl
    have r2 := (hb4.block _ (Array.getElem?_eq_some_iff.1 q2).1).trans q2
    have d4 := cell_of r2 0 rfl
    have d5 := cell_of r2 1 rfl
    go_wp2_with fail
    obtain ⟨w5, hw5⟩ : ∃ x, x = w4.alloc (.cells #[.bool na, .slice pa la ca, .bool nb, .slice pb lb cb, .bool nc, .slice pc lc cc] 24) := ⟨_, rfl⟩
    rw [← hw5]
    have hb5 : Below w4.heap.size w4 w5 := by rw [hw5]; exact (Below.refl _ _).alloc (Nat.le_refl _) _
    have qg : w5.heap[w4.heap.size]? = some (.cells #[.bool na, .slice pa la ca, .bool nb, .slice pb lb cb, .bool nc, .slice pc lc cc] 24) := by rw [hw5]; exact alloc_new _ _ rfl
    have HW5 := Lib.hid hw5
    clear hw5 d0 d1 d2 d3 d4 d5
    have hB5 : Below w.heap.size w w5 := hB3.trans ((hb4.trans (hb5.mono hb4.size)).mono hB3.size)
    refine (usable3 w4.heap.size 100 na nb nc _ _ _ A B C w5 (Array.getElem?_eq_some_iff.1 qg).1 (by omega) hla hlb hlc qg ((hLa.below hB5).mono hB5.size) ((hLb.below hB5).mono hB5.size) ((hLc.below hB5).mono hB5.size) false ?_).mono ?_
    · exact ⟨fun h => (by cases h), fun h => absurd h hu⟩
    rintro e w6 ⟨rfl, hb6⟩
    have hB6 : Below w.heap.size w w6 := hB5.trans (hb6.mono hB5.size)
    go_wp2
    go_ret
    exact ⟨rfl, hB6⟩

end Go.Proofs.YtbaiohjladddlaaDoor
