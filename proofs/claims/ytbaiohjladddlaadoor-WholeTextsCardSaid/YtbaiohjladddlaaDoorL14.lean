import Derived.Test.YtbaiohjladddlaaDoorF4
/- The law WholeTexts, walked. -/
namespace Go.Proofs.YtbaiohjladddlaaDoor
open Go.RowKit Go.WM Go.WR
attribute [local go_sem] Oper.semAt_some

theorem byte_in {z : Int} (h : (Lit.int .u8 z).wf = true) : 0 ≤ z ∧ z ≤ 255 := by
  simp only [Lit.wf, Bool.and_eq_true, decide_eq_true_eq] at h
  have h1 := h.1
  have h2 := h.2
  simp [IntKind.min, IntKind.max, IntKind.signed, IntKind.bits] at h1 h2
  omega
theorem sz_ten : Sz 4 0 10 := by unfold Sz; decide
theorem sz_dig {b : Bool} {d : Int} (h0 : 0 ≤ d) (h1 : d < 10) : Sz 4 0 (sgn b d) := by
  unfold Sz
  cases b
  · rw [sgn_false]; simp; omega
  · rw [sgn_true]; simp; omega
def dch (dg : Int) : UInt8 := UInt8.ofNat (48 + (dg % 10).toNat)
theorem dch_nat {dg : Int} (h : 0 ≤ dg) : (dch dg).toNat = 48 + (dg % 10).toNat := by unfold dch; exact dig_toNat (by omega)
theorem parse_dig {tx : ByteArray} {a dg : Int} (ha0 : a ≠ 0) (htl : tx.data.toList = Lib.itoa a) (hdg : 0 ≤ dg) : parseOK (tx ++ (⟨#[dch dg]⟩ : ByteArray)).data.toList = true ∧ parseZ (tx ++ (⟨#[dch dg]⟩ : ByteArray)).data.toList = a * 10 + sgn (decide (a < 0)) (dg % 10) := by
  have e : (tx ++ (⟨#[dch dg]⟩ : ByteArray)).data.toList = Lib.itoa a ++ [dch dg] := by rw [ByteArray.data_append, Array.toList_append, htl]
  rw [e]
  obtain ⟨h1, h2⟩ := parse_more ha0 (c := dch dg) (d := (dg % 10).toNat) (by omega) (dch_nat hdg)
  refine ⟨h1, h2.trans ?_⟩
  rw [Int.toNat_of_nonneg (by omega)]
theorem conv_dig {dg : Int} (W : World) (B : Nat) (hdg : 0 ≤ dg) (hc : W.cell? ⟨B, 0, none⟩ = some (.int .u8 (48 + dg % 10))) : Sem.run Tryd.prog (convert 38 9 (.slice (some ⟨B, 0, none⟩) 1 1)) W = .ok (.string ⟨#[dch dg]⟩) W := by
  refine Go.run_convert_bytes_back W 38 9 5 ⟨B, 0, none⟩ 1 [dch dg] (by kernel_rfl) (by kernel_rfl) (by kernel_rfl) ?_
  intro j hj
  obtain rfl : j = 0 := by simpa using hj
  refine hc.trans ?_
  show some (Value.int .u8 (48 + dg % 10)) = some (Value.int .u8 ((dch dg).toNat : Int))
  rw [dch_nat hdg]
  congr 2
  omega
theorem text_back (txt : ByteArray) (W : World) (v : Value) (hA : Wn W.heap.size W v (parseZ txt.data.toList)) (hok : parseOK txt.data.toList = true) (htab : Tab W) : Calls Tryd.prog 21 #[v] W fun e w' => e = .returned (.tuple #[.string txt, .int .i64 0]) ∧ Below W.heap.size W w' := by
  refine (Text_ok v _ W hA htab).mono ?_
  rintro e w' ⟨he, hb⟩
  rw [itoa_parse hok] at he
  exact ⟨he, hb⟩

set_option maxRecDepth 100000 in
set_option maxHeartbeats 8000000 in
theorem Texts_any (txt : ByteArray) (dg : Int) (hdg0 : 0 ≤ dg) (hdg1 : dg ≤ 255) (va : Value) (na : Bool) (A : List Int) (w : World) (hA : Wr w.heap.size w va na A) (hla : A.length ≤ 140737488355328) (hma : Lm A) (htab : Tab w) : Calls Tryd.prog 4 #[va, .string txt, .int .u8 dg] w (BoolP true w) := by
  by_cases hu : (A.length ≤ 100 ∧ okB na A = true)
  · -- usable
    obtain ⟨hua, hoa⟩ := hu
    obtain ⟨a, hNa, hSa⟩ := num_of_ok 1 hA (by omega) hoa hma
    obtain ⟨sa, rfl, hLa⟩ := hA
    obtain ⟨pa, la, ca, rfl⟩ := hLa.form
    obtain ⟨w3, hw3⟩ : ∃ x, x = (w.alloc (.cells #[.bool na, .slice pa la ca] 24)) := ⟨_, rfl⟩
    have hB3 : Below w.heap.size w w3 := by rw [hw3]; exact (Below.refl _ w).alloc (by omega) _
    have hs3 : w3.heap.size = w.heap.size + 1 := by rw [hw3]; simp
    have q0 : w3.heap[w.heap.size]? = some (.cells #[.bool na, .slice pa la ca] 24) := by rw [hw3]; exact alloc_new _ _ rfl
    have haw := awake_ok w3 (htab.below' hB3)
    have HW := Lib.hid hw3
    clear hw3
    go_enter Tryd.func4, Tryd.ntmps4
    go_wp2_with fail
    rw [← HW.out]
    refine haw.mono ?_
    rintro e w4 ⟨rfl, hb4⟩
    have hz4 := hb4.size
    have r0 := (hb4.block _ (Array.getElem?_eq_some_iff.1 q0).1).trans q0
    have d0 := cell_of r0 0 rfl
    have d1 := cell_of r0 1 rfl
    go_wp2_with fail
    obtain ⟨w5, hw5⟩ : ∃ x, x = w4.alloc (.cells #[.bool na, .slice pa la ca] 24) := ⟨_, rfl⟩
    rw [← hw5]
    have hb5 : Below w4.heap.size w4 w5 := by rw [hw5]; exact (Below.refl _ _).alloc (Nat.le_refl _) _
    have qg : w5.heap[w4.heap.size]? = some (.cells #[.bool na, .slice pa la ca] 24) := by rw [hw5]; exact alloc_new _ _ rfl
    have HW5 := Lib.hid hw5
    clear hw5 d0 d1
    have hB5 : Below w.heap.size w w5 := hB3.trans ((hb4.trans (hb5.mono hb4.size)).mono hB3.size)
    refine (usable1 w4.heap.size 100 na _ A w5 (Array.getElem?_eq_some_iff.1 qg).1 (by omega) hla qg ((hLa.below hB5).mono hB5.size) true ?_).mono ?_
    · exact ⟨fun _ => ⟨hua, hoa⟩, fun _ => rfl⟩
    rintro e w6 ⟨rfl, hb6⟩
    have hB6 : Below w.heap.size w w6 := hB5.trans (hb6.mono hB5.size)
    have t0 := (hb6.block _ (Array.getElem?_eq_some_iff.1 ((hb5.block _ (Array.getElem?_eq_some_iff.1 r0).1).trans r0)).1).trans ((hb5.block _ (Array.getElem?_eq_some_iff.1 r0).1).trans r0)
    have ma : Wn w6.heap.size w6 (.agg #[.bool na, .slice pa la ca]) a := hNa.later hB6
    clear r0 q0  qg hz4 hs3 hNa hLa hua hoa 
    have y3_0 := cell_of t0 0 rfl
    have y3_1 := cell_of t0 1 rfl
    by_cases h400 : (400 : Int) < txt.size
    · go_wp2
      go_ret
      exact ⟨rfl, hB6⟩
    · -- the texts are short
      clear y3_0 y3_1
      obtain ⟨tx, htx⟩ : ∃ tx : ByteArray, tx = ⟨(Lib.itoa a).toArray⟩ := ⟨_, rfl⟩
      have htl : tx.data.toList = Lib.itoa a := by rw [htx]
      have hts : tx.size ≤ 502 := by rw [Lib.size_eq, htl]; exact itoa_len hSa
      obtain ⟨hp1, hp2⟩ := parse_itoa a
      obtain ⟨ch, hh1, hh2⟩ := itoa_head a
      rw [← htl] at hp1 hp2 hh1
      have HTL := Lib.hid htl
      have HTX := Lib.hid htx
      clear htl htx
      have sa := Wn.sign ma
      rw [← sa] at hh2
      have HSG := Lib.hid sa
      clear sa
      have y3_0 := cell_of t0 0 rfl
      have y3_1 := cell_of t0 1 rfl
      go_wp2_with fail
      clear y3_0 y3_1
      refine ((show Calls Tryd.prog 21 _ w6 (fun e w' => e = .returned (.tuple #[.string tx, .int .i64 0]) ∧ Below w6.heap.size w6 w') from by rw [HTX.out]; exact Text_ok _ a w6 ma (htab.below' hB6))).mono ?_
      rintro e w7 ⟨rfl, hbw7⟩
      have q3w7 := (hbw7.block _ (Array.getElem?_eq_some_iff.1 t0).1).trans t0
      have n3w7 := ma.later hbw7
      have hBXw7 := hB6.trans (hbw7.mono hB6.size)
      have y3_0 := cell_of q3w7 0 rfl
      have y3_1 := cell_of q3w7 1 rfl
      go_wp2_with fail
      clear y3_0 y3_1
      refine (Parse_fit tx a w7 (by omega) hp1 hp2 (hSa.cap (by decide) (by decide))).mono ?_
      rintro e w8 ⟨b9, p9, l9, c9, rfl, hO9, hbw8⟩
      have q3w8 := (hbw8.block _ (Array.getElem?_eq_some_iff.1 q3w7).1).trans q3w7
      have n3w8 := n3w7.later hbw8
      have hBXw8 := hBXw7.trans (hbw8.mono hBXw7.size)
      have g9 := hO9.num
      clear hO9
      obtain ⟨x9, hx9⟩ : ∃ x, x = w8.alloc (.cells #[.bool b9, .slice p9 l9 c9] 24) := ⟨_, rfl⟩
      have hbx9 : Below w8.heap.size w8 x9 := by rw [hx9]; exact (Below.refl _ _).alloc (Nat.le_refl _) _
      have qn9 : x9.heap[w8.heap.size]? = some (.cells #[.bool b9, .slice p9 l9 c9] 24) := by rw [hx9]; exact alloc_new _ _ rfl
      have q3x9 := (hbx9.block _ (Array.getElem?_eq_some_iff.1 q3w8).1).trans q3w8
      have n3x9 := n3w8.later hbx9
      have hBXx9 := hBXw8.trans (hbx9.mono hBXw8.size)
      have n9x := g9.later hbx9
      go_wp2
      rw [← hx9]
      clear hx9
      have htp : (((tx.size : Nat) : Int) == 0) = false := by rw [beq_eq_false_iff_ne]; intro e0; rw [Lib.size_eq] at e0; have e1 : tx.data.toList = [] := List.eq_nil_of_length_eq_zero (by omega); rw [e1] at hh1; cases hh1
      refine region_kinds (n := 9) [.val (.int .i64 0), .val (.bool false), .val (.bool false), .val (.int .i64 0), .val (.bool false), .val (.bool false), .val (.bool false), .num a, .num a, .val (.bool true), .val (.bool false), .val (.bool false), .val (.bool false), .val (Value.string tx), .val (.int .i64 ((tx.size : Nat) : Int)), .val (.bool false), .val (.bool false), .val (.bool false), .val (Value.string tx), .val (.int .u8 ((ch.toNat : Nat) : Int)), .val (Value.bool na), .val (Value.pointer (some ⟨w.heap.size, 0, none⟩)), .val (Value.bool na), .val (.bool false), .val (.bool false)] [(0, 39), (1, 40), (2, 41), (3, 42), (4, 43), (5, 44), (6, 45), (7, 46), (8, 47), (9, 48), (10, 49), (11, 50), (12, 51), (13, 52), (14, 53), (15, 54), (16, 55), (17, 56), (18, 57), (19, 58), (20, 59), (21, 60), (22, 61), (23, 62), (24, 63)] (by kernel_rfl) (by kernel_rfl) (by kernel_rfl) ?hstep1 ?hend1
      case hstep1 =>
        intro i o ho a' W hI hM
        match i, ho with
        | 0, ho =>
          cases ho
          refine stepK_of (wanted_none rfl) ?_
          exact opMove rfl (hM.old 8 rfl) ⟨rfl, Below.refl _ _⟩
        | 1, ho =>
          cases ho
          refine stepK_of (wanted_none rfl) ?_
          exact opNeq27 rfl (hM.dep ⟨0, .data⟩ (by simp) rfl 39 rfl) rfl ⟨rfl, Below.refl _ _⟩
        | 2, ho =>
          cases ho
          refine stepK_of (wanted_none rfl) ?_
          exact opMove rfl (hM.dep ⟨1, .data⟩ (by simp) rfl 40 rfl) ⟨rfl, Below.refl _ _⟩
        | 3, ho =>
          cases ho
          refine stepK_of (wantedK hM rfl rfl (hM.dep ⟨2, .guard⟩ (by simp) rfl 41 rfl) rfl (show 41 < 133 by decide)) ?_
          exact opMove rfl (hM.old 10 rfl) ⟨rfl, Below.refl _ _⟩
        | 4, ho =>
          cases ho
          refine stepK_of (wantedK hM rfl rfl (hM.dep ⟨2, .guard⟩ (by simp) rfl 41 rfl) rfl (show 41 < 133 by decide)) ?_
          exact opNeq27 rfl (hM.dep ⟨3, .data⟩ (by simp) rfl 42 rfl) rfl ⟨rfl, Below.refl _ _⟩
        | 5, ho =>
          cases ho
          refine stepK_of (wanted_none rfl) ?_
          exact opPick rfl (hM.dep ⟨2, .data⟩ (by simp) rfl 41 rfl) (hM.dep ⟨4, .data⟩ (by simp) rfl 43 rfl) ⟨rfl, Below.refl _ _⟩
        | 6, ho =>
          cases ho
          refine stepK_of (wanted_none rfl) ?_
          exact opMove rfl (hM.dep ⟨5, .data⟩ (by simp) rfl 44 rfl) ⟨rfl, Below.refl _ _⟩
        | 7, ho =>
          cases ho
          refine stepK_of (wantedK hM rfl rfl (hM.dep ⟨6, .guard⟩ (by simp) rfl 45 rfl) rfl (show 45 < 133 by decide)) ?_
          exact opLoad rfl (hM.old 3 rfl) ((hI.block _ (Array.getElem?_eq_some_iff.1 q3x9).1).trans q3x9) ⟨n3x9.later hI, Below.refl _ _⟩
        | 8, ho =>
          cases ho
          refine stepK_of (wantedK hM rfl rfl (hM.dep ⟨6, .guard⟩ (by simp) rfl 45 rfl) rfl (show 45 < 133 by decide)) ?_
          exact opLoad rfl (hM.old 9 rfl) ((hI.block _ (Array.getElem?_eq_some_iff.1 qn9).1).trans qn9) ⟨n9x.later hI, Below.refl _ _⟩
        | 9, ho =>
          cases ho
          refine stepK_of (wantedK hM rfl rfl (hM.dep ⟨6, .chain⟩ (by simp) rfl 45 rfl) rfl (show 45 < 133 by decide)) ?_
          exact opCall2 rfl may18 rfl rfl (boolK (equal_true _ _ a a W (hM.dep ⟨7, .data⟩ (by simp) rfl 46 rfl) (hM.dep ⟨8, .data⟩ (by simp) rfl 47 rfl) (rfl)))
        | 10, ho =>
          cases ho
          refine stepK_of (wantedK hM rfl rfl (hM.dep ⟨6, .guard⟩ (by simp) rfl 45 rfl) rfl (show 45 < 133 by decide)) ?_
          exact opNot rfl (hM.dep ⟨9, .data⟩ (by simp) rfl 48 rfl) ⟨rfl, Below.refl _ _⟩
        | 11, ho =>
          cases ho
          refine stepK_of (wanted_none rfl) ?_
          exact opPick rfl (hM.dep ⟨6, .data⟩ (by simp) rfl 45 rfl) (hM.dep ⟨10, .data⟩ (by simp) rfl 49 rfl) ⟨rfl, Below.refl _ _⟩
        | 12, ho =>
          cases ho
          refine stepK_of (wanted_none rfl) ?_
          exact opMove rfl (hM.dep ⟨11, .data⟩ (by simp) rfl 50 rfl) ⟨rfl, Below.refl _ _⟩
        | 13, ho =>
          cases ho
          refine stepK_of (wantedK hM rfl rfl (hM.dep ⟨12, .guard⟩ (by simp) rfl 51 rfl) rfl (show 51 < 133 by decide)) ?_
          exact opMove rfl (hM.old 7 rfl) ⟨rfl, Below.refl _ _⟩
        | 14, ho =>
          cases ho
          refine stepK_of (wantedK hM rfl rfl (hM.dep ⟨12, .guard⟩ (by simp) rfl 51 rfl) rfl (show 51 < 133 by decide)) ?_
          exact opLenS rfl (hM.dep ⟨13, .data⟩ (by simp) rfl 52 rfl) ⟨rfl, Below.refl _ _⟩
        | 15, ho =>
          cases ho
          refine stepK_of (wantedK hM rfl rfl (hM.dep ⟨12, .guard⟩ (by simp) rfl 51 rfl) rfl (show 51 < 133 by decide)) ?_
          exact opEql3 rfl (hM.dep ⟨14, .data⟩ (by simp) rfl 53 rfl) rfl ⟨congrArg Value.bool htp, Below.refl _ _⟩
        | 16, ho =>
          cases ho
          refine stepK_of (wanted_none rfl) ?_
          exact opPick rfl (hM.dep ⟨12, .data⟩ (by simp) rfl 51 rfl) (hM.dep ⟨15, .data⟩ (by simp) rfl 54 rfl) ⟨rfl, Below.refl _ _⟩
        | 17, ho =>
          cases ho
          refine stepK_of (wanted_none rfl) ?_
          exact opMove rfl (hM.dep ⟨16, .data⟩ (by simp) rfl 55 rfl) ⟨rfl, Below.refl _ _⟩
        | 18, ho =>
          cases ho
          refine stepK_of (wantedK hM rfl rfl (hM.dep ⟨17, .guard⟩ (by simp) rfl 56 rfl) rfl (show 56 < 133 by decide)) ?_
          exact opMove rfl (hM.old 7 rfl) ⟨rfl, Below.refl _ _⟩
        | 19, ho =>
          cases ho
          refine stepK_of (wantedK hM rfl rfl (hM.dep ⟨17, .guard⟩ (by simp) rfl 56 rfl) rfl (show 56 < 133 by decide)) ?_
          exact opIndexS rfl (hM.dep ⟨18, .data⟩ (by simp) rfl 57 rfl) hh1 ⟨rfl, Below.refl _ _⟩
        | 20, ho =>
          cases ho
          refine stepK_of (wantedK hM rfl rfl (hM.dep ⟨17, .guard⟩ (by simp) rfl 56 rfl) rfl (show 56 < 133 by decide)) ?_
          exact opEql5 rfl (hM.dep ⟨19, .data⟩ (by simp) rfl 58 rfl) rfl ⟨congrArg Value.bool hh2, Below.refl _ _⟩
        | 21, ho =>
          cases ho
          refine stepK_of (wantedK hM rfl rfl (hM.dep ⟨17, .guard⟩ (by simp) rfl 56 rfl) rfl (show 56 < 133 by decide)) ?_
          exact opField (k := 0) (by decide) rfl (hM.old 3 rfl) ⟨rfl, Below.refl _ _⟩
        | 22, ho =>
          cases ho
          refine stepK_of (wantedK hM rfl rfl (hM.dep ⟨17, .guard⟩ (by simp) rfl 56 rfl) rfl (show 56 < 133 by decide)) ?_
          exact opLoad4 rfl (hM.dep ⟨21, .data⟩ (by simp) rfl 60 rfl) ((hI.block _ (Array.getElem?_eq_some_iff.1 q3x9).1).trans q3x9) ⟨rfl, Below.refl _ _⟩
        | 23, ho =>
          cases ho
          refine stepK_of (wantedK hM rfl rfl (hM.dep ⟨17, .guard⟩ (by simp) rfl 56 rfl) rfl (show 56 < 133 by decide)) ?_
          exact opNeqB rfl (hM.dep ⟨20, .data⟩ (by simp) rfl 59 rfl) (hM.dep ⟨22, .data⟩ (by simp) rfl 61 rfl) ⟨congrArg Value.bool (bne_self_eq_false _), Below.refl _ _⟩
        | 24, ho =>
          cases ho
          refine stepK_of (wanted_none rfl) ?_
          exact opPick rfl (hM.dep ⟨17, .data⟩ (by simp) rfl 56 rfl) (hM.dep ⟨23, .data⟩ (by simp) rfl 62 rfl) ⟨rfl, Below.refl _ _⟩
        | k + 25, ho => simp at ho
      case hend1 =>
        intro u1 W1 hI1 hV1
        have e1_24 : u1 24 = (.bool false) := hV1 24 63 rfl
        simp only [putAll, List.foldl_cons, List.foldl_nil, List.setIfInBounds_toArray, List.set_cons_zero, List.set_cons_succ, e1_24]
        clear e1_24 hV1
        have q3_1 := (hI1.block _ (Array.getElem?_eq_some_iff.1 q3x9).1).trans q3x9
        have n3_1 := n3x9.later hI1
        have q9_1 := (hI1.block _ (Array.getElem?_eq_some_iff.1 qn9).1).trans qn9
        have n9_1 := n9x.later hI1
        have hBW1 := hBXx9.trans (hI1.mono hBXx9.size)
        have hd0 : 0 ≤ dg % 10 := by omega
        have hd1 : dg % 10 < 10 := by omega
        have lz := Wn.len n3_1
        by_cases ha0 : a = 0
        · -- a is 0
          have hla0 := lz.2 ha0
          clear lz ha0
          subst hla0
          by_cases hok : parseOK txt.data.toList = true
          · -- a decimal form
            have y3_0 := cell_of q3_1 0 rfl
            have y3_1 := cell_of q3_1 1 rfl
            have y9_0 := cell_of q9_1 0 rfl
            have y9_1 := cell_of q9_1 1 rfl
            go_wp2_with fail
            clear y3_0 y3_1 y9_0 y9_1
            refine (Parse_fit txt (parseZ txt.data.toList) W1 (by omega) hok rfl ((parse_small hok (by rw [← Lib.size_eq]; omega)).cap (by decide) (by decide))).mono ?_
            rintro e z1 ⟨b14, p14, l14, c14, rfl, hO14, hbz1⟩
            have q3z1 := (hbz1.block _ (Array.getElem?_eq_some_iff.1 q3_1).1).trans q3_1
            have n3z1 := n3_1.later hbz1
            have q9z1 := (hbz1.block _ (Array.getElem?_eq_some_iff.1 q9_1).1).trans q9_1
            have n9z1 := n9_1.later hbz1
            have hBXz1 := hBW1.trans (hbz1.mono hBW1.size)
            have g14 := hO14.num
            clear hO14
            obtain ⟨x14, hx14⟩ : ∃ x, x = z1.alloc (.cells #[.bool b14, .slice p14 l14 c14] 24) := ⟨_, rfl⟩
            have hbx14 : Below z1.heap.size z1 x14 := by rw [hx14]; exact (Below.refl _ _).alloc (Nat.le_refl _) _
            have qn14 : x14.heap[z1.heap.size]? = some (.cells #[.bool b14, .slice p14 l14 c14] 24) := by rw [hx14]; exact alloc_new _ _ rfl
            have q3x14 := (hbx14.block _ (Array.getElem?_eq_some_iff.1 q3z1).1).trans q3z1
            have n3x14 := n3z1.later hbx14
            have q9x14 := (hbx14.block _ (Array.getElem?_eq_some_iff.1 q9z1).1).trans q9z1
            have n9x14 := n9z1.later hbx14
            have hBXx14 := hBXz1.trans (hbx14.mono hBXz1.size)
            have n14x := g14.later hbx14
            have y14_0 := cell_of qn14 0 rfl
            have y14_1 := cell_of qn14 1 rfl
            rw [hx14] at y14_0 y14_1
            have HX14 := Lib.hid hx14
            clear hx14
            go_wp2_with fail
            rw [← HX14.out]
            refine (text_back txt x14 _ n14x hok (htab.below' hBXx14)).mono ?_
            rintro e z2 ⟨rfl, hbz2⟩
            have q3z2 := (hbz2.block _ (Array.getElem?_eq_some_iff.1 q3x14).1).trans q3x14
            have n3z2 := n3x14.later hbz2
            have q9z2 := (hbz2.block _ (Array.getElem?_eq_some_iff.1 q9x14).1).trans q9x14
            have n9z2 := n9x14.later hbz2
            have hBXz2 := hBXx14.trans (hbz2.mono hBXx14.size)
            go_wp2
            go_ret
            exact ⟨rfl, hBXz2⟩
          · -- none
            have y3_0 := cell_of q3_1 0 rfl
            have y3_1 := cell_of q3_1 1 rfl
            have y9_0 := cell_of q9_1 0 rfl
            have y9_1 := cell_of q9_1 1 rfl
            go_wp2_with fail
            clear y3_0 y3_1 y9_0 y9_1
            refine (Parse_no txt W1 (by omega) (by simpa using hok)).mono ?_
            rintro e z1 ⟨rfl, hbz1⟩
            have q3z1 := (hbz1.block _ (Array.getElem?_eq_some_iff.1 q3_1).1).trans q3_1
            have n3z1 := n3_1.later hbz1
            have q9z1 := (hbz1.block _ (Array.getElem?_eq_some_iff.1 q9_1).1).trans q9_1
            have n9z1 := n9_1.later hbz1
            have hBXz1 := hBW1.trans (hbz1.mono hBW1.size)
            go_wp2
            go_ret
            exact ⟨rfl, hBXz1.alloc hBXz1.size _⟩
        · -- a is not 0
          have hla0 : 0 < la := by have := mt lz.1 ha0; omega
          clear lz
          obtain ⟨hq1, hq2⟩ := parse_dig (dg := dg) ha0 HTL.out (by omega)
          have HA0 := Lib.hid ha0
          clear ha0
          obtain ⟨xa, hxa⟩ : ∃ x, x = W1.alloc (.cells #[.int .u8 (48 + dg % 10)] 5) := ⟨_, rfl⟩
          have hbxa : Below W1.heap.size W1 xa := by rw [hxa]; exact (Below.refl _ _).alloc (Nat.le_refl _) _
          have hcv := conv_dig (dg := dg) xa W1.heap.size (by omega) (by rw [hxa]; exact cell_of (alloc_new _ _ rfl) 0 rfl)
          rw [hxa] at hcv
          have y3_0 := cell_of q3_1 0 rfl
          have y3_1 := cell_of q3_1 1 rfl
          have y9_0 := cell_of q9_1 0 rfl
          have y9_1 := cell_of q9_1 1 rfl
          go_wp2_with fail
          clear y3_0 y3_1 y9_0 y9_1
          clear hcv
          have q3xa := (hbxa.block _ (Array.getElem?_eq_some_iff.1 q3_1).1).trans q3_1
          have n3xa := n3_1.later hbxa
          have q9xa := (hbxa.block _ (Array.getElem?_eq_some_iff.1 q9_1).1).trans q9_1
          have n9xa := n9_1.later hbxa
          have hBXxa := hBW1.trans (hbxa.mono hBW1.size)
          rw [← hxa]
          clear hxa
          have hsz : (tx ++ (⟨#[dch dg]⟩ : ByteArray)).size ≤ 9223372036854775806 := by rw [ByteArray.size_append]; show tx.size + 1 ≤ _; omega
          refine (Parse_fit _ (a * 10 + sgn (decide (a < 0)) (dg % 10)) xa hsz hq1 hq2 (Sz.cap (Sz.add (Sz.mul hSa sz_ten) (Sz.up (sz_dig hd0 hd1) (by decide) (by decide))) (by decide) (by decide))).mono ?_
          rintro e v1 ⟨b11, p11, l11, c11, rfl, hO11, hbv1⟩
          have q3v1 := (hbv1.block _ (Array.getElem?_eq_some_iff.1 q3xa).1).trans q3xa
          have n3v1 := n3xa.later hbv1
          have q9v1 := (hbv1.block _ (Array.getElem?_eq_some_iff.1 q9xa).1).trans q9xa
          have n9v1 := n9xa.later hbv1
          have hBXv1 := hBXxa.trans (hbv1.mono hBXxa.size)
          have g11 := hO11.num
          clear hO11 hq1 hq2 hsz
          rw [← HSG.out] at g11
          obtain ⟨x11, hx11⟩ : ∃ x, x = v1.alloc (.cells #[.bool b11, .slice p11 l11 c11] 24) := ⟨_, rfl⟩
          have hbx11 : Below v1.heap.size v1 x11 := by rw [hx11]; exact (Below.refl _ _).alloc (Nat.le_refl _) _
          have qn11 : x11.heap[v1.heap.size]? = some (.cells #[.bool b11, .slice p11 l11 c11] 24) := by rw [hx11]; exact alloc_new _ _ rfl
          have q3x11 := (hbx11.block _ (Array.getElem?_eq_some_iff.1 q3v1).1).trans q3v1
          have n3x11 := n3v1.later hbx11
          have q9x11 := (hbx11.block _ (Array.getElem?_eq_some_iff.1 q9v1).1).trans q9v1
          have n9x11 := n9v1.later hbx11
          have hBXx11 := hBXv1.trans (hbx11.mono hBXv1.size)
          have n11x := g11.later hbx11
          go_wp2_with fail
          rw [← hx11]
          clear hx11 g11
          refine (num_ok (dg % 10) x11 (by omega) (by omega)).mono ?_
          rintro e v2 ⟨b13, p13, l13, c13, rfl, hO13, hbv2⟩
          have q3v2 := (hbv2.block _ (Array.getElem?_eq_some_iff.1 q3x11).1).trans q3x11
          have n3v2 := n3x11.later hbv2
          have q9v2 := (hbv2.block _ (Array.getElem?_eq_some_iff.1 q9x11).1).trans q9x11
          have n9v2 := n9x11.later hbv2
          have q11v2 := (hbv2.block _ (Array.getElem?_eq_some_iff.1 qn11).1).trans qn11
          have n11v2 := n11x.later hbv2
          have hBXv2 := hBXx11.trans (hbv2.mono hBXx11.size)
          have g13 := hO13.num
          clear hO13
          have ql3 := (Array.getElem?_eq_some_iff.1 q3v2).1
          have ql9 := (Array.getElem?_eq_some_iff.1 q9v2).1
          have ql11 := (Array.getElem?_eq_some_iff.1 q11v2).1
          obtain ⟨x13, hx13⟩ : ∃ x, x = v2.alloc (.cells #[.bool b13, .slice p13 l13 c13] 24) := ⟨_, rfl⟩
          have hbx13 : Below v2.heap.size v2 x13 := by rw [hx13]; exact (Below.refl _ _).alloc (Nat.le_refl _) _
          have qn13 : x13.heap[v2.heap.size]? = some (.cells #[.bool b13, .slice p13 l13 c13] 24) := by rw [hx13]; exact alloc_new _ _ rfl
          have q3x13 := (hbx13.block _ (Array.getElem?_eq_some_iff.1 q3v2).1).trans q3v2
          have n3x13 := n3v2.later hbx13
          have q9x13 := (hbx13.block _ (Array.getElem?_eq_some_iff.1 q9v2).1).trans q9v2
          have n9x13 := n9v2.later hbx13
          have q11x13 := (hbx13.block _ (Array.getElem?_eq_some_iff.1 q11v2).1).trans q11v2
          have n11x13 := n11v2.later hbx13
          have hBXx13 := hBXv2.trans (hbx13.mono hBXv2.size)
          have n13x := g13.later hbx13
          clear g13
          have HX13 := Lib.hid hx13
          cases na with
          | true =>
            have y3_0 := cell_of q3x13 0 rfl
            have y3_1 := cell_of q3x13 1 rfl
            have y9_0 := cell_of q9x13 0 rfl
            have y9_1 := cell_of q9x13 1 rfl
            have y11_0 := cell_of q11x13 0 rfl
            have y11_1 := cell_of q11x13 1 rfl
            have y13_0 := cell_of qn13 0 rfl
            have y13_1 := cell_of qn13 1 rfl
            rw [hx13] at y3_0 y3_1 y9_0 y9_1 y11_0 y11_1 y13_0 y13_1
            clear hx13
            go_wp2_with fail
            rw [← HX13.out]
            clear y3_0 y3_1 y9_0 y9_1 y11_0 y11_1 y13_0 y13_1
            refine (num_ok (-(dg % 10)) x13 (by omega) (by omega)).mono ?_
            rintro e v3 ⟨b15, p15, l15, c15, rfl, hO15, hbv3⟩
            have q3v3 := (hbv3.block _ (Array.getElem?_eq_some_iff.1 q3x13).1).trans q3x13
            have n3v3 := n3x13.later hbv3
            have q9v3 := (hbv3.block _ (Array.getElem?_eq_some_iff.1 q9x13).1).trans q9x13
            have n9v3 := n9x13.later hbv3
            have q11v3 := (hbv3.block _ (Array.getElem?_eq_some_iff.1 q11x13).1).trans q11x13
            have n11v3 := n11x13.later hbv3
            have q13v3 := (hbv3.block _ (Array.getElem?_eq_some_iff.1 qn13).1).trans qn13
            have n13v3 := n13x.later hbv3
            have hBXv3 := hBXx13.trans (hbv3.mono hBXx13.size)
            have g15 := hO15.num
            clear hO15
            rw [← sgn_true (dg % 10)] at g15
            have f0 := frozen_of q13v3 0
            have f1 := frozen_of q13v3 1
            have y3_0 := cell_of q3v3 0 rfl
            have y3_1 := cell_of q3v3 1 rfl
            have y9_0 := cell_of q9v3 0 rfl
            have y9_1 := cell_of q9v3 1 rfl
            have y11_0 := cell_of q11v3 0 rfl
            have y11_1 := cell_of q11v3 1 rfl
            have y13_0 := cell_of q13v3 0 rfl
            have y13_1 := cell_of q13v3 1 rfl
            go_wp2
            clear y3_0 y3_1 y9_0 y9_1 y11_0 y11_1 y13_0 y13_1
            clear f0 f1
            obtain ⟨xs, hxs⟩ : ∃ x, x = put2 v3 v2.heap.size (.bool b15) (.slice p15 l15 c15) := ⟨_, rfl⟩
            have hxs' := hxs
            unfold put2 at hxs'
            rw [← hxs']
            clear hxs'
            have ho2 : Only v2.heap.size v3 xs := by rw [hxs]; exact put2_only v3 v2.heap.size _ _
            have hss := ho2.size
            have q3s := (ho2.block _ (Nat.ne_of_lt ql3)).trans q3v3
            have n3s := Wn.put2 q13v3 (.bool b15) (.slice p15 l15 c15) n3v3
            rw [← hxs, ← hss] at n3s
            have q9s := (ho2.block _ (Nat.ne_of_lt ql9)).trans q9v3
            have n9s := Wn.put2 q13v3 (.bool b15) (.slice p15 l15 c15) n9v3
            rw [← hxs, ← hss] at n9s
            have q11s := (ho2.block _ (Nat.ne_of_lt ql11)).trans q11v3
            have n11s := Wn.put2 q13v3 (.bool b15) (.slice p15 l15 c15) n11v3
            rw [← hxs, ← hss] at n11s
            have q13s : xs.heap[v2.heap.size]? = some (.cells #[.bool b15, .slice p15 l15 c15] 24) := by rw [hxs]; exact put2_heap q13v3 _ _
            have n13s := Wn.put2 q13v3 (.bool b15) (.slice p15 l15 c15) g15
            rw [← hxs, ← hss] at n13s
            have hBxs := hBXv3.trans (ho2.below hBXv2.size)
            clear ho2 hss g15 hxs
            refine region_kinds (n := 9) [.val (.int .i64 0), .val (.bool false), .val (.bool false), .num (a * 10 + sgn true (dg % 10)), .num a, .num (10 : Int), .num (a * (10 : Int)), .num (sgn true (dg % 10)), .num ((a * (10 : Int)) + (sgn true (dg % 10))), .val (.bool true), .val (.bool false), .val (.bool false)] [(0, 89), (1, 90), (2, 91), (3, 92), (4, 93), (5, 94), (6, 95), (7, 96), (8, 97), (9, 98), (10, 99), (11, 100)] (by kernel_rfl) (by kernel_rfl) (by kernel_rfl) ?hstep2 ?hend2
            case hstep2 =>
              intro i o ho a' W hI hM
              match i, ho with
              | 0, ho =>
                cases ho
                refine stepK_of (wanted_none rfl) ?_
                exact opMove rfl (hM.old 12 rfl) ⟨rfl, Below.refl _ _⟩
              | 1, ho =>
                cases ho
                refine stepK_of (wanted_none rfl) ?_
                exact opNeq27 rfl (hM.dep ⟨0, .data⟩ (by simp) rfl 89 rfl) rfl ⟨rfl, Below.refl _ _⟩
              | 2, ho =>
                cases ho
                refine stepK_of (wanted_none rfl) ?_
                exact opMove rfl (hM.dep ⟨1, .data⟩ (by simp) rfl 90 rfl) ⟨rfl, Below.refl _ _⟩
              | 3, ho =>
                cases ho
                refine stepK_of (wantedK hM rfl rfl (hM.dep ⟨2, .guard⟩ (by simp) rfl 91 rfl) rfl (show 91 < 133 by decide)) ?_
                exact opLoad rfl (hM.old 11 rfl) ((hI.block _ (Array.getElem?_eq_some_iff.1 q11s).1).trans q11s) ⟨n11s.later hI, Below.refl _ _⟩
              | 4, ho =>
                cases ho
                refine stepK_of (wantedK hM rfl rfl (hM.dep ⟨2, .guard⟩ (by simp) rfl 91 rfl) rfl (show 91 < 133 by decide)) ?_
                exact opLoad rfl (hM.old 3 rfl) ((hI.block _ (Array.getElem?_eq_some_iff.1 q3s).1).trans q3s) ⟨n3s.later hI, Below.refl _ _⟩
              | 5, ho =>
                cases ho
                refine stepK_of (wantedK hM rfl rfl (hM.dep ⟨2, .chain⟩ (by simp) rfl 91 rfl) rfl (show 91 < 133 by decide)) ?_
                exact opCall1 rfl may20 rfl (numK (num_ok (10) W (by first | decide | omega) (by first | decide | omega)))
              | 6, ho =>
                cases ho
                refine stepK_of (wantedK hM rfl rfl (hM.dep ⟨2, .guard⟩ (by simp) rfl 91 rfl) rfl (show 91 < 133 by decide)) ?_
                exact opCall2 rfl may17 rfl rfl (numK (product_ok _ _ a (10 : Int) W (hM.dep ⟨4, .data⟩ (by simp) rfl 93 rfl) (hM.dep ⟨5, .data⟩ (by simp) rfl 94 rfl) (Sz.cap (Sz.mul hSa sz_ten) (by decide) (by decide))))
              | 7, ho =>
                cases ho
                refine stepK_of (wantedK hM rfl rfl (hM.dep ⟨2, .guard⟩ (by simp) rfl 91 rfl) rfl (show 91 < 133 by decide)) ?_
                exact opLoad rfl (hM.old 13 rfl) ((hI.block _ (Array.getElem?_eq_some_iff.1 q13s).1).trans q13s) ⟨n13s.later hI, Below.refl _ _⟩
              | 8, ho =>
                cases ho
                refine stepK_of (wantedK hM rfl rfl (hM.dep ⟨2, .guard⟩ (by simp) rfl 91 rfl) rfl (show 91 < 133 by decide)) ?_
                exact opCall2 rfl may16 rfl rfl (numK (sum_ok _ _ (a * (10 : Int)) (sgn true (dg % 10)) W (hM.dep ⟨6, .data⟩ (by simp) rfl 95 rfl) (hM.dep ⟨7, .data⟩ (by simp) rfl 96 rfl) (Sz.cap (Sz.add (j := 4) (k := 1) (Sz.mul hSa sz_ten) ((sz_dig hd0 hd1).up (by decide) (by decide))) (by decide) (by decide))))
              | 9, ho =>
                cases ho
                refine stepK_of (wantedK hM rfl rfl (hM.dep ⟨2, .guard⟩ (by simp) rfl 91 rfl) rfl (show 91 < 133 by decide)) ?_
                exact opCall2 rfl may18 rfl rfl (boolK (equal_true _ _ (a * 10 + sgn true (dg % 10)) ((a * (10 : Int)) + (sgn true (dg % 10))) W (hM.dep ⟨3, .data⟩ (by simp) rfl 92 rfl) (hM.dep ⟨8, .data⟩ (by simp) rfl 97 rfl) (rfl)))
              | 10, ho =>
                cases ho
                refine stepK_of (wantedK hM rfl rfl (hM.dep ⟨2, .guard⟩ (by simp) rfl 91 rfl) rfl (show 91 < 133 by decide)) ?_
                exact opNot rfl (hM.dep ⟨9, .data⟩ (by simp) rfl 98 rfl) ⟨rfl, Below.refl _ _⟩
              | 11, ho =>
                cases ho
                refine stepK_of (wanted_none rfl) ?_
                exact opPick rfl (hM.dep ⟨2, .data⟩ (by simp) rfl 91 rfl) (hM.dep ⟨10, .data⟩ (by simp) rfl 99 rfl) ⟨rfl, Below.refl _ _⟩
              | k + 12, ho => simp at ho
            case hend2 =>
              intro u2 W2 hI2 hV2
              have e2_11 : u2 11 = (.bool false) := hV2 11 100 rfl
              simp only [putAll, List.foldl_cons, List.foldl_nil, List.setIfInBounds_toArray, List.set_cons_zero, List.set_cons_succ, e2_11]
              clear e2_11 hV2
              have q3_2 := (hI2.block _ (Array.getElem?_eq_some_iff.1 q3s).1).trans q3s
              have n3_2 := n3s.later hI2
              have q9_2 := (hI2.block _ (Array.getElem?_eq_some_iff.1 q9s).1).trans q9s
              have n9_2 := n9s.later hI2
              have q11_2 := (hI2.block _ (Array.getElem?_eq_some_iff.1 q11s).1).trans q11s
              have n11_2 := n11s.later hI2
              have q13_2 := (hI2.block _ (Array.getElem?_eq_some_iff.1 q13s).1).trans q13s
              have n13_2 := n13s.later hI2
              have hBW2 := hBxs.trans (hI2.mono hBxs.size)
              by_cases hok : parseOK txt.data.toList = true
              · -- a decimal form
                have y3_0 := cell_of q3_2 0 rfl
                have y3_1 := cell_of q3_2 1 rfl
                have y9_0 := cell_of q9_2 0 rfl
                have y9_1 := cell_of q9_2 1 rfl
                have y11_0 := cell_of q11_2 0 rfl
                have y11_1 := cell_of q11_2 1 rfl
                have y13_0 := cell_of q13_2 0 rfl
                have y13_1 := cell_of q13_2 1 rfl
                go_wp2_with fail
                clear y3_0 y3_1 y9_0 y9_1 y11_0 y11_1 y13_0 y13_1
                refine (Parse_fit txt (parseZ txt.data.toList) W2 (by omega) hok rfl ((parse_small hok (by rw [← Lib.size_eq]; omega)).cap (by decide) (by decide))).mono ?_
                rintro e z1 ⟨b14, p14, l14, c14, rfl, hO14, hbz1⟩
                have q3z1 := (hbz1.block _ (Array.getElem?_eq_some_iff.1 q3_2).1).trans q3_2
                have n3z1 := n3_2.later hbz1
                have q9z1 := (hbz1.block _ (Array.getElem?_eq_some_iff.1 q9_2).1).trans q9_2
                have n9z1 := n9_2.later hbz1
                have q11z1 := (hbz1.block _ (Array.getElem?_eq_some_iff.1 q11_2).1).trans q11_2
                have n11z1 := n11_2.later hbz1
                have q13z1 := (hbz1.block _ (Array.getElem?_eq_some_iff.1 q13_2).1).trans q13_2
                have n13z1 := n13_2.later hbz1
                have hBXz1 := hBW2.trans (hbz1.mono hBW2.size)
                have g14 := hO14.num
                clear hO14
                obtain ⟨x14, hx14⟩ : ∃ x, x = z1.alloc (.cells #[.bool b14, .slice p14 l14 c14] 24) := ⟨_, rfl⟩
                have hbx14 : Below z1.heap.size z1 x14 := by rw [hx14]; exact (Below.refl _ _).alloc (Nat.le_refl _) _
                have qn14 : x14.heap[z1.heap.size]? = some (.cells #[.bool b14, .slice p14 l14 c14] 24) := by rw [hx14]; exact alloc_new _ _ rfl
                have q3x14 := (hbx14.block _ (Array.getElem?_eq_some_iff.1 q3z1).1).trans q3z1
                have n3x14 := n3z1.later hbx14
                have q9x14 := (hbx14.block _ (Array.getElem?_eq_some_iff.1 q9z1).1).trans q9z1
                have n9x14 := n9z1.later hbx14
                have q11x14 := (hbx14.block _ (Array.getElem?_eq_some_iff.1 q11z1).1).trans q11z1
                have n11x14 := n11z1.later hbx14
                have q13x14 := (hbx14.block _ (Array.getElem?_eq_some_iff.1 q13z1).1).trans q13z1
                have n13x14 := n13z1.later hbx14
                have hBXx14 := hBXz1.trans (hbx14.mono hBXz1.size)
                have n14x := g14.later hbx14
                have y14_0 := cell_of qn14 0 rfl
                have y14_1 := cell_of qn14 1 rfl
                rw [hx14] at y14_0 y14_1
                have HX14 := Lib.hid hx14
                clear hx14
                go_wp2_with fail
                rw [← HX14.out]
                refine (text_back txt x14 _ n14x hok (htab.below' hBXx14)).mono ?_
                rintro e z2 ⟨rfl, hbz2⟩
                have q3z2 := (hbz2.block _ (Array.getElem?_eq_some_iff.1 q3x14).1).trans q3x14
                have n3z2 := n3x14.later hbz2
                have q9z2 := (hbz2.block _ (Array.getElem?_eq_some_iff.1 q9x14).1).trans q9x14
                have n9z2 := n9x14.later hbz2
                have q11z2 := (hbz2.block _ (Array.getElem?_eq_some_iff.1 q11x14).1).trans q11x14
                have n11z2 := n11x14.later hbz2
                have q13z2 := (hbz2.block _ (Array.getElem?_eq_some_iff.1 q13x14).1).trans q13x14
                have n13z2 := n13x14.later hbz2
                have hBXz2 := hBXx14.trans (hbz2.mono hBXx14.size)
                go_wp2
                go_ret
                exact ⟨rfl, hBXz2⟩
              · -- none
                have y3_0 := cell_of q3_2 0 rfl
                have y3_1 := cell_of q3_2 1 rfl
                have y9_0 := cell_of q9_2 0 rfl
                have y9_1 := cell_of q9_2 1 rfl
                have y11_0 := cell_of q11_2 0 rfl
                have y11_1 := cell_of q11_2 1 rfl
                have y13_0 := cell_of q13_2 0 rfl
                have y13_1 := cell_of q13_2 1 rfl
                go_wp2_with fail
                clear y3_0 y3_1 y9_0 y9_1 y11_0 y11_1 y13_0 y13_1
                refine (Parse_no txt W2 (by omega) (by simpa using hok)).mono ?_
                rintro e z1 ⟨rfl, hbz1⟩
                have q3z1 := (hbz1.block _ (Array.getElem?_eq_some_iff.1 q3_2).1).trans q3_2
                have n3z1 := n3_2.later hbz1
                have q9z1 := (hbz1.block _ (Array.getElem?_eq_some_iff.1 q9_2).1).trans q9_2
                have n9z1 := n9_2.later hbz1
                have q11z1 := (hbz1.block _ (Array.getElem?_eq_some_iff.1 q11_2).1).trans q11_2
                have n11z1 := n11_2.later hbz1
                have q13z1 := (hbz1.block _ (Array.getElem?_eq_some_iff.1 q13_2).1).trans q13_2
                have n13z1 := n13_2.later hbz1
                have hBXz1 := hBW2.trans (hbz1.mono hBW2.size)
                go_wp2
                go_ret
                exact ⟨rfl, hBXz1.alloc hBXz1.size _⟩
          | false =>
            have y3_0 := cell_of q3x13 0 rfl
            have y3_1 := cell_of q3x13 1 rfl
            have y9_0 := cell_of q9x13 0 rfl
            have y9_1 := cell_of q9x13 1 rfl
            have y11_0 := cell_of q11x13 0 rfl
            have y11_1 := cell_of q11x13 1 rfl
            have y13_0 := cell_of qn13 0 rfl
            have y13_1 := cell_of qn13 1 rfl
            rw [hx13] at y3_0 y3_1 y9_0 y9_1 y11_0 y11_1 y13_0 y13_1
            clear hx13
            go_wp2
            rw [← HX13.out]
            clear y3_0 y3_1 y9_0 y9_1 y11_0 y11_1 y13_0 y13_1
            rw [← sgn_false (dg % 10)] at n13x
            refine region_kinds (n := 9) [.val (.int .i64 0), .val (.bool false), .val (.bool false), .num (a * 10 + sgn false (dg % 10)), .num a, .num (10 : Int), .num (a * (10 : Int)), .num (sgn false (dg % 10)), .num ((a * (10 : Int)) + (sgn false (dg % 10))), .val (.bool true), .val (.bool false), .val (.bool false)] [(0, 89), (1, 90), (2, 91), (3, 92), (4, 93), (5, 94), (6, 95), (7, 96), (8, 97), (9, 98), (10, 99), (11, 100)] (by kernel_rfl) (by kernel_rfl) (by kernel_rfl) ?hstep3 ?hend3
            case hstep3 =>
              intro i o ho a' W hI hM
              match i, ho with
              | 0, ho =>
                cases ho
                refine stepK_of (wanted_none rfl) ?_
                exact opMove rfl (hM.old 12 rfl) ⟨rfl, Below.refl _ _⟩
              | 1, ho =>
                cases ho
                refine stepK_of (wanted_none rfl) ?_
                exact opNeq27 rfl (hM.dep ⟨0, .data⟩ (by simp) rfl 89 rfl) rfl ⟨rfl, Below.refl _ _⟩
              | 2, ho =>
                cases ho
                refine stepK_of (wanted_none rfl) ?_
                exact opMove rfl (hM.dep ⟨1, .data⟩ (by simp) rfl 90 rfl) ⟨rfl, Below.refl _ _⟩
              | 3, ho =>
                cases ho
                refine stepK_of (wantedK hM rfl rfl (hM.dep ⟨2, .guard⟩ (by simp) rfl 91 rfl) rfl (show 91 < 133 by decide)) ?_
                exact opLoad rfl (hM.old 11 rfl) ((hI.block _ (Array.getElem?_eq_some_iff.1 q11x13).1).trans q11x13) ⟨n11x13.later hI, Below.refl _ _⟩
              | 4, ho =>
                cases ho
                refine stepK_of (wantedK hM rfl rfl (hM.dep ⟨2, .guard⟩ (by simp) rfl 91 rfl) rfl (show 91 < 133 by decide)) ?_
                exact opLoad rfl (hM.old 3 rfl) ((hI.block _ (Array.getElem?_eq_some_iff.1 q3x13).1).trans q3x13) ⟨n3x13.later hI, Below.refl _ _⟩
              | 5, ho =>
                cases ho
                refine stepK_of (wantedK hM rfl rfl (hM.dep ⟨2, .chain⟩ (by simp) rfl 91 rfl) rfl (show 91 < 133 by decide)) ?_
                exact opCall1 rfl may20 rfl (numK (num_ok (10) W (by first | decide | omega) (by first | decide | omega)))
              | 6, ho =>
                cases ho
                refine stepK_of (wantedK hM rfl rfl (hM.dep ⟨2, .guard⟩ (by simp) rfl 91 rfl) rfl (show 91 < 133 by decide)) ?_
                exact opCall2 rfl may17 rfl rfl (numK (product_ok _ _ a (10 : Int) W (hM.dep ⟨4, .data⟩ (by simp) rfl 93 rfl) (hM.dep ⟨5, .data⟩ (by simp) rfl 94 rfl) (Sz.cap (Sz.mul hSa sz_ten) (by decide) (by decide))))
              | 7, ho =>
                cases ho
                refine stepK_of (wantedK hM rfl rfl (hM.dep ⟨2, .guard⟩ (by simp) rfl 91 rfl) rfl (show 91 < 133 by decide)) ?_
                exact opLoad rfl (hM.old 13 rfl) ((hI.block _ (Array.getElem?_eq_some_iff.1 qn13).1).trans qn13) ⟨n13x.later hI, Below.refl _ _⟩
              | 8, ho =>
                cases ho
                refine stepK_of (wantedK hM rfl rfl (hM.dep ⟨2, .guard⟩ (by simp) rfl 91 rfl) rfl (show 91 < 133 by decide)) ?_
                exact opCall2 rfl may16 rfl rfl (numK (sum_ok _ _ (a * (10 : Int)) (sgn false (dg % 10)) W (hM.dep ⟨6, .data⟩ (by simp) rfl 95 rfl) (hM.dep ⟨7, .data⟩ (by simp) rfl 96 rfl) (Sz.cap (Sz.add (j := 4) (k := 1) (Sz.mul hSa sz_ten) ((sz_dig hd0 hd1).up (by decide) (by decide))) (by decide) (by decide))))
              | 9, ho =>
                cases ho
                refine stepK_of (wantedK hM rfl rfl (hM.dep ⟨2, .guard⟩ (by simp) rfl 91 rfl) rfl (show 91 < 133 by decide)) ?_
                exact opCall2 rfl may18 rfl rfl (boolK (equal_true _ _ (a * 10 + sgn false (dg % 10)) ((a * (10 : Int)) + (sgn false (dg % 10))) W (hM.dep ⟨3, .data⟩ (by simp) rfl 92 rfl) (hM.dep ⟨8, .data⟩ (by simp) rfl 97 rfl) (rfl)))
              | 10, ho =>
                cases ho
                refine stepK_of (wantedK hM rfl rfl (hM.dep ⟨2, .guard⟩ (by simp) rfl 91 rfl) rfl (show 91 < 133 by decide)) ?_
                exact opNot rfl (hM.dep ⟨9, .data⟩ (by simp) rfl 98 rfl) ⟨rfl, Below.refl _ _⟩
              | 11, ho =>
                cases ho
                refine stepK_of (wanted_none rfl) ?_
                exact opPick rfl (hM.dep ⟨2, .data⟩ (by simp) rfl 91 rfl) (hM.dep ⟨10, .data⟩ (by simp) rfl 99 rfl) ⟨rfl, Below.refl _ _⟩
              | k + 12, ho => simp at ho
            case hend3 =>
              intro u3 W3 hI3 hV3
              have e3_11 : u3 11 = (.bool false) := hV3 11 100 rfl
              simp only [putAll, List.foldl_cons, List.foldl_nil, List.setIfInBounds_toArray, List.set_cons_zero, List.set_cons_succ, e3_11]
              clear e3_11 hV3
              have q3_3 := (hI3.block _ (Array.getElem?_eq_some_iff.1 q3x13).1).trans q3x13
              have n3_3 := n3x13.later hI3
              have q9_3 := (hI3.block _ (Array.getElem?_eq_some_iff.1 q9x13).1).trans q9x13
              have n9_3 := n9x13.later hI3
              have q11_3 := (hI3.block _ (Array.getElem?_eq_some_iff.1 q11x13).1).trans q11x13
              have n11_3 := n11x13.later hI3
              have q13_3 := (hI3.block _ (Array.getElem?_eq_some_iff.1 qn13).1).trans qn13
              have n13_3 := n13x.later hI3
              have hBW3 := hBXx13.trans (hI3.mono hBXx13.size)
              by_cases hok : parseOK txt.data.toList = true
              · -- a decimal form
                have y3_0 := cell_of q3_3 0 rfl
                have y3_1 := cell_of q3_3 1 rfl
                have y9_0 := cell_of q9_3 0 rfl
                have y9_1 := cell_of q9_3 1 rfl
                have y11_0 := cell_of q11_3 0 rfl
                have y11_1 := cell_of q11_3 1 rfl
                have y13_0 := cell_of q13_3 0 rfl
                have y13_1 := cell_of q13_3 1 rfl
                go_wp2_with fail
                clear y3_0 y3_1 y9_0 y9_1 y11_0 y11_1 y13_0 y13_1
                refine (Parse_fit txt (parseZ txt.data.toList) W3 (by omega) hok rfl ((parse_small hok (by rw [← Lib.size_eq]; omega)).cap (by decide) (by decide))).mono ?_
                rintro e z1 ⟨b14, p14, l14, c14, rfl, hO14, hbz1⟩
                have q3z1 := (hbz1.block _ (Array.getElem?_eq_some_iff.1 q3_3).1).trans q3_3
                have n3z1 := n3_3.later hbz1
                have q9z1 := (hbz1.block _ (Array.getElem?_eq_some_iff.1 q9_3).1).trans q9_3
                have n9z1 := n9_3.later hbz1
                have q11z1 := (hbz1.block _ (Array.getElem?_eq_some_iff.1 q11_3).1).trans q11_3
                have n11z1 := n11_3.later hbz1
                have q13z1 := (hbz1.block _ (Array.getElem?_eq_some_iff.1 q13_3).1).trans q13_3
                have n13z1 := n13_3.later hbz1
                have hBXz1 := hBW3.trans (hbz1.mono hBW3.size)
                have g14 := hO14.num
                clear hO14
                obtain ⟨x14, hx14⟩ : ∃ x, x = z1.alloc (.cells #[.bool b14, .slice p14 l14 c14] 24) := ⟨_, rfl⟩
                have hbx14 : Below z1.heap.size z1 x14 := by rw [hx14]; exact (Below.refl _ _).alloc (Nat.le_refl _) _
                have qn14 : x14.heap[z1.heap.size]? = some (.cells #[.bool b14, .slice p14 l14 c14] 24) := by rw [hx14]; exact alloc_new _ _ rfl
                have q3x14 := (hbx14.block _ (Array.getElem?_eq_some_iff.1 q3z1).1).trans q3z1
                have n3x14 := n3z1.later hbx14
                have q9x14 := (hbx14.block _ (Array.getElem?_eq_some_iff.1 q9z1).1).trans q9z1
                have n9x14 := n9z1.later hbx14
                have q11x14 := (hbx14.block _ (Array.getElem?_eq_some_iff.1 q11z1).1).trans q11z1
                have n11x14 := n11z1.later hbx14
                have q13x14 := (hbx14.block _ (Array.getElem?_eq_some_iff.1 q13z1).1).trans q13z1
                have n13x14 := n13z1.later hbx14
                have hBXx14 := hBXz1.trans (hbx14.mono hBXz1.size)
                have n14x := g14.later hbx14
                have y14_0 := cell_of qn14 0 rfl
                have y14_1 := cell_of qn14 1 rfl
                rw [hx14] at y14_0 y14_1
                have HX14 := Lib.hid hx14
                clear hx14
                go_wp2_with fail
                rw [← HX14.out]
                refine (text_back txt x14 _ n14x hok (htab.below' hBXx14)).mono ?_
                rintro e z2 ⟨rfl, hbz2⟩
                have q3z2 := (hbz2.block _ (Array.getElem?_eq_some_iff.1 q3x14).1).trans q3x14
                have n3z2 := n3x14.later hbz2
                have q9z2 := (hbz2.block _ (Array.getElem?_eq_some_iff.1 q9x14).1).trans q9x14
                have n9z2 := n9x14.later hbz2
                have q11z2 := (hbz2.block _ (Array.getElem?_eq_some_iff.1 q11x14).1).trans q11x14
                have n11z2 := n11x14.later hbz2
                have q13z2 := (hbz2.block _ (Array.getElem?_eq_some_iff.1 q13x14).1).trans q13x14
                have n13z2 := n13x14.later hbz2
                have hBXz2 := hBXx14.trans (hbz2.mono hBXx14.size)
                go_wp2
                go_ret
                exact ⟨rfl, hBXz2⟩
              · -- none
                have y3_0 := cell_of q3_3 0 rfl
                have y3_1 := cell_of q3_3 1 rfl
                have y9_0 := cell_of q9_3 0 rfl
                have y9_1 := cell_of q9_3 1 rfl
                have y11_0 := cell_of q11_3 0 rfl
                have y11_1 := cell_of q11_3 1 rfl
                have y13_0 := cell_of q13_3 0 rfl
                have y13_1 := cell_of q13_3 1 rfl
                go_wp2_with fail
                clear y3_0 y3_1 y9_0 y9_1 y11_0 y11_1 y13_0 y13_1
                refine (Parse_no txt W3 (by omega) (by simpa using hok)).mono ?_
                rintro e z1 ⟨rfl, hbz1⟩
                have q3z1 := (hbz1.block _ (Array.getElem?_eq_some_iff.1 q3_3).1).trans q3_3
                have n3z1 := n3_3.later hbz1
                have q9z1 := (hbz1.block _ (Array.getElem?_eq_some_iff.1 q9_3).1).trans q9_3
                have n9z1 := n9_3.later hbz1
                have q11z1 := (hbz1.block _ (Array.getElem?_eq_some_iff.1 q11_3).1).trans q11_3
                have n11z1 := n11_3.later hbz1
                have q13z1 := (hbz1.block _ (Array.getElem?_eq_some_iff.1 q13_3).1).trans q13_3
                have n13z1 := n13_3.later hbz1
                have hBXz1 := hBW3.trans (hbz1.mono hBW3.size)
                go_wp2
                go_ret
                exact ⟨rfl, hBXz1.alloc hBXz1.size _⟩
  · -- not usable
    obtain ⟨sa, rfl, hLa⟩ := hA
    obtain ⟨pa, la, ca, rfl⟩ := hLa.form
    obtain ⟨w3, hw3⟩ : ∃ x, x = (w.alloc (.cells #[.bool na, .slice pa la ca] 24)) := ⟨_, rfl⟩
    have hB3 : Below w.heap.size w w3 := by rw [hw3]; exact (Below.refl _ w).alloc (by omega) _
    have hs3 : w3.heap.size = w.heap.size + 1 := by rw [hw3]; simp
    have q0 : w3.heap[w.heap.size]? = some (.cells #[.bool na, .slice pa la ca] 24) := by rw [hw3]; exact alloc_new _ _ rfl
    have haw := awake_ok w3 (htab.below' hB3)
    have HW := Lib.hid hw3
    clear hw3
    go_enter Tryd.func4, Tryd.ntmps4
    go_wp2_with fail
    rw [← HW.out]
    refine haw.mono ?_
    rintro e w4 ⟨rfl, hb4⟩
    have hz4 := hb4.size
    have r0 := (hb4.block _ (Array.getElem?_eq_some_iff.1 q0).1).trans q0
    have d0 := cell_of r0 0 rfl
    have d1 := cell_of r0 1 rfl
    go_wp2_with fail
    obtain ⟨w5, hw5⟩ : ∃ x, x = w4.alloc (.cells #[.bool na, .slice pa la ca] 24) := ⟨_, rfl⟩
    rw [← hw5]
    have hb5 : Below w4.heap.size w4 w5 := by rw [hw5]; exact (Below.refl _ _).alloc (Nat.le_refl _) _
    have qg : w5.heap[w4.heap.size]? = some (.cells #[.bool na, .slice pa la ca] 24) := by rw [hw5]; exact alloc_new _ _ rfl
    have HW5 := Lib.hid hw5
    clear hw5 d0 d1
    have hB5 : Below w.heap.size w w5 := hB3.trans ((hb4.trans (hb5.mono hb4.size)).mono hB3.size)
    refine (usable1 w4.heap.size 100 na _ A w5 (Array.getElem?_eq_some_iff.1 qg).1 (by omega) hla qg ((hLa.below hB5).mono hB5.size) false ?_).mono ?_
    · exact ⟨fun h => (by cases h), fun h => absurd h hu⟩
    rintro e w6 ⟨rfl, hb6⟩
    have hB6 : Below w.heap.size w w6 := hB5.trans (hb6.mono hB5.size)
    go_wp2
    go_ret
    exact ⟨rfl, hB6⟩

end Go.Proofs.YtbaiohjladddlaaDoor
