import Derived.Test.YtbaiohjladddlaaDoorW16
/- whole: Same, Cmp. -/
namespace Go.Proofs.YtbaiohjladddlaaDoor
open Go.RowKit Go.WM Go.WR
attribute [local go_sem] Oper.semAt_some

set_option maxRecDepth 100000 in
set_option maxHeartbeats 1000000 in
/-- slices.Equal at limbs -/
theorem equal16_any (va vb : Value) (A B : List Int) (w : World) (hla : A.length ≤ 140737488355328) (hlb : B.length ≤ 140737488355328) (hA : Lims w.heap.size w va A) (hB : Lims w.heap.size w vb B) :
    Calls Tryd.prog 67 #[va, vb] w fun e w' => e = .returned (.bool (decide (A = B))) ∧ Below w.heap.size w w' := by
  obtain ⟨pa, la, ca, rfl⟩ := hA.form
  obtain ⟨pb, lb, cb, rfl⟩ := hB.form
  obtain ⟨hl, hcA⟩ := hA.cells
  obtain ⟨hl2, hcB⟩ := hB.cells
  have hla' : la ≤ 140737488355328 := by omega
  by_cases hne : la = lb
  · subst hne
    have HLA := Lib.hid hl
    have HLB := Lib.hid hl2
    clear hl hl2
    go_enter Tryd.func67, Tryd.ntmps67
    go_wp2
    go_loopw [13] (fun kv wr => ∃ k : Nat, k ≤ la ∧ kv = .int .i64 k ∧ Below w.heap.size w wr ∧ ∀ j, j < k → A[j]?.getD 0 = B[j]?.getD 0) (fun kv _ => la - (intOf kv).toNat)
    case atStart => exact ⟨0, Nat.zero_le _, rfl, Below.refl _ _, fun j hj => absurd hj (by omega)⟩
    case round =>
      obtain ⟨k, hk, rfl, hBw, hag⟩ := hrel
      by_cases hlt : k < la
      · obtain ⟨ba, oa, rfl, hba, hca, hcc⟩ := hcA (by omega)
        obtain ⟨bb, ob, rfl, hbb, hcb, hdd⟩ := hcB (by omega)
        have c0 := (hBw.cell (p := ⟨ba, oa + k, none⟩) hba).trans (hcc k hlt)
        have c1 := (hBw.cell (p := ⟨bb, ob + k, none⟩) hbb).trans (hdd k hlt)
        by_cases he : A[k]?.getD 0 = B[k]?.getD 0
        · have hag2 : ∀ j, j < k + 1 → A[j]?.getD 0 = B[j]?.getD 0 := fun j hj => by rcases (show j < k ∨ j = k by omega) with h | rfl; exact hag j h; exact he
          have HAG := Lib.hid hag2
          rw [he] at c0
          clear hag he hag2
          go_wp2
          go_quiet (fail)
          go_wp2
          go_roundw
          case rel => exact ⟨k + 1, by omega, rfl, below_drewN hBw nq, HAG.out⟩
          case measure => simp [intOf]; omega
        · have hneq : A ≠ B := fun e => he (by rw [e])
          have HNE := Lib.hid hneq
          clear hneq hag
          go_wp2
          go_quiet (fail)
          go_wp2
          go_ret
          exact ⟨congrArg (fun b => Ending.returned (Value.bool b)) (decide_eq_false HNE.out).symm, below_drewN hBw nq⟩
      · obtain rfl : k = la := by omega
        have heq : A = B := List.ext_getElem? fun j => by
          rcases (show j < k ∨ k ≤ j by omega) with h | h
          · have := hag j h
            have e1 := HLA.out
            have e2 := HLB.out
            rw [List.getElem?_eq_getElem (by omega), List.getElem?_eq_getElem (by omega)] at this ⊢
            exact congrArg some this
          · have e1 := HLA.out
            have e2 := HLB.out
            rw [List.getElem?_eq_none (by omega), List.getElem?_eq_none (by omega)]
        have HEQ := Lib.hid heq
        clear heq hag
        go_wp2
        go_ret
        exact ⟨congrArg (fun b => Ending.returned (Value.bool b)) (decide_eq_true HEQ.out).symm, hBw⟩
  · have hneq : A ≠ B := fun e => hne (by rw [hl, hl2, e])
    rw [decide_eq_false hneq]
    have hne' : ¬ ((la : Int) = lb) := by omega
    clear hl hl2 hneq
    go_enter Tryd.func67, Tryd.ntmps67
    go_wp2
    go_ret
    exact ⟨rfl, Below.refl _ _⟩

set_option maxRecDepth 100000 in
set_option maxHeartbeats 1000000 in
theorem Same_any (va vb : Value) (na nb : Bool) (A B : List Int) (w : World) (hla : A.length ≤ 140737488355328) (hlb : B.length ≤ 140737488355328) (hA : Wr w.heap.size w va na A) (hB : Wr w.heap.size w vb nb B) :
    Calls Tryd.prog 37 #[va, vb] w fun e w' => e = .returned (.bool (na == nb && decide (A = B))) ∧ Below w.heap.size w w' := by
  obtain ⟨sa, rfl, hLa⟩ := hA
  obtain ⟨sb, rfl, hLb⟩ := hB
  have hB2 : Below w.heap.size w ((w.alloc (.cells #[.bool na, sa] 24)).alloc (.cells #[.bool nb, sb] 24)) := ((Below.refl _ w).alloc (Nat.le_refl _) _).alloc (by simp) _
  go_enter Tryd.func37, Tryd.ntmps37
  by_cases hn : na = nb
  · subst hn
    go_wp2_with (go_at_call 67; refine (equal16_any sa sb A B _ hla hlb ((hLa.below hB2).mono hB2.size) ((hLb.below hB2).mono hB2.size)).mono ?_; rintro e w1 ⟨rfl, hb1⟩)
    go_ret
    exact ⟨by simp, hB2.trans (hb1.mono hB2.size)⟩
  · have hf : (na == nb) = false := by simpa using hn
    go_wp2
    go_ret
    exact ⟨by simp [hn], hB2⟩

theorem cmp_pm {a b : Int} (ha : a < 0) (hb : ¬ b < 0) : cmpI a b = -1 := by have := cmpI_lt.2 (show a < b by omega); have := cmpI_bd a b; omega
theorem cmp_mp {a b : Int} (ha : ¬ a < 0) (hb : b < 0) : cmpI a b = 1 := by have := cmpI_swap a b; have := cmp_pm hb ha; omega
theorem cmp_nn {a b : Int} (ha : a < 0) (hb : b < 0) : cmpI b.natAbs a.natAbs = cmpI a b := by
  have h1 := cmpI_lt (n := (b.natAbs : Int)) (m := a.natAbs)
  have h2 := cmpI_eq (n := (b.natAbs : Int)) (m := a.natAbs)
  have h3 := cmpI_lt (n := a) (m := b)
  have h4 := cmpI_eq (n := a) (m := b)
  have h5 := cmpI_bd (b.natAbs : Int) a.natAbs
  have h6 := cmpI_bd a b
  omega
theorem cmp_pp {a b : Int} (ha : ¬ a < 0) (hb : ¬ b < 0) : cmpI a.natAbs b.natAbs = cmpI a b := by rw [show (a.natAbs : Int) = a by omega, show (b.natAbs : Int) = b by omega]

set_option maxRecDepth 100000 in
set_option maxHeartbeats 1000000 in
theorem Cmp_ok (va vb : Value) (a b : Int) (w : World) (hA : Wn w.heap.size w va a) (hB : Wn w.heap.size w vb b) : Calls Tryd.prog 33 #[va, vb] w fun e w' => e = .returned (.int .i64 (cmpI a b)) ∧ Below w.heap.size w w' := by
  obtain ⟨sa, A, rfl, hLa, hRa, hca⟩ := hA
  obtain ⟨sb, B, rfl, hLb, hRb, hcb⟩ := hB
  obtain ⟨pa, la, ca, rfl⟩ := hLa.form
  obtain ⟨pb, lb, cb, rfl⟩ := hLb.form
  have HOA := Lib.hid (rep_ok hRa hca)
  have HOB := Lib.hid (rep_ok hRb hcb)
  have hla := rep_short hRa hca
  have hlb := rep_short hRb hcb
  obtain ⟨na, hna⟩ : ∃ na, na = decide (a < 0) := ⟨_, rfl⟩
  obtain ⟨nb, hnb⟩ : ∃ nb, nb = decide (b < 0) := ⟨_, rfl⟩
  rw [← hna, ← hnb]
  rw [← hna] at HOA
  rw [← hnb] at HOB
  have HNA := Lib.hid hna
  have HNB := Lib.hid hnb
  clear hna hnb
  obtain ⟨w3, hw3⟩ : ∃ w3, w3 = ((w.alloc (.cells #[.bool na, .slice pa la ca] 24)).alloc (.cells #[.bool nb, .slice pb lb cb] 24)).alloc (.cells #[.bool na, .slice pa la ca, .bool nb, .slice pb lb cb] 24) := ⟨_, rfl⟩
  have hB3 : Below w.heap.size w w3 := by rw [hw3]; exact (((Below.refl _ w).alloc (Nat.le_refl _) _).alloc (by simp) _).alloc (by simp; omega) _
  have hs3 : w3.heap.size = w.heap.size + 3 := by rw [hw3]; simp
  obtain ⟨q0, q1, q2⟩ := alloc3 w (.cells #[.bool na, .slice pa la ca] 24) (.cells #[.bool nb, .slice pb lb cb] 24) (.cells #[.bool na, .slice pa la ca, .bool nb, .slice pb lb cb] 24)
  rw [← hw3] at q0 q1 q2
  go_enter Tryd.func33, Tryd.ntmps33
  cases na with
  | true =>
    have ha : a < 0 := by simpa using HNA.out
    cases nb with
    | true =>
      have hb : b < 0 := by simpa using HNB.out
      have HC := Lib.hid (cmp_nn ha hb)
      go_wp2_with (first | (go_at_call 38; rw [← hw3]; refine (valid_two (w.heap.size + 1 + 1) true true (.slice pa la ca) (.slice pb lb cb) A B w3 (by omega) (by omega) (by omega) (cell_of q2 0 rfl) (cell_of q2 1 rfl) (cell_of q2 2 rfl) (cell_of q2 3 rfl) ((hLa.below hB3).mono hB3.size) ((hLb.below hB3).mono hB3.size)).mono ?_; rintro e w5 ⟨rfl, hb5⟩; rw [HOA.out, HOB.out]; clear hw3; have p0 := (hb5.block _ (show w.heap.size < w3.heap.size by omega)).trans q0; have p1 := (hb5.block _ (show w.heap.size + 1 < w3.heap.size by omega)).trans q1; have c0 := cell_of p0 0 rfl; have c1 := cell_of p0 1 rfl; have c2 := cell_of p1 0 rfl; have c3 := cell_of p1 1 rfl; have hs5 := hb5.size; have hB5 := hB3.trans (hb5.mono hB3.size)) | (go_at_call 64; refine (compare_any (.slice pb lb cb) (.slice pa la ca) B A _ _ w5 hRb hRa (by omega) (by omega) ((hLb.below hB5).mono hB5.size) ((hLa.below hB5).mono hB5.size)).mono ?_; rintro e w6 ⟨rfl, hb6⟩; rw [HC.out]))
      go_ret
      exact ⟨rfl, hB5.trans (hb6.mono hB5.size)⟩
    | false =>
      have hb : ¬ b < 0 := by simpa using HNB.out
      have HC := Lib.hid (cmp_pm ha hb)
      rw [HC.out]
      go_wp2_with (first | (go_at_call 38; rw [← hw3]; refine (valid_two (w.heap.size + 1 + 1) true false (.slice pa la ca) (.slice pb lb cb) A B w3 (by omega) (by omega) (by omega) (cell_of q2 0 rfl) (cell_of q2 1 rfl) (cell_of q2 2 rfl) (cell_of q2 3 rfl) ((hLa.below hB3).mono hB3.size) ((hLb.below hB3).mono hB3.size)).mono ?_; rintro e w5 ⟨rfl, hb5⟩; rw [HOA.out, HOB.out]; clear hw3; have p0 := (hb5.block _ (show w.heap.size < w3.heap.size by omega)).trans q0; have p1 := (hb5.block _ (show w.heap.size + 1 < w3.heap.size by omega)).trans q1; have c0 := cell_of p0 0 rfl; have c1 := cell_of p0 1 rfl; have c2 := cell_of p1 0 rfl; have c3 := cell_of p1 1 rfl; have hs5 := hb5.size; have hB5 := hB3.trans (hb5.mono hB3.size)) | (go_at_call 63; refine (sign_any true w5).mono ?_; rintro e w6 ⟨rfl, rfl⟩))
      go_ret
      exact ⟨rfl, hB5⟩
  | false =>
    have ha : ¬ a < 0 := by simpa using HNA.out
    cases nb with
    | true =>
      have hb : b < 0 := by simpa using HNB.out
      have HC := Lib.hid (cmp_mp ha hb)
      rw [HC.out]
      go_wp2_with (first | (go_at_call 38; rw [← hw3]; refine (valid_two (w.heap.size + 1 + 1) false true (.slice pa la ca) (.slice pb lb cb) A B w3 (by omega) (by omega) (by omega) (cell_of q2 0 rfl) (cell_of q2 1 rfl) (cell_of q2 2 rfl) (cell_of q2 3 rfl) ((hLa.below hB3).mono hB3.size) ((hLb.below hB3).mono hB3.size)).mono ?_; rintro e w5 ⟨rfl, hb5⟩; rw [HOA.out, HOB.out]; clear hw3; have p0 := (hb5.block _ (show w.heap.size < w3.heap.size by omega)).trans q0; have p1 := (hb5.block _ (show w.heap.size + 1 < w3.heap.size by omega)).trans q1; have c0 := cell_of p0 0 rfl; have c1 := cell_of p0 1 rfl; have c2 := cell_of p1 0 rfl; have c3 := cell_of p1 1 rfl; have hs5 := hb5.size; have hB5 := hB3.trans (hb5.mono hB3.size)) | (go_at_call 63; refine (sign_any false w5).mono ?_; rintro e w6 ⟨rfl, rfl⟩))
      go_ret
      exact ⟨rfl, hB5⟩
    | false =>
      have hb : ¬ b < 0 := by simpa using HNB.out
      have HC := Lib.hid (cmp_pp ha hb)
      go_wp2_with (first | (go_at_call 38; rw [← hw3]; refine (valid_two (w.heap.size + 1 + 1) false false (.slice pa la ca) (.slice pb lb cb) A B w3 (by omega) (by omega) (by omega) (cell_of q2 0 rfl) (cell_of q2 1 rfl) (cell_of q2 2 rfl) (cell_of q2 3 rfl) ((hLa.below hB3).mono hB3.size) ((hLb.below hB3).mono hB3.size)).mono ?_; rintro e w5 ⟨rfl, hb5⟩; rw [HOA.out, HOB.out]; clear hw3; have p0 := (hb5.block _ (show w.heap.size < w3.heap.size by omega)).trans q0; have p1 := (hb5.block _ (show w.heap.size + 1 < w3.heap.size by omega)).trans q1; have c0 := cell_of p0 0 rfl; have c1 := cell_of p0 1 rfl; have c2 := cell_of p1 0 rfl; have c3 := cell_of p1 1 rfl; have hs5 := hb5.size; have hB5 := hB3.trans (hb5.mono hB3.size)) | (go_at_call 64; refine (compare_any (.slice pa la ca) (.slice pb lb cb) A B _ _ w5 hRa hRb (by omega) (by omega) ((hLa.below hB5).mono hB5.size) ((hLb.below hB5).mono hB5.size)).mono ?_; rintro e w6 ⟨rfl, hb6⟩; rw [HC.out]))
      go_ret
      exact ⟨rfl, hB5.trans (hb6.mono hB5.size)⟩

set_option maxRecDepth 100000 in
set_option maxHeartbeats 1000000 in
theorem Cmp_bad (va vb : Value) (na nb : Bool) (A B : List Int) (w : World) (hA : Wr w.heap.size w va na A) (hB : Wr w.heap.size w vb nb B) (hla : A.length ≤ 140737488355328) (hlb : B.length ≤ 140737488355328) (hbad : (okB na A && okB nb B) = false) : Calls Tryd.prog 33 #[va, vb] w fun e w' => e = .returned (.int .i64 0) ∧ Below w.heap.size w w' := by
  obtain ⟨sa, rfl, hLa⟩ := hA
  obtain ⟨sb, rfl, hLb⟩ := hB
  obtain ⟨pa, la, ca, rfl⟩ := hLa.form
  obtain ⟨pb, lb, cb, rfl⟩ := hLb.form
  have HBAD := Lib.hid hbad
  clear hbad
  obtain ⟨w3, hw3⟩ : ∃ w3, w3 = ((w.alloc (.cells #[.bool na, .slice pa la ca] 24)).alloc (.cells #[.bool nb, .slice pb lb cb] 24)).alloc (.cells #[.bool na, .slice pa la ca, .bool nb, .slice pb lb cb] 24) := ⟨_, rfl⟩
  have hB3 : Below w.heap.size w w3 := by rw [hw3]; exact (((Below.refl _ w).alloc (Nat.le_refl _) _).alloc (by simp) _).alloc (by simp; omega) _
  have hs3 : w3.heap.size = w.heap.size + 3 := by rw [hw3]; simp
  obtain ⟨q0, q1, q2⟩ := alloc3 w (.cells #[.bool na, .slice pa la ca] 24) (.cells #[.bool nb, .slice pb lb cb] 24) (.cells #[.bool na, .slice pa la ca, .bool nb, .slice pb lb cb] 24)
  rw [← hw3] at q0 q1 q2
  go_enter Tryd.func33, Tryd.ntmps33
  go_wp2_with (go_at_call 38; rw [← hw3]; refine (valid_two (w.heap.size + 1 + 1) na nb (.slice pa la ca) (.slice pb lb cb) A B w3 (by omega) (by omega) (by omega) (cell_of q2 0 rfl) (cell_of q2 1 rfl) (cell_of q2 2 rfl) (cell_of q2 3 rfl) ((hLa.below hB3).mono hB3.size) ((hLb.below hB3).mono hB3.size)).mono ?_; rintro e w5 ⟨rfl, hb5⟩; rw [HBAD.out]; clear hw3; have p0 := (hb5.block _ (show w.heap.size < w3.heap.size by omega)).trans q0; have p1 := (hb5.block _ (show w.heap.size + 1 < w3.heap.size by omega)).trans q1; have c0 := cell_of p0 0 rfl; have c1 := cell_of p0 1 rfl; have c2 := cell_of p1 0 rfl; have c3 := cell_of p1 1 rfl; have hs5 := hb5.size; have hB5 := hB3.trans (hb5.mono hB3.size))
  go_ret
  exact ⟨rfl, hB5⟩

end Go.Proofs.YtbaiohjladddlaaDoor
