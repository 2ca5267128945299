import Derived.Test.YtbaiohjladddlaaDoorL7
import Derived.Test.YtbaiohjladddlaaDoorW27
import Derived.Test.YtbaiohjladddlaaDoorW22
/- The law WholeWrong, walked. -/
namespace Go.Proofs.YtbaiohjladddlaaDoor
open Go.RowKit Go.WM Go.WR
attribute [local go_sem] Oper.semAt_some

def BadO (w : World) (e : Ending) (w' : World) : Prop := e = .returned (.tuple #[.agg #[.bool false, .slice none 0 0], .int .i64 2]) ∧ Below w.heap.size w w'
def DivO (w : World) (e : Ending) (w' : World) : Prop := e = .returned (.tuple #[.agg #[.bool false, .slice none 0 0], .agg #[.bool false, .slice none 0 0], .int .i64 2]) ∧ Below w.heap.size w w'
theorem bad_o {f : Nat} {vs : Array Value} {w : World} (h : Calls Tryd.prog f vs w (BadPost w)) : Calls Tryd.prog f vs w (BadO w) := h
theorem div_o {f : Nat} {vs : Array Value} {w : World} (h : Calls Tryd.prog f vs w (DivBad 2 w)) : Calls Tryd.prog f vs w (DivO w) := h
theorem Wr.later {W W' : World} {v : Value} {ng : Bool} {zs : List Int} (h : Wr W.heap.size W v ng zs) (hb : Below W.heap.size W W') : Wr W'.heap.size W' v ng zs := (h.below hb).mono hb.size
theorem zero_num (W : World) : Wn W.heap.size W (.agg #[.bool false, .slice none 0 0]) 0 := ⟨_, [], rfl, .inl ⟨rfl, rfl⟩, Rep.nil, (Sz.lit (z := 0) (by decide)).cap (by decide) (by decide)⟩

set_option maxRecDepth 100000 in
set_option maxHeartbeats 8000000 in
theorem Wrong_any (va vb : Value) (na nb : Bool) (A B : List Int) (w : World) (hA : Wr w.heap.size w va na A) (hB : Wr w.heap.size w vb nb B) (hla : A.length ≤ 140737488355328) (hlb : B.length ≤ 140737488355328) (htab : Tab w) : Calls Tryd.prog 11 #[va, vb] w (BoolP true w) := by
  obtain ⟨sa, rfl, hLa⟩ := hA
  obtain ⟨pa, la, ca, rfl⟩ := hLa.form
  obtain ⟨sb, rfl, hLb⟩ := hB
  obtain ⟨pb, lb, cb, rfl⟩ := hLb.form
  have ela := hLa.cells.1
  have elb := hLb.cells.1
  obtain ⟨w3, hw3⟩ : ∃ x, x = (w.alloc (.cells #[.bool na, .slice pa la ca] 24)).alloc (.cells #[.bool nb, .slice pb lb cb] 24) := ⟨_, rfl⟩
  have hB3 : Below w.heap.size w w3 := by rw [hw3]; exact ((Below.refl _ w).alloc (by omega) _).alloc (by simp) _
  have q0 : w3.heap[w.heap.size]? = some (.cells #[.bool na, .slice pa la ca] 24) := by rw [hw3]; exact alloc_old _ _ (alloc_new _ _ rfl)
  have q1 : w3.heap[w.heap.size + 1]? = some (.cells #[.bool nb, .slice pb lb cb] 24) := by rw [hw3]; exact alloc_new _ _ (by rw [World.size_alloc])
  have ra : Wr w3.heap.size w3 (.agg #[.bool na, .slice pa la ca]) na A := ⟨_, rfl, (hLa.below hB3).mono hB3.size⟩
  have rb : Wr w3.heap.size w3 (.agg #[.bool nb, .slice pb lb cb]) nb B := ⟨_, rfl, (hLb.below hB3).mono hB3.size⟩
  have haw := awake_ok w3 (htab.below' hB3)
  have HLA := Lib.hid ela
  have HLB := Lib.hid elb
  have HW := Lib.hid hw3
  clear hw3 ela elb hLa hLb
  obtain ⟨oa, hoa⟩ : ∃ oa, oa = okB na A := ⟨_, rfl⟩
  obtain ⟨ob, hob⟩ : ∃ ob, ob = okB nb B := ⟨_, rfl⟩
  have HOA := Lib.hid hoa
  have HOB := Lib.hid hob
  clear hoa hob
  go_enter Tryd.func11, Tryd.ntmps11
  go_wp2_with fail
  rw [← HW.out]
  refine haw.mono ?_
  rintro e w4 ⟨rfl, hbw4⟩
  have q2w4 := (hbw4.block _ (Array.getElem?_eq_some_iff.1 q0).1).trans q0
  have n2w4 := ra.later hbw4
  have q3w4 := (hbw4.block _ (Array.getElem?_eq_some_iff.1 q1).1).trans q1
  have n3w4 := rb.later hbw4
  have hBXw4 := hB3.trans (hbw4.mono hB3.size)
  have y2_0 := cell_of q2w4 0 rfl
  have y2_1 := cell_of q2w4 1 rfl
  have y3_0 := cell_of q3w4 0 rfl
  have y3_1 := cell_of q3w4 1 rfl
  go_wp2_with fail
  clear y2_0 y2_1 y3_0 y3_1
  refine ((Valid_any _ na A w4 n2w4 hla)).mono ?_
  rintro e w5 ⟨rfl, hbw5⟩
  rw [← HOA.out]
  have q2w5 := (hbw5.block _ (Array.getElem?_eq_some_iff.1 q2w4).1).trans q2w4
  have n2w5 := n2w4.later hbw5
  have q3w5 := (hbw5.block _ (Array.getElem?_eq_some_iff.1 q3w4).1).trans q3w4
  have n3w5 := n3w4.later hbw5
  have hBXw5 := hBXw4.trans (hbw5.mono hBXw4.size)
  cases oa with
  | true =>
    have y2_0 := cell_of q2w5 0 rfl
    have y2_1 := cell_of q2w5 1 rfl
    have y3_0 := cell_of q3w5 0 rfl
    have y3_1 := cell_of q3w5 1 rfl
    go_wp2_with fail
    clear y2_0 y2_1 y3_0 y3_1
    refine ((Valid_any _ nb B w5 n3w5 hlb)).mono ?_
    rintro e w6 ⟨rfl, hbw6⟩
    rw [← HOB.out]
    have q2w6 := (hbw6.block _ (Array.getElem?_eq_some_iff.1 q2w5).1).trans q2w5
    have n2w6 := n2w5.later hbw6
    have q3w6 := (hbw6.block _ (Array.getElem?_eq_some_iff.1 q3w5).1).trans q3w5
    have n3w6 := n3w5.later hbw6
    have hBXw6 := hBXw5.trans (hbw6.mono hBXw5.size)
    cases ob with
    | true =>
      go_wp2
      go_ret
      exact ⟨rfl, hBXw6⟩
    | false =>
      by_cases hla2 : la ≤ 2000
      · -- a short
        by_cases hlb2 : lb ≤ 2000
        · -- b short
          have hob0 : (false : Bool) = false := rfl
          have hbad : (okB na A && okB nb B) = false := by rw [← HOA.out, ← HOB.out, hob0]; rfl
          have HBAD := Lib.hid hbad
          clear hbad
          have HBAD2 : Hid ((okB nb B && okB na A) = false) := Lib.hid (by rw [Bool.and_comm]; exact HBAD.out)
          have y2_0 := cell_of q2w6 0 rfl
          have y2_1 := cell_of q2w6 1 rfl
          have y3_0 := cell_of q3w6 0 rfl
          have y3_1 := cell_of q3w6 1 rfl
          go_wp2_with fail
          clear y2_0 y2_1 y3_0 y3_1
          refine ((bad_o (Add_bad _ _ na nb A B w6 n2w6 n3w6 hla hlb HBAD.out))).mono ?_
          rintro e v11 ⟨rfl, hbv11⟩
          have q2v11 := (hbv11.block _ (Array.getElem?_eq_some_iff.1 q2w6).1).trans q2w6
          have n2v11 := n2w6.later hbv11
          have q3v11 := (hbv11.block _ (Array.getElem?_eq_some_iff.1 q3w6).1).trans q3w6
          have n3v11 := n3w6.later hbv11
          have hBXv11 := hBXw6.trans (hbv11.mono hBXw6.size)
          obtain ⟨x12, hwx12⟩ : ∃ x, x = (v11.alloc (.cells #[.bool false, .slice none 0 0] 24)) := ⟨_, rfl⟩
          have hbx12 : Below v11.heap.size v11 x12 := by rw [hwx12]; exact (Below.refl _ _).alloc (by exact Nat.le_refl _) _
          have qn5 : x12.heap[v11.heap.size]? = some (.cells #[.bool false, .slice none 0 0] 24) := by rw [hwx12]; exact alloc_new _ _ rfl
          have q2x12 := (hbx12.block _ (Array.getElem?_eq_some_iff.1 q2v11).1).trans q2v11
          have n2x12 := n2v11.later hbx12
          have q3x12 := (hbx12.block _ (Array.getElem?_eq_some_iff.1 q3v11).1).trans q3v11
          have n3x12 := n3v11.later hbx12
          have n5x12 := (zero_num v11).later hbx12
          have hBYx12 := hBXv11.trans (hbx12.mono hBXv11.size)
          have y2_0 := cell_of q2x12 0 rfl
          have y2_1 := cell_of q2x12 1 rfl
          have y3_0 := cell_of q3x12 0 rfl
          have y3_1 := cell_of q3x12 1 rfl
          have y5_0 := cell_of qn5 0 rfl
          have y5_1 := cell_of qn5 1 rfl
          rw [hwx12] at y2_0 y2_1 y3_0 y3_1 y5_0 y5_1
          have HHx12 := Lib.hid hwx12
          clear hwx12
          go_wp2_with fail
          clear y2_0 y2_1 y3_0 y3_1 y5_0 y5_1
          rw [← HHx12.out]
          refine ((bad_o (Sub_bad _ _ na nb A B x12 n2x12 n3x12 hla hlb HBAD.out))).mono ?_
          rintro e v12 ⟨rfl, hbv12⟩
          have q2v12 := (hbv12.block _ (Array.getElem?_eq_some_iff.1 q2x12).1).trans q2x12
          have n2v12 := n2x12.later hbv12
          have q3v12 := (hbv12.block _ (Array.getElem?_eq_some_iff.1 q3x12).1).trans q3x12
          have n3v12 := n3x12.later hbv12
          have q5v12 := (hbv12.block _ (Array.getElem?_eq_some_iff.1 qn5).1).trans qn5
          have n5v12 := n5x12.later hbv12
          have hBXv12 := hBYx12.trans (hbv12.mono hBYx12.size)
          obtain ⟨x13, hwx13⟩ : ∃ x, x = (v12.alloc (.cells #[.bool false, .slice none 0 0] 24)) := ⟨_, rfl⟩
          have hbx13 : Below v12.heap.size v12 x13 := by rw [hwx13]; exact (Below.refl _ _).alloc (by exact Nat.le_refl _) _
          have qn7 : x13.heap[v12.heap.size]? = some (.cells #[.bool false, .slice none 0 0] 24) := by rw [hwx13]; exact alloc_new _ _ rfl
          have q2x13 := (hbx13.block _ (Array.getElem?_eq_some_iff.1 q2v12).1).trans q2v12
          have n2x13 := n2v12.later hbx13
          have q3x13 := (hbx13.block _ (Array.getElem?_eq_some_iff.1 q3v12).1).trans q3v12
          have n3x13 := n3v12.later hbx13
          have q5x13 := (hbx13.block _ (Array.getElem?_eq_some_iff.1 q5v12).1).trans q5v12
          have n5x13 := n5v12.later hbx13
          have n7x13 := (zero_num v12).later hbx13
          have hBYx13 := hBXv12.trans (hbx13.mono hBXv12.size)
          have y2_0 := cell_of q2x13 0 rfl
          have y2_1 := cell_of q2x13 1 rfl
          have y3_0 := cell_of q3x13 0 rfl
          have y3_1 := cell_of q3x13 1 rfl
          have y5_0 := cell_of q5x13 0 rfl
          have y5_1 := cell_of q5x13 1 rfl
          have y7_0 := cell_of qn7 0 rfl
          have y7_1 := cell_of qn7 1 rfl
          rw [hwx13] at y2_0 y2_1 y3_0 y3_1 y5_0 y5_1 y7_0 y7_1
          have HHx13 := Lib.hid hwx13
          clear hwx13
          go_wp2_with fail
          clear y2_0 y2_1 y3_0 y3_1 y5_0 y5_1 y7_0 y7_1
          rw [← HHx13.out]
          refine ((bad_o (Mul_bad _ _ na nb A B x13 n2x13 n3x13 hla hlb HBAD.out))).mono ?_
          rintro e v13 ⟨rfl, hbv13⟩
          have q2v13 := (hbv13.block _ (Array.getElem?_eq_some_iff.1 q2x13).1).trans q2x13
          have n2v13 := n2x13.later hbv13
          have q3v13 := (hbv13.block _ (Array.getElem?_eq_some_iff.1 q3x13).1).trans q3x13
          have n3v13 := n3x13.later hbv13
          have q5v13 := (hbv13.block _ (Array.getElem?_eq_some_iff.1 q5x13).1).trans q5x13
          have n5v13 := n5x13.later hbv13
          have q7v13 := (hbv13.block _ (Array.getElem?_eq_some_iff.1 qn7).1).trans qn7
          have n7v13 := n7x13.later hbv13
          have hBXv13 := hBYx13.trans (hbv13.mono hBYx13.size)
          obtain ⟨x14, hwx14⟩ : ∃ x, x = (v13.alloc (.cells #[.bool false, .slice none 0 0] 24)) := ⟨_, rfl⟩
          have hbx14 : Below v13.heap.size v13 x14 := by rw [hwx14]; exact (Below.refl _ _).alloc (by exact Nat.le_refl _) _
          have qn9 : x14.heap[v13.heap.size]? = some (.cells #[.bool false, .slice none 0 0] 24) := by rw [hwx14]; exact alloc_new _ _ rfl
          have q2x14 := (hbx14.block _ (Array.getElem?_eq_some_iff.1 q2v13).1).trans q2v13
          have n2x14 := n2v13.later hbx14
          have q3x14 := (hbx14.block _ (Array.getElem?_eq_some_iff.1 q3v13).1).trans q3v13
          have n3x14 := n3v13.later hbx14
          have q5x14 := (hbx14.block _ (Array.getElem?_eq_some_iff.1 q5v13).1).trans q5v13
          have n5x14 := n5v13.later hbx14
          have q7x14 := (hbx14.block _ (Array.getElem?_eq_some_iff.1 q7v13).1).trans q7v13
          have n7x14 := n7v13.later hbx14
          have n9x14 := (zero_num v13).later hbx14
          have hBYx14 := hBXv13.trans (hbx14.mono hBXv13.size)
          have y2_0 := cell_of q2x14 0 rfl
          have y2_1 := cell_of q2x14 1 rfl
          have y3_0 := cell_of q3x14 0 rfl
          have y3_1 := cell_of q3x14 1 rfl
          have y5_0 := cell_of q5x14 0 rfl
          have y5_1 := cell_of q5x14 1 rfl
          have y7_0 := cell_of q7x14 0 rfl
          have y7_1 := cell_of q7x14 1 rfl
          have y9_0 := cell_of qn9 0 rfl
          have y9_1 := cell_of qn9 1 rfl
          rw [hwx14] at y2_0 y2_1 y3_0 y3_1 y5_0 y5_1 y7_0 y7_1 y9_0 y9_1
          have HHx14 := Lib.hid hwx14
          clear hwx14
          go_wp2_with fail
          clear y2_0 y2_1 y3_0 y3_1 y5_0 y5_1 y7_0 y7_1 y9_0 y9_1
          rw [← HHx14.out]
          refine ((div_o (DivMod_bad _ _ na nb A B x14 n2x14 n3x14 hla hlb HBAD.out))).mono ?_
          rintro e v14 ⟨rfl, hbv14⟩
          have q2v14 := (hbv14.block _ (Array.getElem?_eq_some_iff.1 q2x14).1).trans q2x14
          have n2v14 := n2x14.later hbv14
          have q3v14 := (hbv14.block _ (Array.getElem?_eq_some_iff.1 q3x14).1).trans q3x14
          have n3v14 := n3x14.later hbv14
          have q5v14 := (hbv14.block _ (Array.getElem?_eq_some_iff.1 q5x14).1).trans q5x14
          have n5v14 := n5x14.later hbv14
          have q7v14 := (hbv14.block _ (Array.getElem?_eq_some_iff.1 q7x14).1).trans q7x14
          have n7v14 := n7x14.later hbv14
          have q9v14 := (hbv14.block _ (Array.getElem?_eq_some_iff.1 qn9).1).trans qn9
          have n9v14 := n9x14.later hbv14
          have hBXv14 := hBYx14.trans (hbv14.mono hBYx14.size)
          obtain ⟨x15, hwx15⟩ : ∃ x, x = ((v14.alloc (.cells #[.bool false, .slice none 0 0] 24)).alloc (.cells #[.bool false, .slice none 0 0] 24)) := ⟨_, rfl⟩
          have hbx15 : Below v14.heap.size v14 x15 := by rw [hwx15]; exact ((Below.refl _ _).alloc (by exact Nat.le_refl _) _).alloc (by simp) _
          have qn11 : x15.heap[v14.heap.size]? = some (.cells #[.bool false, .slice none 0 0] 24) := by rw [hwx15]; exact alloc_old _ _ (alloc_new _ _ rfl)
          have qn12 : x15.heap[v14.heap.size + 1]? = some (.cells #[.bool false, .slice none 0 0] 24) := by rw [hwx15]; exact alloc_new _ _ (by simp)
          have q2x15 := (hbx15.block _ (Array.getElem?_eq_some_iff.1 q2v14).1).trans q2v14
          have n2x15 := n2v14.later hbx15
          have q3x15 := (hbx15.block _ (Array.getElem?_eq_some_iff.1 q3v14).1).trans q3v14
          have n3x15 := n3v14.later hbx15
          have q5x15 := (hbx15.block _ (Array.getElem?_eq_some_iff.1 q5v14).1).trans q5v14
          have n5x15 := n5v14.later hbx15
          have q7x15 := (hbx15.block _ (Array.getElem?_eq_some_iff.1 q7v14).1).trans q7v14
          have n7x15 := n7v14.later hbx15
          have q9x15 := (hbx15.block _ (Array.getElem?_eq_some_iff.1 q9v14).1).trans q9v14
          have n9x15 := n9v14.later hbx15
          have n11x15 := (zero_num v14).later hbx15
          have n12x15 := (zero_num v14).later hbx15
          have hBYx15 := hBXv14.trans (hbx15.mono hBXv14.size)
          have y2_0 := cell_of q2x15 0 rfl
          have y2_1 := cell_of q2x15 1 rfl
          have y3_0 := cell_of q3x15 0 rfl
          have y3_1 := cell_of q3x15 1 rfl
          have y5_0 := cell_of q5x15 0 rfl
          have y5_1 := cell_of q5x15 1 rfl
          have y7_0 := cell_of q7x15 0 rfl
          have y7_1 := cell_of q7x15 1 rfl
          have y9_0 := cell_of q9x15 0 rfl
          have y9_1 := cell_of q9x15 1 rfl
          have y11_0 := cell_of qn11 0 rfl
          have y11_1 := cell_of qn11 1 rfl
          have y12_0 := cell_of qn12 0 rfl
          have y12_1 := cell_of qn12 1 rfl
          rw [hwx15] at y2_0 y2_1 y3_0 y3_1 y5_0 y5_1 y7_0 y7_1 y9_0 y9_1 y11_0 y11_1 y12_0 y12_1
          have HHx15 := Lib.hid hwx15
          clear hwx15
          go_wp2_with fail
          clear y2_0 y2_1 y3_0 y3_1 y5_0 y5_1 y7_0 y7_1 y9_0 y9_1 y11_0 y11_1 y12_0 y12_1
          rw [← HHx15.out]
          refine ((bad_o (Gcd_bad _ _ na nb A B x15 n2x15 n3x15 hla hlb HBAD.out))).mono ?_
          rintro e v15 ⟨rfl, hbv15⟩
          have q2v15 := (hbv15.block _ (Array.getElem?_eq_some_iff.1 q2x15).1).trans q2x15
          have n2v15 := n2x15.later hbv15
          have q3v15 := (hbv15.block _ (Array.getElem?_eq_some_iff.1 q3x15).1).trans q3x15
          have n3v15 := n3x15.later hbv15
          have q5v15 := (hbv15.block _ (Array.getElem?_eq_some_iff.1 q5x15).1).trans q5x15
          have n5v15 := n5x15.later hbv15
          have q7v15 := (hbv15.block _ (Array.getElem?_eq_some_iff.1 q7x15).1).trans q7x15
          have n7v15 := n7x15.later hbv15
          have q9v15 := (hbv15.block _ (Array.getElem?_eq_some_iff.1 q9x15).1).trans q9x15
          have n9v15 := n9x15.later hbv15
          have q11v15 := (hbv15.block _ (Array.getElem?_eq_some_iff.1 qn11).1).trans qn11
          have n11v15 := n11x15.later hbv15
          have q12v15 := (hbv15.block _ (Array.getElem?_eq_some_iff.1 qn12).1).trans qn12
          have n12v15 := n12x15.later hbv15
          have hBXv15 := hBYx15.trans (hbv15.mono hBYx15.size)
          obtain ⟨x16, hwx16⟩ : ∃ x, x = ((v15.alloc (.cells #[.bool false, .slice none 0 0] 24)).alloc (.cells #[.bool false, .slice none 0 0] 24)) := ⟨_, rfl⟩
          have hbx16 : Below v15.heap.size v15 x16 := by rw [hwx16]; exact ((Below.refl _ _).alloc (by exact Nat.le_refl _) _).alloc (by simp) _
          have qn14 : x16.heap[v15.heap.size]? = some (.cells #[.bool false, .slice none 0 0] 24) := by rw [hwx16]; exact alloc_old _ _ (alloc_new _ _ rfl)
          have qn16 : x16.heap[v15.heap.size + 1]? = some (.cells #[.bool false, .slice none 0 0] 24) := by rw [hwx16]; exact alloc_new _ _ (by simp)
          have q2x16 := (hbx16.block _ (Array.getElem?_eq_some_iff.1 q2v15).1).trans q2v15
          have n2x16 := n2v15.later hbx16
          have q3x16 := (hbx16.block _ (Array.getElem?_eq_some_iff.1 q3v15).1).trans q3v15
          have n3x16 := n3v15.later hbx16
          have q5x16 := (hbx16.block _ (Array.getElem?_eq_some_iff.1 q5v15).1).trans q5v15
          have n5x16 := n5v15.later hbx16
          have q7x16 := (hbx16.block _ (Array.getElem?_eq_some_iff.1 q7v15).1).trans q7v15
          have n7x16 := n7v15.later hbx16
          have q9x16 := (hbx16.block _ (Array.getElem?_eq_some_iff.1 q9v15).1).trans q9v15
          have n9x16 := n9v15.later hbx16
          have q11x16 := (hbx16.block _ (Array.getElem?_eq_some_iff.1 q11v15).1).trans q11v15
          have n11x16 := n11v15.later hbx16
          have q12x16 := (hbx16.block _ (Array.getElem?_eq_some_iff.1 q12v15).1).trans q12v15
          have n12x16 := n12v15.later hbx16
          have n14x16 := (zero_num v15).later hbx16
          have n16x16 := (zero_num v15).later hbx16
          have hBYx16 := hBXv15.trans (hbx16.mono hBXv15.size)
          have y2_0 := cell_of q2x16 0 rfl
          have y2_1 := cell_of q2x16 1 rfl
          have y3_0 := cell_of q3x16 0 rfl
          have y3_1 := cell_of q3x16 1 rfl
          have y5_0 := cell_of q5x16 0 rfl
          have y5_1 := cell_of q5x16 1 rfl
          have y7_0 := cell_of q7x16 0 rfl
          have y7_1 := cell_of q7x16 1 rfl
          have y9_0 := cell_of q9x16 0 rfl
          have y9_1 := cell_of q9x16 1 rfl
          have y11_0 := cell_of q11x16 0 rfl
          have y11_1 := cell_of q11x16 1 rfl
          have y12_0 := cell_of q12x16 0 rfl
          have y12_1 := cell_of q12x16 1 rfl
          have y14_0 := cell_of qn14 0 rfl
          have y14_1 := cell_of qn14 1 rfl
          have y16_0 := cell_of qn16 0 rfl
          have y16_1 := cell_of qn16 1 rfl
          rw [hwx16] at y2_0 y2_1 y3_0 y3_1 y5_0 y5_1 y7_0 y7_1 y9_0 y9_1 y11_0 y11_1 y12_0 y12_1 y14_0 y14_1 y16_0 y16_1
          have HHx16 := Lib.hid hwx16
          clear hwx16
          go_wp2_with fail
          clear y2_0 y2_1 y3_0 y3_1 y5_0 y5_1 y7_0 y7_1 y9_0 y9_1 y11_0 y11_1 y12_0 y12_1 y14_0 y14_1 y16_0 y16_1
          rw [← HHx16.out]
          refine ((id (Cmp_bad _ _ na nb A B x16 n2x16 n3x16 hla hlb HBAD.out))).mono ?_
          rintro e v16 ⟨rfl, hbv16⟩
          have q2v16 := (hbv16.block _ (Array.getElem?_eq_some_iff.1 q2x16).1).trans q2x16
          have n2v16 := n2x16.later hbv16
          have q3v16 := (hbv16.block _ (Array.getElem?_eq_some_iff.1 q3x16).1).trans q3x16
          have n3v16 := n3x16.later hbv16
          have q5v16 := (hbv16.block _ (Array.getElem?_eq_some_iff.1 q5x16).1).trans q5x16
          have n5v16 := n5x16.later hbv16
          have q7v16 := (hbv16.block _ (Array.getElem?_eq_some_iff.1 q7x16).1).trans q7x16
          have n7v16 := n7x16.later hbv16
          have q9v16 := (hbv16.block _ (Array.getElem?_eq_some_iff.1 q9x16).1).trans q9x16
          have n9v16 := n9x16.later hbv16
          have q11v16 := (hbv16.block _ (Array.getElem?_eq_some_iff.1 q11x16).1).trans q11x16
          have n11v16 := n11x16.later hbv16
          have q12v16 := (hbv16.block _ (Array.getElem?_eq_some_iff.1 q12x16).1).trans q12x16
          have n12v16 := n12x16.later hbv16
          have q14v16 := (hbv16.block _ (Array.getElem?_eq_some_iff.1 qn14).1).trans qn14
          have n14v16 := n14x16.later hbv16
          have q16v16 := (hbv16.block _ (Array.getElem?_eq_some_iff.1 qn16).1).trans qn16
          have n16v16 := n16x16.later hbv16
          have hBXv16 := hBYx16.trans (hbv16.mono hBYx16.size)
          have y2_0 := cell_of q2v16 0 rfl
          have y2_1 := cell_of q2v16 1 rfl
          have y3_0 := cell_of q3v16 0 rfl
          have y3_1 := cell_of q3v16 1 rfl
          have y5_0 := cell_of q5v16 0 rfl
          have y5_1 := cell_of q5v16 1 rfl
          have y7_0 := cell_of q7v16 0 rfl
          have y7_1 := cell_of q7v16 1 rfl
          have y9_0 := cell_of q9v16 0 rfl
          have y9_1 := cell_of q9v16 1 rfl
          have y11_0 := cell_of q11v16 0 rfl
          have y11_1 := cell_of q11v16 1 rfl
          have y12_0 := cell_of q12v16 0 rfl
          have y12_1 := cell_of q12v16 1 rfl
          have y14_0 := cell_of q14v16 0 rfl
          have y14_1 := cell_of q14v16 1 rfl
          have y16_0 := cell_of q16v16 0 rfl
          have y16_1 := cell_of q16v16 1 rfl
          go_wp2_with fail
          clear y2_0 y2_1 y3_0 y3_1 y5_0 y5_1 y7_0 y7_1 y9_0 y9_1 y11_0 y11_1 y12_0 y12_1 y14_0 y14_1 y16_0 y16_1
          refine ((id (Cmp_bad _ _ nb na B A v16 n3v16 n2v16 hlb hla HBAD2.out))).mono ?_
          rintro e v17 ⟨rfl, hbv17⟩
          have q2v17 := (hbv17.block _ (Array.getElem?_eq_some_iff.1 q2v16).1).trans q2v16
          have n2v17 := n2v16.later hbv17
          have q3v17 := (hbv17.block _ (Array.getElem?_eq_some_iff.1 q3v16).1).trans q3v16
          have n3v17 := n3v16.later hbv17
          have q5v17 := (hbv17.block _ (Array.getElem?_eq_some_iff.1 q5v16).1).trans q5v16
          have n5v17 := n5v16.later hbv17
          have q7v17 := (hbv17.block _ (Array.getElem?_eq_some_iff.1 q7v16).1).trans q7v16
          have n7v17 := n7v16.later hbv17
          have q9v17 := (hbv17.block _ (Array.getElem?_eq_some_iff.1 q9v16).1).trans q9v16
          have n9v17 := n9v16.later hbv17
          have q11v17 := (hbv17.block _ (Array.getElem?_eq_some_iff.1 q11v16).1).trans q11v16
          have n11v17 := n11v16.later hbv17
          have q12v17 := (hbv17.block _ (Array.getElem?_eq_some_iff.1 q12v16).1).trans q12v16
          have n12v17 := n12v16.later hbv17
          have q14v17 := (hbv17.block _ (Array.getElem?_eq_some_iff.1 q14v16).1).trans q14v16
          have n14v17 := n14v16.later hbv17
          have q16v17 := (hbv17.block _ (Array.getElem?_eq_some_iff.1 q16v16).1).trans q16v16
          have n16v17 := n16v16.later hbv17
          have hBXv17 := hBXv16.trans (hbv17.mono hBXv16.size)
          have y2_0 := cell_of q2v17 0 rfl
          have y2_1 := cell_of q2v17 1 rfl
          have y3_0 := cell_of q3v17 0 rfl
          have y3_1 := cell_of q3v17 1 rfl
          have y5_0 := cell_of q5v17 0 rfl
          have y5_1 := cell_of q5v17 1 rfl
          have y7_0 := cell_of q7v17 0 rfl
          have y7_1 := cell_of q7v17 1 rfl
          have y9_0 := cell_of q9v17 0 rfl
          have y9_1 := cell_of q9v17 1 rfl
          have y11_0 := cell_of q11v17 0 rfl
          have y11_1 := cell_of q11v17 1 rfl
          have y12_0 := cell_of q12v17 0 rfl
          have y12_1 := cell_of q12v17 1 rfl
          have y14_0 := cell_of q14v17 0 rfl
          have y14_1 := cell_of q14v17 1 rfl
          have y16_0 := cell_of q16v17 0 rfl
          have y16_1 := cell_of q16v17 1 rfl
          go_wp2_with fail
          clear y2_0 y2_1 y3_0 y3_1 y5_0 y5_1 y7_0 y7_1 y9_0 y9_1 y11_0 y11_1 y12_0 y12_1 y14_0 y14_1 y16_0 y16_1
          refine ((equal_true _ _ 0 0 v17 n5v17 n16v17 rfl)).mono ?_
          rintro e v18 ⟨rfl, hbv18⟩
          have q2v18 := (hbv18.block _ (Array.getElem?_eq_some_iff.1 q2v17).1).trans q2v17
          have n2v18 := n2v17.later hbv18
          have q3v18 := (hbv18.block _ (Array.getElem?_eq_some_iff.1 q3v17).1).trans q3v17
          have n3v18 := n3v17.later hbv18
          have q5v18 := (hbv18.block _ (Array.getElem?_eq_some_iff.1 q5v17).1).trans q5v17
          have n5v18 := n5v17.later hbv18
          have q7v18 := (hbv18.block _ (Array.getElem?_eq_some_iff.1 q7v17).1).trans q7v17
          have n7v18 := n7v17.later hbv18
          have q9v18 := (hbv18.block _ (Array.getElem?_eq_some_iff.1 q9v17).1).trans q9v17
          have n9v18 := n9v17.later hbv18
          have q11v18 := (hbv18.block _ (Array.getElem?_eq_some_iff.1 q11v17).1).trans q11v17
          have n11v18 := n11v17.later hbv18
          have q12v18 := (hbv18.block _ (Array.getElem?_eq_some_iff.1 q12v17).1).trans q12v17
          have n12v18 := n12v17.later hbv18
          have q14v18 := (hbv18.block _ (Array.getElem?_eq_some_iff.1 q14v17).1).trans q14v17
          have n14v18 := n14v17.later hbv18
          have q16v18 := (hbv18.block _ (Array.getElem?_eq_some_iff.1 q16v17).1).trans q16v17
          have n16v18 := n16v17.later hbv18
          have hBXv18 := hBXv17.trans (hbv18.mono hBXv17.size)
          have y2_0 := cell_of q2v18 0 rfl
          have y2_1 := cell_of q2v18 1 rfl
          have y3_0 := cell_of q3v18 0 rfl
          have y3_1 := cell_of q3v18 1 rfl
          have y5_0 := cell_of q5v18 0 rfl
          have y5_1 := cell_of q5v18 1 rfl
          have y7_0 := cell_of q7v18 0 rfl
          have y7_1 := cell_of q7v18 1 rfl
          have y9_0 := cell_of q9v18 0 rfl
          have y9_1 := cell_of q9v18 1 rfl
          have y11_0 := cell_of q11v18 0 rfl
          have y11_1 := cell_of q11v18 1 rfl
          have y12_0 := cell_of q12v18 0 rfl
          have y12_1 := cell_of q12v18 1 rfl
          have y14_0 := cell_of q14v18 0 rfl
          have y14_1 := cell_of q14v18 1 rfl
          have y16_0 := cell_of q16v18 0 rfl
          have y16_1 := cell_of q16v18 1 rfl
          go_wp2_with fail
          clear y2_0 y2_1 y3_0 y3_1 y5_0 y5_1 y7_0 y7_1 y9_0 y9_1 y11_0 y11_1 y12_0 y12_1 y14_0 y14_1 y16_0 y16_1
          refine ((equal_true _ _ 0 0 v18 n7v18 n16v18 rfl)).mono ?_
          rintro e v19 ⟨rfl, hbv19⟩
          have q2v19 := (hbv19.block _ (Array.getElem?_eq_some_iff.1 q2v18).1).trans q2v18
          have n2v19 := n2v18.later hbv19
          have q3v19 := (hbv19.block _ (Array.getElem?_eq_some_iff.1 q3v18).1).trans q3v18
          have n3v19 := n3v18.later hbv19
          have q5v19 := (hbv19.block _ (Array.getElem?_eq_some_iff.1 q5v18).1).trans q5v18
          have n5v19 := n5v18.later hbv19
          have q7v19 := (hbv19.block _ (Array.getElem?_eq_some_iff.1 q7v18).1).trans q7v18
          have n7v19 := n7v18.later hbv19
          have q9v19 := (hbv19.block _ (Array.getElem?_eq_some_iff.1 q9v18).1).trans q9v18
          have n9v19 := n9v18.later hbv19
          have q11v19 := (hbv19.block _ (Array.getElem?_eq_some_iff.1 q11v18).1).trans q11v18
          have n11v19 := n11v18.later hbv19
          have q12v19 := (hbv19.block _ (Array.getElem?_eq_some_iff.1 q12v18).1).trans q12v18
          have n12v19 := n12v18.later hbv19
          have q14v19 := (hbv19.block _ (Array.getElem?_eq_some_iff.1 q14v18).1).trans q14v18
          have n14v19 := n14v18.later hbv19
          have q16v19 := (hbv19.block _ (Array.getElem?_eq_some_iff.1 q16v18).1).trans q16v18
          have n16v19 := n16v18.later hbv19
          have hBXv19 := hBXv18.trans (hbv19.mono hBXv18.size)
          have y2_0 := cell_of q2v19 0 rfl
          have y2_1 := cell_of q2v19 1 rfl
          have y3_0 := cell_of q3v19 0 rfl
          have y3_1 := cell_of q3v19 1 rfl
          have y5_0 := cell_of q5v19 0 rfl
          have y5_1 := cell_of q5v19 1 rfl
          have y7_0 := cell_of q7v19 0 rfl
          have y7_1 := cell_of q7v19 1 rfl
          have y9_0 := cell_of q9v19 0 rfl
          have y9_1 := cell_of q9v19 1 rfl
          have y11_0 := cell_of q11v19 0 rfl
          have y11_1 := cell_of q11v19 1 rfl
          have y12_0 := cell_of q12v19 0 rfl
          have y12_1 := cell_of q12v19 1 rfl
          have y14_0 := cell_of q14v19 0 rfl
          have y14_1 := cell_of q14v19 1 rfl
          have y16_0 := cell_of q16v19 0 rfl
          have y16_1 := cell_of q16v19 1 rfl
          go_wp2_with fail
          clear y2_0 y2_1 y3_0 y3_1 y5_0 y5_1 y7_0 y7_1 y9_0 y9_1 y11_0 y11_1 y12_0 y12_1 y14_0 y14_1 y16_0 y16_1
          refine ((equal_true _ _ 0 0 v19 n9v19 n16v19 rfl)).mono ?_
          rintro e v20 ⟨rfl, hbv20⟩
          have q2v20 := (hbv20.block _ (Array.getElem?_eq_some_iff.1 q2v19).1).trans q2v19
          have n2v20 := n2v19.later hbv20
          have q3v20 := (hbv20.block _ (Array.getElem?_eq_some_iff.1 q3v19).1).trans q3v19
          have n3v20 := n3v19.later hbv20
          have q5v20 := (hbv20.block _ (Array.getElem?_eq_some_iff.1 q5v19).1).trans q5v19
          have n5v20 := n5v19.later hbv20
          have q7v20 := (hbv20.block _ (Array.getElem?_eq_some_iff.1 q7v19).1).trans q7v19
          have n7v20 := n7v19.later hbv20
          have q9v20 := (hbv20.block _ (Array.getElem?_eq_some_iff.1 q9v19).1).trans q9v19
          have n9v20 := n9v19.later hbv20
          have q11v20 := (hbv20.block _ (Array.getElem?_eq_some_iff.1 q11v19).1).trans q11v19
          have n11v20 := n11v19.later hbv20
          have q12v20 := (hbv20.block _ (Array.getElem?_eq_some_iff.1 q12v19).1).trans q12v19
          have n12v20 := n12v19.later hbv20
          have q14v20 := (hbv20.block _ (Array.getElem?_eq_some_iff.1 q14v19).1).trans q14v19
          have n14v20 := n14v19.later hbv20
          have q16v20 := (hbv20.block _ (Array.getElem?_eq_some_iff.1 q16v19).1).trans q16v19
          have n16v20 := n16v19.later hbv20
          have hBXv20 := hBXv19.trans (hbv20.mono hBXv19.size)
          have y2_0 := cell_of q2v20 0 rfl
          have y2_1 := cell_of q2v20 1 rfl
          have y3_0 := cell_of q3v20 0 rfl
          have y3_1 := cell_of q3v20 1 rfl
          have y5_0 := cell_of q5v20 0 rfl
          have y5_1 := cell_of q5v20 1 rfl
          have y7_0 := cell_of q7v20 0 rfl
          have y7_1 := cell_of q7v20 1 rfl
          have y9_0 := cell_of q9v20 0 rfl
          have y9_1 := cell_of q9v20 1 rfl
          have y11_0 := cell_of q11v20 0 rfl
          have y11_1 := cell_of q11v20 1 rfl
          have y12_0 := cell_of q12v20 0 rfl
          have y12_1 := cell_of q12v20 1 rfl
          have y14_0 := cell_of q14v20 0 rfl
          have y14_1 := cell_of q14v20 1 rfl
          have y16_0 := cell_of q16v20 0 rfl
          have y16_1 := cell_of q16v20 1 rfl
          go_wp2_with fail
          clear y2_0 y2_1 y3_0 y3_1 y5_0 y5_1 y7_0 y7_1 y9_0 y9_1 y11_0 y11_1 y12_0 y12_1 y14_0 y14_1 y16_0 y16_1
          refine ((equal_true _ _ 0 0 v20 n11v20 n16v20 rfl)).mono ?_
          rintro e v21 ⟨rfl, hbv21⟩
          have q2v21 := (hbv21.block _ (Array.getElem?_eq_some_iff.1 q2v20).1).trans q2v20
          have n2v21 := n2v20.later hbv21
          have q3v21 := (hbv21.block _ (Array.getElem?_eq_some_iff.1 q3v20).1).trans q3v20
          have n3v21 := n3v20.later hbv21
          have q5v21 := (hbv21.block _ (Array.getElem?_eq_some_iff.1 q5v20).1).trans q5v20
          have n5v21 := n5v20.later hbv21
          have q7v21 := (hbv21.block _ (Array.getElem?_eq_some_iff.1 q7v20).1).trans q7v20
          have n7v21 := n7v20.later hbv21
          have q9v21 := (hbv21.block _ (Array.getElem?_eq_some_iff.1 q9v20).1).trans q9v20
          have n9v21 := n9v20.later hbv21
          have q11v21 := (hbv21.block _ (Array.getElem?_eq_some_iff.1 q11v20).1).trans q11v20
          have n11v21 := n11v20.later hbv21
          have q12v21 := (hbv21.block _ (Array.getElem?_eq_some_iff.1 q12v20).1).trans q12v20
          have n12v21 := n12v20.later hbv21
          have q14v21 := (hbv21.block _ (Array.getElem?_eq_some_iff.1 q14v20).1).trans q14v20
          have n14v21 := n14v20.later hbv21
          have q16v21 := (hbv21.block _ (Array.getElem?_eq_some_iff.1 q16v20).1).trans q16v20
          have n16v21 := n16v20.later hbv21
          have hBXv21 := hBXv20.trans (hbv21.mono hBXv20.size)
          have y2_0 := cell_of q2v21 0 rfl
          have y2_1 := cell_of q2v21 1 rfl
          have y3_0 := cell_of q3v21 0 rfl
          have y3_1 := cell_of q3v21 1 rfl
          have y5_0 := cell_of q5v21 0 rfl
          have y5_1 := cell_of q5v21 1 rfl
          have y7_0 := cell_of q7v21 0 rfl
          have y7_1 := cell_of q7v21 1 rfl
          have y9_0 := cell_of q9v21 0 rfl
          have y9_1 := cell_of q9v21 1 rfl
          have y11_0 := cell_of q11v21 0 rfl
          have y11_1 := cell_of q11v21 1 rfl
          have y12_0 := cell_of q12v21 0 rfl
          have y12_1 := cell_of q12v21 1 rfl
          have y14_0 := cell_of q14v21 0 rfl
          have y14_1 := cell_of q14v21 1 rfl
          have y16_0 := cell_of q16v21 0 rfl
          have y16_1 := cell_of q16v21 1 rfl
          go_wp2_with fail
          clear y2_0 y2_1 y3_0 y3_1 y5_0 y5_1 y7_0 y7_1 y9_0 y9_1 y11_0 y11_1 y12_0 y12_1 y14_0 y14_1 y16_0 y16_1
          refine ((equal_true _ _ 0 0 v21 n12v21 n16v21 rfl)).mono ?_
          rintro e v22 ⟨rfl, hbv22⟩
          have q2v22 := (hbv22.block _ (Array.getElem?_eq_some_iff.1 q2v21).1).trans q2v21
          have n2v22 := n2v21.later hbv22
          have q3v22 := (hbv22.block _ (Array.getElem?_eq_some_iff.1 q3v21).1).trans q3v21
          have n3v22 := n3v21.later hbv22
          have q5v22 := (hbv22.block _ (Array.getElem?_eq_some_iff.1 q5v21).1).trans q5v21
          have n5v22 := n5v21.later hbv22
          have q7v22 := (hbv22.block _ (Array.getElem?_eq_some_iff.1 q7v21).1).trans q7v21
          have n7v22 := n7v21.later hbv22
          have q9v22 := (hbv22.block _ (Array.getElem?_eq_some_iff.1 q9v21).1).trans q9v21
          have n9v22 := n9v21.later hbv22
          have q11v22 := (hbv22.block _ (Array.getElem?_eq_some_iff.1 q11v21).1).trans q11v21
          have n11v22 := n11v21.later hbv22
          have q12v22 := (hbv22.block _ (Array.getElem?_eq_some_iff.1 q12v21).1).trans q12v21
          have n12v22 := n12v21.later hbv22
          have q14v22 := (hbv22.block _ (Array.getElem?_eq_some_iff.1 q14v21).1).trans q14v21
          have n14v22 := n14v21.later hbv22
          have q16v22 := (hbv22.block _ (Array.getElem?_eq_some_iff.1 q16v21).1).trans q16v21
          have n16v22 := n16v21.later hbv22
          have hBXv22 := hBXv21.trans (hbv22.mono hBXv21.size)
          have y2_0 := cell_of q2v22 0 rfl
          have y2_1 := cell_of q2v22 1 rfl
          have y3_0 := cell_of q3v22 0 rfl
          have y3_1 := cell_of q3v22 1 rfl
          have y5_0 := cell_of q5v22 0 rfl
          have y5_1 := cell_of q5v22 1 rfl
          have y7_0 := cell_of q7v22 0 rfl
          have y7_1 := cell_of q7v22 1 rfl
          have y9_0 := cell_of q9v22 0 rfl
          have y9_1 := cell_of q9v22 1 rfl
          have y11_0 := cell_of q11v22 0 rfl
          have y11_1 := cell_of q11v22 1 rfl
          have y12_0 := cell_of q12v22 0 rfl
          have y12_1 := cell_of q12v22 1 rfl
          have y14_0 := cell_of q14v22 0 rfl
          have y14_1 := cell_of q14v22 1 rfl
          have y16_0 := cell_of q16v22 0 rfl
          have y16_1 := cell_of q16v22 1 rfl
          go_wp2_with fail
          clear y2_0 y2_1 y3_0 y3_1 y5_0 y5_1 y7_0 y7_1 y9_0 y9_1 y11_0 y11_1 y12_0 y12_1 y14_0 y14_1 y16_0 y16_1
          refine ((equal_true _ _ 0 0 v22 n14v22 n16v22 rfl)).mono ?_
          rintro e v23 ⟨rfl, hbv23⟩
          have q2v23 := (hbv23.block _ (Array.getElem?_eq_some_iff.1 q2v22).1).trans q2v22
          have n2v23 := n2v22.later hbv23
          have q3v23 := (hbv23.block _ (Array.getElem?_eq_some_iff.1 q3v22).1).trans q3v22
          have n3v23 := n3v22.later hbv23
          have q5v23 := (hbv23.block _ (Array.getElem?_eq_some_iff.1 q5v22).1).trans q5v22
          have n5v23 := n5v22.later hbv23
          have q7v23 := (hbv23.block _ (Array.getElem?_eq_some_iff.1 q7v22).1).trans q7v22
          have n7v23 := n7v22.later hbv23
          have q9v23 := (hbv23.block _ (Array.getElem?_eq_some_iff.1 q9v22).1).trans q9v22
          have n9v23 := n9v22.later hbv23
          have q11v23 := (hbv23.block _ (Array.getElem?_eq_some_iff.1 q11v22).1).trans q11v22
          have n11v23 := n11v22.later hbv23
          have q12v23 := (hbv23.block _ (Array.getElem?_eq_some_iff.1 q12v22).1).trans q12v22
          have n12v23 := n12v22.later hbv23
          have q14v23 := (hbv23.block _ (Array.getElem?_eq_some_iff.1 q14v22).1).trans q14v22
          have n14v23 := n14v22.later hbv23
          have q16v23 := (hbv23.block _ (Array.getElem?_eq_some_iff.1 q16v22).1).trans q16v22
          have n16v23 := n16v22.later hbv23
          have hBXv23 := hBXv22.trans (hbv23.mono hBXv22.size)
          have y2_0 := cell_of q2v23 0 rfl
          have y2_1 := cell_of q2v23 1 rfl
          have y3_0 := cell_of q3v23 0 rfl
          have y3_1 := cell_of q3v23 1 rfl
          have y5_0 := cell_of q5v23 0 rfl
          have y5_1 := cell_of q5v23 1 rfl
          have y7_0 := cell_of q7v23 0 rfl
          have y7_1 := cell_of q7v23 1 rfl
          have y9_0 := cell_of q9v23 0 rfl
          have y9_1 := cell_of q9v23 1 rfl
          have y11_0 := cell_of q11v23 0 rfl
          have y11_1 := cell_of q11v23 1 rfl
          have y12_0 := cell_of q12v23 0 rfl
          have y12_1 := cell_of q12v23 1 rfl
          have y14_0 := cell_of q14v23 0 rfl
          have y14_1 := cell_of q14v23 1 rfl
          have y16_0 := cell_of q16v23 0 rfl
          have y16_1 := cell_of q16v23 1 rfl
          go_wp2_with fail
          clear y2_0 y2_1 y3_0 y3_1 y5_0 y5_1 y7_0 y7_1 y9_0 y9_1 y11_0 y11_1 y12_0 y12_1 y14_0 y14_1 y16_0 y16_1
          refine ((Valid_any _ na A v23 n2v23 hla)).mono ?_
          rintro e v24 ⟨rfl, hbv24⟩
          rw [← HOA.out]
          have q2v24 := (hbv24.block _ (Array.getElem?_eq_some_iff.1 q2v23).1).trans q2v23
          have n2v24 := n2v23.later hbv24
          have q3v24 := (hbv24.block _ (Array.getElem?_eq_some_iff.1 q3v23).1).trans q3v23
          have n3v24 := n3v23.later hbv24
          have q5v24 := (hbv24.block _ (Array.getElem?_eq_some_iff.1 q5v23).1).trans q5v23
          have n5v24 := n5v23.later hbv24
          have q7v24 := (hbv24.block _ (Array.getElem?_eq_some_iff.1 q7v23).1).trans q7v23
          have n7v24 := n7v23.later hbv24
          have q9v24 := (hbv24.block _ (Array.getElem?_eq_some_iff.1 q9v23).1).trans q9v23
          have n9v24 := n9v23.later hbv24
          have q11v24 := (hbv24.block _ (Array.getElem?_eq_some_iff.1 q11v23).1).trans q11v23
          have n11v24 := n11v23.later hbv24
          have q12v24 := (hbv24.block _ (Array.getElem?_eq_some_iff.1 q12v23).1).trans q12v23
          have n12v24 := n12v23.later hbv24
          have q14v24 := (hbv24.block _ (Array.getElem?_eq_some_iff.1 q14v23).1).trans q14v23
          have n14v24 := n14v23.later hbv24
          have q16v24 := (hbv24.block _ (Array.getElem?_eq_some_iff.1 q16v23).1).trans q16v23
          have n16v24 := n16v23.later hbv24
          have hBXv24 := hBXv23.trans (hbv24.mono hBXv23.size)
          go_wp2
          go_ret
          exact ⟨rfl, hBXv24⟩
        · -- b long
          have z2_0 := cell_of q2w6 0 rfl
          have z2_1 := cell_of q2w6 1 rfl
          have z3_0 := cell_of q3w6 0 rfl
          have z3_1 := cell_of q3w6 1 rfl
          go_wp2
          go_ret
          exact ⟨rfl, hBXw6⟩
      · -- a long
        have z2_0 := cell_of q2w6 0 rfl
        have z2_1 := cell_of q2w6 1 rfl
        have z3_0 := cell_of q3w6 0 rfl
        have z3_1 := cell_of q3w6 1 rfl
        go_wp2
        go_ret
        exact ⟨rfl, hBXw6⟩
  | false =>
    by_cases hla2 : la ≤ 2000
    · -- a short
      by_cases hlb2 : lb ≤ 2000
      · -- b short
        have hoa0 : (false : Bool) = false := rfl
        have hbad : (okB na A && okB nb B) = false := by rw [← HOA.out, ← HOB.out, hoa0]; rfl
        have HBAD := Lib.hid hbad
        clear hbad
        have HBAD2 : Hid ((okB nb B && okB na A) = false) := Lib.hid (by rw [Bool.and_comm]; exact HBAD.out)
        have y2_0 := cell_of q2w5 0 rfl
        have y2_1 := cell_of q2w5 1 rfl
        have y3_0 := cell_of q3w5 0 rfl
        have y3_1 := cell_of q3w5 1 rfl
        go_wp2_with fail
        clear y2_0 y2_1 y3_0 y3_1
        refine ((bad_o (Add_bad _ _ na nb A B w5 n2w5 n3w5 hla hlb HBAD.out))).mono ?_
        rintro e v26 ⟨rfl, hbv26⟩
        have q2v26 := (hbv26.block _ (Array.getElem?_eq_some_iff.1 q2w5).1).trans q2w5
        have n2v26 := n2w5.later hbv26
        have q3v26 := (hbv26.block _ (Array.getElem?_eq_some_iff.1 q3w5).1).trans q3w5
        have n3v26 := n3w5.later hbv26
        have hBXv26 := hBXw5.trans (hbv26.mono hBXw5.size)
        obtain ⟨x27, hwx27⟩ : ∃ x, x = (v26.alloc (.cells #[.bool false, .slice none 0 0] 24)) := ⟨_, rfl⟩
        have hbx27 : Below v26.heap.size v26 x27 := by rw [hwx27]; exact (Below.refl _ _).alloc (by exact Nat.le_refl _) _
        have qn5 : x27.heap[v26.heap.size]? = some (.cells #[.bool false, .slice none 0 0] 24) := by rw [hwx27]; exact alloc_new _ _ rfl
        have q2x27 := (hbx27.block _ (Array.getElem?_eq_some_iff.1 q2v26).1).trans q2v26
        have n2x27 := n2v26.later hbx27
        have q3x27 := (hbx27.block _ (Array.getElem?_eq_some_iff.1 q3v26).1).trans q3v26
        have n3x27 := n3v26.later hbx27
        have n5x27 := (zero_num v26).later hbx27
        have hBYx27 := hBXv26.trans (hbx27.mono hBXv26.size)
        have y2_0 := cell_of q2x27 0 rfl
        have y2_1 := cell_of q2x27 1 rfl
        have y3_0 := cell_of q3x27 0 rfl
        have y3_1 := cell_of q3x27 1 rfl
        have y5_0 := cell_of qn5 0 rfl
        have y5_1 := cell_of qn5 1 rfl
        rw [hwx27] at y2_0 y2_1 y3_0 y3_1 y5_0 y5_1
        have HHx27 := Lib.hid hwx27
        clear hwx27
        go_wp2_with fail
        clear y2_0 y2_1 y3_0 y3_1 y5_0 y5_1
        rw [← HHx27.out]
        refine ((bad_o (Sub_bad _ _ na nb A B x27 n2x27 n3x27 hla hlb HBAD.out))).mono ?_
        rintro e v27 ⟨rfl, hbv27⟩
        have q2v27 := (hbv27.block _ (Array.getElem?_eq_some_iff.1 q2x27).1).trans q2x27
        have n2v27 := n2x27.later hbv27
        have q3v27 := (hbv27.block _ (Array.getElem?_eq_some_iff.1 q3x27).1).trans q3x27
        have n3v27 := n3x27.later hbv27
        have q5v27 := (hbv27.block _ (Array.getElem?_eq_some_iff.1 qn5).1).trans qn5
        have n5v27 := n5x27.later hbv27
        have hBXv27 := hBYx27.trans (hbv27.mono hBYx27.size)
        obtain ⟨x28, hwx28⟩ : ∃ x, x = (v27.alloc (.cells #[.bool false, .slice none 0 0] 24)) := ⟨_, rfl⟩
        have hbx28 : Below v27.heap.size v27 x28 := by rw [hwx28]; exact (Below.refl _ _).alloc (by exact Nat.le_refl _) _
        have qn7 : x28.heap[v27.heap.size]? = some (.cells #[.bool false, .slice none 0 0] 24) := by rw [hwx28]; exact alloc_new _ _ rfl
        have q2x28 := (hbx28.block _ (Array.getElem?_eq_some_iff.1 q2v27).1).trans q2v27
        have n2x28 := n2v27.later hbx28
        have q3x28 := (hbx28.block _ (Array.getElem?_eq_some_iff.1 q3v27).1).trans q3v27
        have n3x28 := n3v27.later hbx28
        have q5x28 := (hbx28.block _ (Array.getElem?_eq_some_iff.1 q5v27).1).trans q5v27
        have n5x28 := n5v27.later hbx28
        have n7x28 := (zero_num v27).later hbx28
        have hBYx28 := hBXv27.trans (hbx28.mono hBXv27.size)
        have y2_0 := cell_of q2x28 0 rfl
        have y2_1 := cell_of q2x28 1 rfl
        have y3_0 := cell_of q3x28 0 rfl
        have y3_1 := cell_of q3x28 1 rfl
        have y5_0 := cell_of q5x28 0 rfl
        have y5_1 := cell_of q5x28 1 rfl
        have y7_0 := cell_of qn7 0 rfl
        have y7_1 := cell_of qn7 1 rfl
        rw [hwx28] at y2_0 y2_1 y3_0 y3_1 y5_0 y5_1 y7_0 y7_1
        have HHx28 := Lib.hid hwx28
        clear hwx28
        go_wp2_with fail
        clear y2_0 y2_1 y3_0 y3_1 y5_0 y5_1 y7_0 y7_1
        rw [← HHx28.out]
        refine ((bad_o (Mul_bad _ _ na nb A B x28 n2x28 n3x28 hla hlb HBAD.out))).mono ?_
        rintro e v28 ⟨rfl, hbv28⟩
        have q2v28 := (hbv28.block _ (Array.getElem?_eq_some_iff.1 q2x28).1).trans q2x28
        have n2v28 := n2x28.later hbv28
        have q3v28 := (hbv28.block _ (Array.getElem?_eq_some_iff.1 q3x28).1).trans q3x28
        have n3v28 := n3x28.later hbv28
        have q5v28 := (hbv28.block _ (Array.getElem?_eq_some_iff.1 q5x28).1).trans q5x28
        have n5v28 := n5x28.later hbv28
        have q7v28 := (hbv28.block _ (Array.getElem?_eq_some_iff.1 qn7).1).trans qn7
        have n7v28 := n7x28.later hbv28
        have hBXv28 := hBYx28.trans (hbv28.mono hBYx28.size)
        obtain ⟨x29, hwx29⟩ : ∃ x, x = (v28.alloc (.cells #[.bool false, .slice none 0 0] 24)) := ⟨_, rfl⟩
        have hbx29 : Below v28.heap.size v28 x29 := by rw [hwx29]; exact (Below.refl _ _).alloc (by exact Nat.le_refl _) _
        have qn9 : x29.heap[v28.heap.size]? = some (.cells #[.bool false, .slice none 0 0] 24) := by rw [hwx29]; exact alloc_new _ _ rfl
        have q2x29 := (hbx29.block _ (Array.getElem?_eq_some_iff.1 q2v28).1).trans q2v28
        have n2x29 := n2v28.later hbx29
        have q3x29 := (hbx29.block _ (Array.getElem?_eq_some_iff.1 q3v28).1).trans q3v28
        have n3x29 := n3v28.later hbx29
        have q5x29 := (hbx29.block _ (Array.getElem?_eq_some_iff.1 q5v28).1).trans q5v28
        have n5x29 := n5v28.later hbx29
        have q7x29 := (hbx29.block _ (Array.getElem?_eq_some_iff.1 q7v28).1).trans q7v28
        have n7x29 := n7v28.later hbx29
        have n9x29 := (zero_num v28).later hbx29
        have hBYx29 := hBXv28.trans (hbx29.mono hBXv28.size)
        have y2_0 := cell_of q2x29 0 rfl
        have y2_1 := cell_of q2x29 1 rfl
        have y3_0 := cell_of q3x29 0 rfl
        have y3_1 := cell_of q3x29 1 rfl
        have y5_0 := cell_of q5x29 0 rfl
        have y5_1 := cell_of q5x29 1 rfl
        have y7_0 := cell_of q7x29 0 rfl
        have y7_1 := cell_of q7x29 1 rfl
        have y9_0 := cell_of qn9 0 rfl
        have y9_1 := cell_of qn9 1 rfl
        rw [hwx29] at y2_0 y2_1 y3_0 y3_1 y5_0 y5_1 y7_0 y7_1 y9_0 y9_1
        have HHx29 := Lib.hid hwx29
        clear hwx29
        go_wp2_with fail
        clear y2_0 y2_1 y3_0 y3_1 y5_0 y5_1 y7_0 y7_1 y9_0 y9_1
        rw [← HHx29.out]
        refine ((div_o (DivMod_bad _ _ na nb A B x29 n2x29 n3x29 hla hlb HBAD.out))).mono ?_
        rintro e v29 ⟨rfl, hbv29⟩
        have q2v29 := (hbv29.block _ (Array.getElem?_eq_some_iff.1 q2x29).1).trans q2x29
        have n2v29 := n2x29.later hbv29
        have q3v29 := (hbv29.block _ (Array.getElem?_eq_some_iff.1 q3x29).1).trans q3x29
        have n3v29 := n3x29.later hbv29
        have q5v29 := (hbv29.block _ (Array.getElem?_eq_some_iff.1 q5x29).1).trans q5x29
        have n5v29 := n5x29.later hbv29
        have q7v29 := (hbv29.block _ (Array.getElem?_eq_some_iff.1 q7x29).1).trans q7x29
        have n7v29 := n7x29.later hbv29
        have q9v29 := (hbv29.block _ (Array.getElem?_eq_some_iff.1 qn9).1).trans qn9
        have n9v29 := n9x29.later hbv29
        have hBXv29 := hBYx29.trans (hbv29.mono hBYx29.size)
        obtain ⟨x30, hwx30⟩ : ∃ x, x = ((v29.alloc (.cells #[.bool false, .slice none 0 0] 24)).alloc (.cells #[.bool false, .slice none 0 0] 24)) := ⟨_, rfl⟩
        have hbx30 : Below v29.heap.size v29 x30 := by rw [hwx30]; exact ((Below.refl _ _).alloc (by exact Nat.le_refl _) _).alloc (by simp) _
        have qn11 : x30.heap[v29.heap.size]? = some (.cells #[.bool false, .slice none 0 0] 24) := by rw [hwx30]; exact alloc_old _ _ (alloc_new _ _ rfl)
        have qn12 : x30.heap[v29.heap.size + 1]? = some (.cells #[.bool false, .slice none 0 0] 24) := by rw [hwx30]; exact alloc_new _ _ (by simp)
        have q2x30 := (hbx30.block _ (Array.getElem?_eq_some_iff.1 q2v29).1).trans q2v29
        have n2x30 := n2v29.later hbx30
        have q3x30 := (hbx30.block _ (Array.getElem?_eq_some_iff.1 q3v29).1).trans q3v29
        have n3x30 := n3v29.later hbx30
        have q5x30 := (hbx30.block _ (Array.getElem?_eq_some_iff.1 q5v29).1).trans q5v29
        have n5x30 := n5v29.later hbx30
        have q7x30 := (hbx30.block _ (Array.getElem?_eq_some_iff.1 q7v29).1).trans q7v29
        have n7x30 := n7v29.later hbx30
        have q9x30 := (hbx30.block _ (Array.getElem?_eq_some_iff.1 q9v29).1).trans q9v29
        have n9x30 := n9v29.later hbx30
        have n11x30 := (zero_num v29).later hbx30
        have n12x30 := (zero_num v29).later hbx30
        have hBYx30 := hBXv29.trans (hbx30.mono hBXv29.size)
        have y2_0 := cell_of q2x30 0 rfl
        have y2_1 := cell_of q2x30 1 rfl
        have y3_0 := cell_of q3x30 0 rfl
        have y3_1 := cell_of q3x30 1 rfl
        have y5_0 := cell_of q5x30 0 rfl
        have y5_1 := cell_of q5x30 1 rfl
        have y7_0 := cell_of q7x30 0 rfl
        have y7_1 := cell_of q7x30 1 rfl
        have y9_0 := cell_of q9x30 0 rfl
        have y9_1 := cell_of q9x30 1 rfl
        have y11_0 := cell_of qn11 0 rfl
        have y11_1 := cell_of qn11 1 rfl
        have y12_0 := cell_of qn12 0 rfl
        have y12_1 := cell_of qn12 1 rfl
        rw [hwx30] at y2_0 y2_1 y3_0 y3_1 y5_0 y5_1 y7_0 y7_1 y9_0 y9_1 y11_0 y11_1 y12_0 y12_1
        have HHx30 := Lib.hid hwx30
        clear hwx30
        go_wp2_with fail
        clear y2_0 y2_1 y3_0 y3_1 y5_0 y5_1 y7_0 y7_1 y9_0 y9_1 y11_0 y11_1 y12_0 y12_1
        rw [← HHx30.out]
        refine ((bad_o (Gcd_bad _ _ na nb A B x30 n2x30 n3x30 hla hlb HBAD.out))).mono ?_
        rintro e v30 ⟨rfl, hbv30⟩
        have q2v30 := (hbv30.block _ (Array.getElem?_eq_some_iff.1 q2x30).1).trans q2x30
        have n2v30 := n2x30.later hbv30
        have q3v30 := (hbv30.block _ (Array.getElem?_eq_some_iff.1 q3x30).1).trans q3x30
        have n3v30 := n3x30.later hbv30
        have q5v30 := (hbv30.block _ (Array.getElem?_eq_some_iff.1 q5x30).1).trans q5x30
        have n5v30 := n5x30.later hbv30
        have q7v30 := (hbv30.block _ (Array.getElem?_eq_some_iff.1 q7x30).1).trans q7x30
        have n7v30 := n7x30.later hbv30
        have q9v30 := (hbv30.block _ (Array.getElem?_eq_some_iff.1 q9x30).1).trans q9x30
        have n9v30 := n9x30.later hbv30
        have q11v30 := (hbv30.block _ (Array.getElem?_eq_some_iff.1 qn11).1).trans qn11
        have n11v30 := n11x30.later hbv30
        have q12v30 := (hbv30.block _ (Array.getElem?_eq_some_iff.1 qn12).1).trans qn12
        have n12v30 := n12x30.later hbv30
        have hBXv30 := hBYx30.trans (hbv30.mono hBYx30.size)
        obtain ⟨x31, hwx31⟩ : ∃ x, x = ((v30.alloc (.cells #[.bool false, .slice none 0 0] 24)).alloc (.cells #[.bool false, .slice none 0 0] 24)) := ⟨_, rfl⟩
        have hbx31 : Below v30.heap.size v30 x31 := by rw [hwx31]; exact ((Below.refl _ _).alloc (by exact Nat.le_refl _) _).alloc (by simp) _
        have qn14 : x31.heap[v30.heap.size]? = some (.cells #[.bool false, .slice none 0 0] 24) := by rw [hwx31]; exact alloc_old _ _ (alloc_new _ _ rfl)
        have qn16 : x31.heap[v30.heap.size + 1]? = some (.cells #[.bool false, .slice none 0 0] 24) := by rw [hwx31]; exact alloc_new _ _ (by simp)
        have q2x31 := (hbx31.block _ (Array.getElem?_eq_some_iff.1 q2v30).1).trans q2v30
        have n2x31 := n2v30.later hbx31
        have q3x31 := (hbx31.block _ (Array.getElem?_eq_some_iff.1 q3v30).1).trans q3v30
        have n3x31 := n3v30.later hbx31
        have q5x31 := (hbx31.block _ (Array.getElem?_eq_some_iff.1 q5v30).1).trans q5v30
        have n5x31 := n5v30.later hbx31
        have q7x31 := (hbx31.block _ (Array.getElem?_eq_some_iff.1 q7v30).1).trans q7v30
        have n7x31 := n7v30.later hbx31
        have q9x31 := (hbx31.block _ (Array.getElem?_eq_some_iff.1 q9v30).1).trans q9v30
        have n9x31 := n9v30.later hbx31
        have q11x31 := (hbx31.block _ (Array.getElem?_eq_some_iff.1 q11v30).1).trans q11v30
        have n11x31 := n11v30.later hbx31
        have q12x31 := (hbx31.block _ (Array.getElem?_eq_some_iff.1 q12v30).1).trans q12v30
        have n12x31 := n12v30.later hbx31
        have n14x31 := (zero_num v30).later hbx31
        have n16x31 := (zero_num v30).later hbx31
        have hBYx31 := hBXv30.trans (hbx31.mono hBXv30.size)
        have y2_0 := cell_of q2x31 0 rfl
        have y2_1 := cell_of q2x31 1 rfl
        have y3_0 := cell_of q3x31 0 rfl
        have y3_1 := cell_of q3x31 1 rfl
        have y5_0 := cell_of q5x31 0 rfl
        have y5_1 := cell_of q5x31 1 rfl
        have y7_0 := cell_of q7x31 0 rfl
        have y7_1 := cell_of q7x31 1 rfl
        have y9_0 := cell_of q9x31 0 rfl
        have y9_1 := cell_of q9x31 1 rfl
        have y11_0 := cell_of q11x31 0 rfl
        have y11_1 := cell_of q11x31 1 rfl
        have y12_0 := cell_of q12x31 0 rfl
        have y12_1 := cell_of q12x31 1 rfl
        have y14_0 := cell_of qn14 0 rfl
        have y14_1 := cell_of qn14 1 rfl
        have y16_0 := cell_of qn16 0 rfl
        have y16_1 := cell_of qn16 1 rfl
        rw [hwx31] at y2_0 y2_1 y3_0 y3_1 y5_0 y5_1 y7_0 y7_1 y9_0 y9_1 y11_0 y11_1 y12_0 y12_1 y14_0 y14_1 y16_0 y16_1
        have HHx31 := Lib.hid hwx31
        clear hwx31
        go_wp2_with fail
        clear y2_0 y2_1 y3_0 y3_1 y5_0 y5_1 y7_0 y7_1 y9_0 y9_1 y11_0 y11_1 y12_0 y12_1 y14_0 y14_1 y16_0 y16_1
        rw [← HHx31.out]
        refine ((id (Cmp_bad _ _ na nb A B x31 n2x31 n3x31 hla hlb HBAD.out))).mono ?_
        rintro e v31 ⟨rfl, hbv31⟩
        have q2v31 := (hbv31.block _ (Array.getElem?_eq_some_iff.1 q2x31).1).trans q2x31
        have n2v31 := n2x31.later hbv31
        have q3v31 := (hbv31.block _ (Array.getElem?_eq_some_iff.1 q3x31).1).trans q3x31
        have n3v31 := n3x31.later hbv31
        have q5v31 := (hbv31.block _ (Array.getElem?_eq_some_iff.1 q5x31).1).trans q5x31
        have n5v31 := n5x31.later hbv31
        have q7v31 := (hbv31.block _ (Array.getElem?_eq_some_iff.1 q7x31).1).trans q7x31
        have n7v31 := n7x31.later hbv31
        have q9v31 := (hbv31.block _ (Array.getElem?_eq_some_iff.1 q9x31).1).trans q9x31
        have n9v31 := n9x31.later hbv31
        have q11v31 := (hbv31.block _ (Array.getElem?_eq_some_iff.1 q11x31).1).trans q11x31
        have n11v31 := n11x31.later hbv31
        have q12v31 := (hbv31.block _ (Array.getElem?_eq_some_iff.1 q12x31).1).trans q12x31
        have n12v31 := n12x31.later hbv31
        have q14v31 := (hbv31.block _ (Array.getElem?_eq_some_iff.1 qn14).1).trans qn14
        have n14v31 := n14x31.later hbv31
        have q16v31 := (hbv31.block _ (Array.getElem?_eq_some_iff.1 qn16).1).trans qn16
        have n16v31 := n16x31.later hbv31
        have hBXv31 := hBYx31.trans (hbv31.mono hBYx31.size)
        have y2_0 := cell_of q2v31 0 rfl
        have y2_1 := cell_of q2v31 1 rfl
        have y3_0 := cell_of q3v31 0 rfl
        have y3_1 := cell_of q3v31 1 rfl
        have y5_0 := cell_of q5v31 0 rfl
        have y5_1 := cell_of q5v31 1 rfl
        have y7_0 := cell_of q7v31 0 rfl
        have y7_1 := cell_of q7v31 1 rfl
        have y9_0 := cell_of q9v31 0 rfl
        have y9_1 := cell_of q9v31 1 rfl
        have y11_0 := cell_of q11v31 0 rfl
        have y11_1 := cell_of q11v31 1 rfl
        have y12_0 := cell_of q12v31 0 rfl
        have y12_1 := cell_of q12v31 1 rfl
        have y14_0 := cell_of q14v31 0 rfl
        have y14_1 := cell_of q14v31 1 rfl
        have y16_0 := cell_of q16v31 0 rfl
        have y16_1 := cell_of q16v31 1 rfl
        go_wp2_with fail
        clear y2_0 y2_1 y3_0 y3_1 y5_0 y5_1 y7_0 y7_1 y9_0 y9_1 y11_0 y11_1 y12_0 y12_1 y14_0 y14_1 y16_0 y16_1
        refine ((id (Cmp_bad _ _ nb na B A v31 n3v31 n2v31 hlb hla HBAD2.out))).mono ?_
        rintro e v32 ⟨rfl, hbv32⟩
        have q2v32 := (hbv32.block _ (Array.getElem?_eq_some_iff.1 q2v31).1).trans q2v31
        have n2v32 := n2v31.later hbv32
        have q3v32 := (hbv32.block _ (Array.getElem?_eq_some_iff.1 q3v31).1).trans q3v31
        have n3v32 := n3v31.later hbv32
        have q5v32 := (hbv32.block _ (Array.getElem?_eq_some_iff.1 q5v31).1).trans q5v31
        have n5v32 := n5v31.later hbv32
        have q7v32 := (hbv32.block _ (Array.getElem?_eq_some_iff.1 q7v31).1).trans q7v31
        have n7v32 := n7v31.later hbv32
        have q9v32 := (hbv32.block _ (Array.getElem?_eq_some_iff.1 q9v31).1).trans q9v31
        have n9v32 := n9v31.later hbv32
        have q11v32 := (hbv32.block _ (Array.getElem?_eq_some_iff.1 q11v31).1).trans q11v31
        have n11v32 := n11v31.later hbv32
        have q12v32 := (hbv32.block _ (Array.getElem?_eq_some_iff.1 q12v31).1).trans q12v31
        have n12v32 := n12v31.later hbv32
        have q14v32 := (hbv32.block _ (Array.getElem?_eq_some_iff.1 q14v31).1).trans q14v31
        have n14v32 := n14v31.later hbv32
        have q16v32 := (hbv32.block _ (Array.getElem?_eq_some_iff.1 q16v31).1).trans q16v31
        have n16v32 := n16v31.later hbv32
        have hBXv32 := hBXv31.trans (hbv32.mono hBXv31.size)
        have y2_0 := cell_of q2v32 0 rfl
        have y2_1 := cell_of q2v32 1 rfl
        have y3_0 := cell_of q3v32 0 rfl
        have y3_1 := cell_of q3v32 1 rfl
        have y5_0 := cell_of q5v32 0 rfl
        have y5_1 := cell_of q5v32 1 rfl
        have y7_0 := cell_of q7v32 0 rfl
        have y7_1 := cell_of q7v32 1 rfl
        have y9_0 := cell_of q9v32 0 rfl
        have y9_1 := cell_of q9v32 1 rfl
        have y11_0 := cell_of q11v32 0 rfl
        have y11_1 := cell_of q11v32 1 rfl
        have y12_0 := cell_of q12v32 0 rfl
        have y12_1 := cell_of q12v32 1 rfl
        have y14_0 := cell_of q14v32 0 rfl
        have y14_1 := cell_of q14v32 1 rfl
        have y16_0 := cell_of q16v32 0 rfl
        have y16_1 := cell_of q16v32 1 rfl
        go_wp2_with fail
        clear y2_0 y2_1 y3_0 y3_1 y5_0 y5_1 y7_0 y7_1 y9_0 y9_1 y11_0 y11_1 y12_0 y12_1 y14_0 y14_1 y16_0 y16_1
        refine ((equal_true _ _ 0 0 v32 n5v32 n16v32 rfl)).mono ?_
        rintro e v33 ⟨rfl, hbv33⟩
        have q2v33 := (hbv33.block _ (Array.getElem?_eq_some_iff.1 q2v32).1).trans q2v32
        have n2v33 := n2v32.later hbv33
        have q3v33 := (hbv33.block _ (Array.getElem?_eq_some_iff.1 q3v32).1).trans q3v32
        have n3v33 := n3v32.later hbv33
        have q5v33 := (hbv33.block _ (Array.getElem?_eq_some_iff.1 q5v32).1).trans q5v32
        have n5v33 := n5v32.later hbv33
        have q7v33 := (hbv33.block _ (Array.getElem?_eq_some_iff.1 q7v32).1).trans q7v32
        have n7v33 := n7v32.later hbv33
        have q9v33 := (hbv33.block _ (Array.getElem?_eq_some_iff.1 q9v32).1).trans q9v32
        have n9v33 := n9v32.later hbv33
        have q11v33 := (hbv33.block _ (Array.getElem?_eq_some_iff.1 q11v32).1).trans q11v32
        have n11v33 := n11v32.later hbv33
        have q12v33 := (hbv33.block _ (Array.getElem?_eq_some_iff.1 q12v32).1).trans q12v32
        have n12v33 := n12v32.later hbv33
        have q14v33 := (hbv33.block _ (Array.getElem?_eq_some_iff.1 q14v32).1).trans q14v32
        have n14v33 := n14v32.later hbv33
        have q16v33 := (hbv33.block _ (Array.getElem?_eq_some_iff.1 q16v32).1).trans q16v32
        have n16v33 := n16v32.later hbv33
        have hBXv33 := hBXv32.trans (hbv33.mono hBXv32.size)
        have y2_0 := cell_of q2v33 0 rfl
        have y2_1 := cell_of q2v33 1 rfl
        have y3_0 := cell_of q3v33 0 rfl
        have y3_1 := cell_of q3v33 1 rfl
        have y5_0 := cell_of q5v33 0 rfl
        have y5_1 := cell_of q5v33 1 rfl
        have y7_0 := cell_of q7v33 0 rfl
        have y7_1 := cell_of q7v33 1 rfl
        have y9_0 := cell_of q9v33 0 rfl
        have y9_1 := cell_of q9v33 1 rfl
        have y11_0 := cell_of q11v33 0 rfl
        have y11_1 := cell_of q11v33 1 rfl
        have y12_0 := cell_of q12v33 0 rfl
        have y12_1 := cell_of q12v33 1 rfl
        have y14_0 := cell_of q14v33 0 rfl
        have y14_1 := cell_of q14v33 1 rfl
        have y16_0 := cell_of q16v33 0 rfl
        have y16_1 := cell_of q16v33 1 rfl
        go_wp2_with fail
        clear y2_0 y2_1 y3_0 y3_1 y5_0 y5_1 y7_0 y7_1 y9_0 y9_1 y11_0 y11_1 y12_0 y12_1 y14_0 y14_1 y16_0 y16_1
        refine ((equal_true _ _ 0 0 v33 n7v33 n16v33 rfl)).mono ?_
        rintro e v34 ⟨rfl, hbv34⟩
        have q2v34 := (hbv34.block _ (Array.getElem?_eq_some_iff.1 q2v33).1).trans q2v33
        have n2v34 := n2v33.later hbv34
        have q3v34 := (hbv34.block _ (Array.getElem?_eq_some_iff.1 q3v33).1).trans q3v33
        have n3v34 := n3v33.later hbv34
        have q5v34 := (hbv34.block _ (Array.getElem?_eq_some_iff.1 q5v33).1).trans q5v33
        have n5v34 := n5v33.later hbv34
        have q7v34 := (hbv34.block _ (Array.getElem?_eq_some_iff.1 q7v33).1).trans q7v33
        have n7v34 := n7v33.later hbv34
        have q9v34 := (hbv34.block _ (Array.getElem?_eq_some_iff.1 q9v33).1).trans q9v33
        have n9v34 := n9v33.later hbv34
        have q11v34 := (hbv34.block _ (Array.getElem?_eq_some_iff.1 q11v33).1).trans q11v33
        have n11v34 := n11v33.later hbv34
        have q12v34 := (hbv34.block _ (Array.getElem?_eq_some_iff.1 q12v33).1).trans q12v33
        have n12v34 := n12v33.later hbv34
        have q14v34 := (hbv34.block _ (Array.getElem?_eq_some_iff.1 q14v33).1).trans q14v33
        have n14v34 := n14v33.later hbv34
        have q16v34 := (hbv34.block _ (Array.getElem?_eq_some_iff.1 q16v33).1).trans q16v33
        have n16v34 := n16v33.later hbv34
        have hBXv34 := hBXv33.trans (hbv34.mono hBXv33.size)
        have y2_0 := cell_of q2v34 0 rfl
        have y2_1 := cell_of q2v34 1 rfl
        have y3_0 := cell_of q3v34 0 rfl
        have y3_1 := cell_of q3v34 1 rfl
        have y5_0 := cell_of q5v34 0 rfl
        have y5_1 := cell_of q5v34 1 rfl
        have y7_0 := cell_of q7v34 0 rfl
        have y7_1 := cell_of q7v34 1 rfl
        have y9_0 := cell_of q9v34 0 rfl
        have y9_1 := cell_of q9v34 1 rfl
        have y11_0 := cell_of q11v34 0 rfl
        have y11_1 := cell_of q11v34 1 rfl
        have y12_0 := cell_of q12v34 0 rfl
        have y12_1 := cell_of q12v34 1 rfl
        have y14_0 := cell_of q14v34 0 rfl
        have y14_1 := cell_of q14v34 1 rfl
        have y16_0 := cell_of q16v34 0 rfl
        have y16_1 := cell_of q16v34 1 rfl
        go_wp2_with fail
        clear y2_0 y2_1 y3_0 y3_1 y5_0 y5_1 y7_0 y7_1 y9_0 y9_1 y11_0 y11_1 y12_0 y12_1 y14_0 y14_1 y16_0 y16_1
        refine ((equal_true _ _ 0 0 v34 n9v34 n16v34 rfl)).mono ?_
        rintro e v35 ⟨rfl, hbv35⟩
        have q2v35 := (hbv35.block _ (Array.getElem?_eq_some_iff.1 q2v34).1).trans q2v34
        have n2v35 := n2v34.later hbv35
        have q3v35 := (hbv35.block _ (Array.getElem?_eq_some_iff.1 q3v34).1).trans q3v34
        have n3v35 := n3v34.later hbv35
        have q5v35 := (hbv35.block _ (Array.getElem?_eq_some_iff.1 q5v34).1).trans q5v34
        have n5v35 := n5v34.later hbv35
        have q7v35 := (hbv35.block _ (Array.getElem?_eq_some_iff.1 q7v34).1).trans q7v34
        have n7v35 := n7v34.later hbv35
        have q9v35 := (hbv35.block _ (Array.getElem?_eq_some_iff.1 q9v34).1).trans q9v34
        have n9v35 := n9v34.later hbv35
        have q11v35 := (hbv35.block _ (Array.getElem?_eq_some_iff.1 q11v34).1).trans q11v34
        have n11v35 := n11v34.later hbv35
        have q12v35 := (hbv35.block _ (Array.getElem?_eq_some_iff.1 q12v34).1).trans q12v34
        have n12v35 := n12v34.later hbv35
        have q14v35 := (hbv35.block _ (Array.getElem?_eq_some_iff.1 q14v34).1).trans q14v34
        have n14v35 := n14v34.later hbv35
        have q16v35 := (hbv35.block _ (Array.getElem?_eq_some_iff.1 q16v34).1).trans q16v34
        have n16v35 := n16v34.later hbv35
        have hBXv35 := hBXv34.trans (hbv35.mono hBXv34.size)
        have y2_0 := cell_of q2v35 0 rfl
        have y2_1 := cell_of q2v35 1 rfl
        have y3_0 := cell_of q3v35 0 rfl
        have y3_1 := cell_of q3v35 1 rfl
        have y5_0 := cell_of q5v35 0 rfl
        have y5_1 := cell_of q5v35 1 rfl
        have y7_0 := cell_of q7v35 0 rfl
        have y7_1 := cell_of q7v35 1 rfl
        have y9_0 := cell_of q9v35 0 rfl
        have y9_1 := cell_of q9v35 1 rfl
        have y11_0 := cell_of q11v35 0 rfl
        have y11_1 := cell_of q11v35 1 rfl
        have y12_0 := cell_of q12v35 0 rfl
        have y12_1 := cell_of q12v35 1 rfl
        have y14_0 := cell_of q14v35 0 rfl
        have y14_1 := cell_of q14v35 1 rfl
        have y16_0 := cell_of q16v35 0 rfl
        have y16_1 := cell_of q16v35 1 rfl
        go_wp2_with fail
        clear y2_0 y2_1 y3_0 y3_1 y5_0 y5_1 y7_0 y7_1 y9_0 y9_1 y11_0 y11_1 y12_0 y12_1 y14_0 y14_1 y16_0 y16_1
        refine ((equal_true _ _ 0 0 v35 n11v35 n16v35 rfl)).mono ?_
        rintro e v36 ⟨rfl, hbv36⟩
        have q2v36 := (hbv36.block _ (Array.getElem?_eq_some_iff.1 q2v35).1).trans q2v35
        have n2v36 := n2v35.later hbv36
        have q3v36 := (hbv36.block _ (Array.getElem?_eq_some_iff.1 q3v35).1).trans q3v35
        have n3v36 := n3v35.later hbv36
        have q5v36 := (hbv36.block _ (Array.getElem?_eq_some_iff.1 q5v35).1).trans q5v35
        have n5v36 := n5v35.later hbv36
        have q7v36 := (hbv36.block _ (Array.getElem?_eq_some_iff.1 q7v35).1).trans q7v35
        have n7v36 := n7v35.later hbv36
        have q9v36 := (hbv36.block _ (Array.getElem?_eq_some_iff.1 q9v35).1).trans q9v35
        have n9v36 := n9v35.later hbv36
        have q11v36 := (hbv36.block _ (Array.getElem?_eq_some_iff.1 q11v35).1).trans q11v35
        have n11v36 := n11v35.later hbv36
        have q12v36 := (hbv36.block _ (Array.getElem?_eq_some_iff.1 q12v35).1).trans q12v35
        have n12v36 := n12v35.later hbv36
        have q14v36 := (hbv36.block _ (Array.getElem?_eq_some_iff.1 q14v35).1).trans q14v35
        have n14v36 := n14v35.later hbv36
        have q16v36 := (hbv36.block _ (Array.getElem?_eq_some_iff.1 q16v35).1).trans q16v35
        have n16v36 := n16v35.later hbv36
        have hBXv36 := hBXv35.trans (hbv36.mono hBXv35.size)
        have y2_0 := cell_of q2v36 0 rfl
        have y2_1 := cell_of q2v36 1 rfl
        have y3_0 := cell_of q3v36 0 rfl
        have y3_1 := cell_of q3v36 1 rfl
        have y5_0 := cell_of q5v36 0 rfl
        have y5_1 := cell_of q5v36 1 rfl
        have y7_0 := cell_of q7v36 0 rfl
        have y7_1 := cell_of q7v36 1 rfl
        have y9_0 := cell_of q9v36 0 rfl
        have y9_1 := cell_of q9v36 1 rfl
        have y11_0 := cell_of q11v36 0 rfl
        have y11_1 := cell_of q11v36 1 rfl
        have y12_0 := cell_of q12v36 0 rfl
        have y12_1 := cell_of q12v36 1 rfl
        have y14_0 := cell_of q14v36 0 rfl
        have y14_1 := cell_of q14v36 1 rfl
        have y16_0 := cell_of q16v36 0 rfl
        have y16_1 := cell_of q16v36 1 rfl
        go_wp2_with fail
        clear y2_0 y2_1 y3_0 y3_1 y5_0 y5_1 y7_0 y7_1 y9_0 y9_1 y11_0 y11_1 y12_0 y12_1 y14_0 y14_1 y16_0 y16_1
        refine ((equal_true _ _ 0 0 v36 n12v36 n16v36 rfl)).mono ?_
        rintro e v37 ⟨rfl, hbv37⟩
        have q2v37 := (hbv37.block _ (Array.getElem?_eq_some_iff.1 q2v36).1).trans q2v36
        have n2v37 := n2v36.later hbv37
        have q3v37 := (hbv37.block _ (Array.getElem?_eq_some_iff.1 q3v36).1).trans q3v36
        have n3v37 := n3v36.later hbv37
        have q5v37 := (hbv37.block _ (Array.getElem?_eq_some_iff.1 q5v36).1).trans q5v36
        have n5v37 := n5v36.later hbv37
        have q7v37 := (hbv37.block _ (Array.getElem?_eq_some_iff.1 q7v36).1).trans q7v36
        have n7v37 := n7v36.later hbv37
        have q9v37 := (hbv37.block _ (Array.getElem?_eq_some_iff.1 q9v36).1).trans q9v36
        have n9v37 := n9v36.later hbv37
        have q11v37 := (hbv37.block _ (Array.getElem?_eq_some_iff.1 q11v36).1).trans q11v36
        have n11v37 := n11v36.later hbv37
        have q12v37 := (hbv37.block _ (Array.getElem?_eq_some_iff.1 q12v36).1).trans q12v36
        have n12v37 := n12v36.later hbv37
        have q14v37 := (hbv37.block _ (Array.getElem?_eq_some_iff.1 q14v36).1).trans q14v36
        have n14v37 := n14v36.later hbv37
        have q16v37 := (hbv37.block _ (Array.getElem?_eq_some_iff.1 q16v36).1).trans q16v36
        have n16v37 := n16v36.later hbv37
        have hBXv37 := hBXv36.trans (hbv37.mono hBXv36.size)
        have y2_0 := cell_of q2v37 0 rfl
        have y2_1 := cell_of q2v37 1 rfl
        have y3_0 := cell_of q3v37 0 rfl
        have y3_1 := cell_of q3v37 1 rfl
        have y5_0 := cell_of q5v37 0 rfl
        have y5_1 := cell_of q5v37 1 rfl
        have y7_0 := cell_of q7v37 0 rfl
        have y7_1 := cell_of q7v37 1 rfl
        have y9_0 := cell_of q9v37 0 rfl
        have y9_1 := cell_of q9v37 1 rfl
        have y11_0 := cell_of q11v37 0 rfl
        have y11_1 := cell_of q11v37 1 rfl
        have y12_0 := cell_of q12v37 0 rfl
        have y12_1 := cell_of q12v37 1 rfl
        have y14_0 := cell_of q14v37 0 rfl
        have y14_1 := cell_of q14v37 1 rfl
        have y16_0 := cell_of q16v37 0 rfl
        have y16_1 := cell_of q16v37 1 rfl
        go_wp2_with fail
        clear y2_0 y2_1 y3_0 y3_1 y5_0 y5_1 y7_0 y7_1 y9_0 y9_1 y11_0 y11_1 y12_0 y12_1 y14_0 y14_1 y16_0 y16_1
        refine ((equal_true _ _ 0 0 v37 n14v37 n16v37 rfl)).mono ?_
        rintro e v38 ⟨rfl, hbv38⟩
        have q2v38 := (hbv38.block _ (Array.getElem?_eq_some_iff.1 q2v37).1).trans q2v37
        have n2v38 := n2v37.later hbv38
        have q3v38 := (hbv38.block _ (Array.getElem?_eq_some_iff.1 q3v37).1).trans q3v37
        have n3v38 := n3v37.later hbv38
        have q5v38 := (hbv38.block _ (Array.getElem?_eq_some_iff.1 q5v37).1).trans q5v37
        have n5v38 := n5v37.later hbv38
        have q7v38 := (hbv38.block _ (Array.getElem?_eq_some_iff.1 q7v37).1).trans q7v37
        have n7v38 := n7v37.later hbv38
        have q9v38 := (hbv38.block _ (Array.getElem?_eq_some_iff.1 q9v37).1).trans q9v37
        have n9v38 := n9v37.later hbv38
        have q11v38 := (hbv38.block _ (Array.getElem?_eq_some_iff.1 q11v37).1).trans q11v37
        have n11v38 := n11v37.later hbv38
        have q12v38 := (hbv38.block _ (Array.getElem?_eq_some_iff.1 q12v37).1).trans q12v37
        have n12v38 := n12v37.later hbv38
        have q14v38 := (hbv38.block _ (Array.getElem?_eq_some_iff.1 q14v37).1).trans q14v37
        have n14v38 := n14v37.later hbv38
        have q16v38 := (hbv38.block _ (Array.getElem?_eq_some_iff.1 q16v37).1).trans q16v37
        have n16v38 := n16v37.later hbv38
        have hBXv38 := hBXv37.trans (hbv38.mono hBXv37.size)
        have y2_0 := cell_of q2v38 0 rfl
        have y2_1 := cell_of q2v38 1 rfl
        have y3_0 := cell_of q3v38 0 rfl
        have y3_1 := cell_of q3v38 1 rfl
        have y5_0 := cell_of q5v38 0 rfl
        have y5_1 := cell_of q5v38 1 rfl
        have y7_0 := cell_of q7v38 0 rfl
        have y7_1 := cell_of q7v38 1 rfl
        have y9_0 := cell_of q9v38 0 rfl
        have y9_1 := cell_of q9v38 1 rfl
        have y11_0 := cell_of q11v38 0 rfl
        have y11_1 := cell_of q11v38 1 rfl
        have y12_0 := cell_of q12v38 0 rfl
        have y12_1 := cell_of q12v38 1 rfl
        have y14_0 := cell_of q14v38 0 rfl
        have y14_1 := cell_of q14v38 1 rfl
        have y16_0 := cell_of q16v38 0 rfl
        have y16_1 := cell_of q16v38 1 rfl
        go_wp2_with fail
        clear y2_0 y2_1 y3_0 y3_1 y5_0 y5_1 y7_0 y7_1 y9_0 y9_1 y11_0 y11_1 y12_0 y12_1 y14_0 y14_1 y16_0 y16_1
        refine ((Valid_any _ na A v38 n2v38 hla)).mono ?_
        rintro e v39 ⟨rfl, hbv39⟩
        rw [← HOA.out]
        have q2v39 := (hbv39.block _ (Array.getElem?_eq_some_iff.1 q2v38).1).trans q2v38
        have n2v39 := n2v38.later hbv39
        have q3v39 := (hbv39.block _ (Array.getElem?_eq_some_iff.1 q3v38).1).trans q3v38
        have n3v39 := n3v38.later hbv39
        have q5v39 := (hbv39.block _ (Array.getElem?_eq_some_iff.1 q5v38).1).trans q5v38
        have n5v39 := n5v38.later hbv39
        have q7v39 := (hbv39.block _ (Array.getElem?_eq_some_iff.1 q7v38).1).trans q7v38
        have n7v39 := n7v38.later hbv39
        have q9v39 := (hbv39.block _ (Array.getElem?_eq_some_iff.1 q9v38).1).trans q9v38
        have n9v39 := n9v38.later hbv39
        have q11v39 := (hbv39.block _ (Array.getElem?_eq_some_iff.1 q11v38).1).trans q11v38
        have n11v39 := n11v38.later hbv39
        have q12v39 := (hbv39.block _ (Array.getElem?_eq_some_iff.1 q12v38).1).trans q12v38
        have n12v39 := n12v38.later hbv39
        have q14v39 := (hbv39.block _ (Array.getElem?_eq_some_iff.1 q14v38).1).trans q14v38
        have n14v39 := n14v38.later hbv39
        have q16v39 := (hbv39.block _ (Array.getElem?_eq_some_iff.1 q16v38).1).trans q16v38
        have n16v39 := n16v38.later hbv39
        have hBXv39 := hBXv38.trans (hbv39.mono hBXv38.size)
        have y2_0 := cell_of q2v39 0 rfl
        have y2_1 := cell_of q2v39 1 rfl
        have y3_0 := cell_of q3v39 0 rfl
        have y3_1 := cell_of q3v39 1 rfl
        have y5_0 := cell_of q5v39 0 rfl
        have y5_1 := cell_of q5v39 1 rfl
        have y7_0 := cell_of q7v39 0 rfl
        have y7_1 := cell_of q7v39 1 rfl
        have y9_0 := cell_of q9v39 0 rfl
        have y9_1 := cell_of q9v39 1 rfl
        have y11_0 := cell_of q11v39 0 rfl
        have y11_1 := cell_of q11v39 1 rfl
        have y12_0 := cell_of q12v39 0 rfl
        have y12_1 := cell_of q12v39 1 rfl
        have y14_0 := cell_of q14v39 0 rfl
        have y14_1 := cell_of q14v39 1 rfl
        have y16_0 := cell_of q16v39 0 rfl
        have y16_1 := cell_of q16v39 1 rfl
        go_wp2_with fail
        clear y2_0 y2_1 y3_0 y3_1 y5_0 y5_1 y7_0 y7_1 y9_0 y9_1 y11_0 y11_1 y12_0 y12_1 y14_0 y14_1 y16_0 y16_1
        refine ((Int_bad _ na A v39 n2v39 hla HOA.out.symm)).mono ?_
        rintro e v40 ⟨rfl, hbv40⟩
        have q2v40 := (hbv40.block _ (Array.getElem?_eq_some_iff.1 q2v39).1).trans q2v39
        have n2v40 := n2v39.later hbv40
        have q3v40 := (hbv40.block _ (Array.getElem?_eq_some_iff.1 q3v39).1).trans q3v39
        have n3v40 := n3v39.later hbv40
        have q5v40 := (hbv40.block _ (Array.getElem?_eq_some_iff.1 q5v39).1).trans q5v39
        have n5v40 := n5v39.later hbv40
        have q7v40 := (hbv40.block _ (Array.getElem?_eq_some_iff.1 q7v39).1).trans q7v39
        have n7v40 := n7v39.later hbv40
        have q9v40 := (hbv40.block _ (Array.getElem?_eq_some_iff.1 q9v39).1).trans q9v39
        have n9v40 := n9v39.later hbv40
        have q11v40 := (hbv40.block _ (Array.getElem?_eq_some_iff.1 q11v39).1).trans q11v39
        have n11v40 := n11v39.later hbv40
        have q12v40 := (hbv40.block _ (Array.getElem?_eq_some_iff.1 q12v39).1).trans q12v39
        have n12v40 := n12v39.later hbv40
        have q14v40 := (hbv40.block _ (Array.getElem?_eq_some_iff.1 q14v39).1).trans q14v39
        have n14v40 := n14v39.later hbv40
        have q16v40 := (hbv40.block _ (Array.getElem?_eq_some_iff.1 q16v39).1).trans q16v39
        have n16v40 := n16v39.later hbv40
        have hBXv40 := hBXv39.trans (hbv40.mono hBXv39.size)
        have y2_0 := cell_of q2v40 0 rfl
        have y2_1 := cell_of q2v40 1 rfl
        have y3_0 := cell_of q3v40 0 rfl
        have y3_1 := cell_of q3v40 1 rfl
        have y5_0 := cell_of q5v40 0 rfl
        have y5_1 := cell_of q5v40 1 rfl
        have y7_0 := cell_of q7v40 0 rfl
        have y7_1 := cell_of q7v40 1 rfl
        have y9_0 := cell_of q9v40 0 rfl
        have y9_1 := cell_of q9v40 1 rfl
        have y11_0 := cell_of q11v40 0 rfl
        have y11_1 := cell_of q11v40 1 rfl
        have y12_0 := cell_of q12v40 0 rfl
        have y12_1 := cell_of q12v40 1 rfl
        have y14_0 := cell_of q14v40 0 rfl
        have y14_1 := cell_of q14v40 1 rfl
        have y16_0 := cell_of q16v40 0 rfl
        have y16_1 := cell_of q16v40 1 rfl
        go_wp2_with fail
        clear y2_0 y2_1 y3_0 y3_1 y5_0 y5_1 y7_0 y7_1 y9_0 y9_1 y11_0 y11_1 y12_0 y12_1 y14_0 y14_1 y16_0 y16_1
        refine ((Text_bad _ na A v40 n2v40 hla HOA.out.symm)).mono ?_
        rintro e v41 ⟨rfl, hbv41⟩
        have q2v41 := (hbv41.block _ (Array.getElem?_eq_some_iff.1 q2v40).1).trans q2v40
        have n2v41 := n2v40.later hbv41
        have q3v41 := (hbv41.block _ (Array.getElem?_eq_some_iff.1 q3v40).1).trans q3v40
        have n3v41 := n3v40.later hbv41
        have q5v41 := (hbv41.block _ (Array.getElem?_eq_some_iff.1 q5v40).1).trans q5v40
        have n5v41 := n5v40.later hbv41
        have q7v41 := (hbv41.block _ (Array.getElem?_eq_some_iff.1 q7v40).1).trans q7v40
        have n7v41 := n7v40.later hbv41
        have q9v41 := (hbv41.block _ (Array.getElem?_eq_some_iff.1 q9v40).1).trans q9v40
        have n9v41 := n9v40.later hbv41
        have q11v41 := (hbv41.block _ (Array.getElem?_eq_some_iff.1 q11v40).1).trans q11v40
        have n11v41 := n11v40.later hbv41
        have q12v41 := (hbv41.block _ (Array.getElem?_eq_some_iff.1 q12v40).1).trans q12v40
        have n12v41 := n12v40.later hbv41
        have q14v41 := (hbv41.block _ (Array.getElem?_eq_some_iff.1 q14v40).1).trans q14v40
        have n14v41 := n14v40.later hbv41
        have q16v41 := (hbv41.block _ (Array.getElem?_eq_some_iff.1 q16v40).1).trans q16v40
        have n16v41 := n16v40.later hbv41
        have hBXv41 := hBXv40.trans (hbv41.mono hBXv40.size)
        go_wp2
        go_ret
        exact ⟨rfl, hBXv41⟩
      · -- b long
        have z2_0 := cell_of q2w5 0 rfl
        have z2_1 := cell_of q2w5 1 rfl
        have z3_0 := cell_of q3w5 0 rfl
        have z3_1 := cell_of q3w5 1 rfl
        go_wp2
        go_ret
        exact ⟨rfl, hBXw5⟩
    · -- a long
      have z2_0 := cell_of q2w5 0 rfl
      have z2_1 := cell_of q2w5 1 rfl
      have z3_0 := cell_of q3w5 0 rfl
      have z3_1 := cell_of q3w5 1 rfl
      go_wp2
      go_ret
      exact ⟨rfl, hBXw5⟩

end Go.Proofs.YtbaiohjladddlaaDoor
