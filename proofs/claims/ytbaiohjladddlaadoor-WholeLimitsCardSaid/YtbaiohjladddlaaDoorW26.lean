import Derived.Test.YtbaiohjladddlaaDoorW25
/- whole: Int. -/
namespace Go.Proofs.YtbaiohjladddlaaDoor
open Go.RowKit Go.WM Go.WR
attribute [local go_sem] Oper.semAt_some

/-- what Int answers at a valid number -/
def IntPost (z : Int) (w : World) (e : Ending) (w' : World) : Prop :=
  ∃ k er : Int, e = .returned (.tuple #[.int .i64 k, .int .i64 er]) ∧ ((-9223372036854775808 ≤ z ∧ z < 9223372036854775808 ∧ k = z ∧ er = 0) ∨ (¬ (-9223372036854775808 ≤ z ∧ z < 9223372036854775808) ∧ k = 0 ∧ er = 3)) ∧ Below w.heap.size w w'

theorem Wn.raw {n₀ : Nat} {W : World} {v : Value} {z : Int} (h : Wn n₀ W v z) : ∃ zs, Wr n₀ W v (decide (z < 0)) zs ∧ Rep zs z.natAbs ∧ z.natAbs < Cap ∧ zs.length ≤ 1024 ∧ okB (decide (z < 0)) zs = true := by
  obtain ⟨sv, zs, e, hL, hR, hc⟩ := h
  exact ⟨zs, ⟨sv, e, hL⟩, hR, hc, rep_short hR hc, rep_ok hR hc⟩

set_option maxRecDepth 100000 in
set_option maxHeartbeats 2000000 in
theorem Int_long (va : Value) (z : Int) (w : World) (hA : Wn w.heap.size w va z) (hbig : ¬ (z.natAbs : Int) < 18446744073709551616) : Calls Tryd.prog 35 #[va] w (IntPost z w) := by
  obtain ⟨zs, hr, hR, hc, hlen, hok⟩ := hA.raw
  obtain ⟨sv, rfl, hL⟩ := hr
  obtain ⟨p, l, c, rfl⟩ := hL.form
  have hl := hL.cells.1
  have h4 : 4 < l := by
    have := hR.len_le_iff 4
    have e : (65536 : Int) ^ 4 = 18446744073709551616 := by decide
    rw [e] at this
    omega
  generalize decide (z < 0) = ng at *
  have HOK := Lib.hid hok
  have HL := Lib.hid hl
  clear hok hl
  obtain ⟨w1, hw1⟩ : ∃ w1, w1 = w.alloc (.cells #[.bool ng, .slice p l c] 24) := ⟨_, rfl⟩
  have hB1 : Below w.heap.size w w1 := by rw [hw1]; exact (Below.refl _ w).alloc (Nat.le_refl _) _
  have hs1 : w1.heap.size = w.heap.size + 1 := by rw [hw1]; simp
  have q0 : w1.heap[w.heap.size]? = some (.cells #[.bool ng, .slice p l c] 24) := by rw [hw1]; exact alloc_new _ _ rfl
  have HW := Lib.hid hw1
  clear hw1
  go_enter Tryd.func35, Tryd.ntmps35
  go_wp2_with (go_at_call 15; rw [← HW.out]; refine (Valid_any (.agg #[.bool ng, .slice p l c]) ng zs w1 ⟨_, rfl, (hL.below hB1).mono hB1.size⟩ (by omega)).mono ?_; rintro e w2 ⟨rfl, hb2⟩; rw [HOK.out]; have p0 := (hb2.block _ (show w.heap.size < w1.heap.size by omega)).trans q0; have c0 := cell_of p0 0 rfl; have c1 := cell_of p0 1 rfl)
  exact bodyPost_ret (v := .tuple #[.int .i64 0, .int .i64 3]) (by simp [results, Tryd.results35, go_sem]) rfl ⟨0, 3, rfl, .inr ⟨by omega, rfl, rfl⟩, hB1.trans (hb2.mono hB1.size)⟩

set_option maxRecDepth 100000 in
set_option maxHeartbeats 2000000 in
theorem Int_bad (va : Value) (ng : Bool) (zs : List Int) (w : World) (hA : Wr w.heap.size w va ng zs) (hlen : zs.length ≤ 140737488355328) (hbad : okB ng zs = false) : Calls Tryd.prog 35 #[va] w fun e w' => e = .returned (.tuple #[.int .i64 0, .int .i64 2]) ∧ Below w.heap.size w w' := by
  obtain ⟨sv, rfl, hL⟩ := hA
  obtain ⟨p, l, c, rfl⟩ := hL.form
  have HOK := Lib.hid hbad
  clear hbad
  obtain ⟨w1, hw1⟩ : ∃ w1, w1 = w.alloc (.cells #[.bool ng, .slice p l c] 24) := ⟨_, rfl⟩
  have hB1 : Below w.heap.size w w1 := by rw [hw1]; exact (Below.refl _ w).alloc (Nat.le_refl _) _
  have HW := Lib.hid hw1
  clear hw1
  go_enter Tryd.func35, Tryd.ntmps35
  go_wp2_with (go_at_call 15; rw [← HW.out]; refine (Valid_any (.agg #[.bool ng, .slice p l c]) ng zs w1 ⟨_, rfl, (hL.below hB1).mono hB1.size⟩ (by omega)).mono ?_; rintro e w2 ⟨rfl, hb2⟩; rw [HOK.out])
  exact bodyPost_ret (v := .tuple #[.int .i64 0, .int .i64 2]) (by simp [results, Tryd.results35, go_sem]) rfl ⟨rfl, hB1.trans (hb2.mono hB1.size)⟩

end Go.Proofs.YtbaiohjladddlaaDoor
