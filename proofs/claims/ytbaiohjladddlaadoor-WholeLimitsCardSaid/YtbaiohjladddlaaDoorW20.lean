import Derived.Test.YtbaiohjladddlaaDoorW16
/- whole: FromInt. -/
namespace Go.Proofs.YtbaiohjladddlaaDoor
open Go.RowKit Go.WM Go.WR
attribute [local go_sem] Oper.semAt_some

/-- the four limbs of a number of 64 bits -/
def quad (m : Int) : List Int := [IntKind.u16.wrap m, IntKind.u16.wrap (m / 65536), IntKind.u16.wrap (m / 4294967296), m / 281474976710656]
theorem quad_lm {m : Int} (h0 : 0 ≤ m) (h1 : m < 18446744073709551616) : Lm (quad m) := by
  intro x hx
  simp only [quad, List.mem_cons, List.not_mem_nil, or_false, IntKind.wrap_u16] at hx
  omega
theorem quad_val {m : Int} (h0 : 0 ≤ m) (h1 : m < 18446744073709551616) : val (quad m) = m := by
  simp only [quad, val, IntKind.wrap_u16]
  omega

theorem cap_big {m : Int} (h1 : m < 18446744073709551616) : m < Cap := by
  rw [Cap.eq]
  have := pow_le_pow' (show 4 ≤ 1024 by omega)
  have e : (65536 : Int) ^ 4 = 18446744073709551616 := by decide
  omega

set_option maxRecDepth 100000 in
set_option maxHeartbeats 1000000 in
theorem FromInt_any (n : Int) (w : World) (h0 : -9223372036854775808 ≤ n) (h1 : n < 9223372036854775808) :
    Calls Tryd.prog 42 #[.int .i64 n] w fun e w' => ∃ b p l c, e = .returned (.agg #[.bool b, .slice p l c]) ∧ Wo w.heap.size w' (.agg #[.bool b, .slice p l c]) n ∧ Below w.heap.size w w' := by
  obtain ⟨m, hm⟩ : ∃ m : Int, m = n.natAbs := ⟨_, rfl⟩
  have hm0 : 0 ≤ m := by omega
  have hm1 : m ≤ 9223372036854775808 := by omega
  obtain ⟨w2, hw2⟩ : ∃ w2, w2 = (w.alloc (.cells #[.bool false, .slice none 0 0] 24)).alloc (.cells #[.int .u16 (IntKind.u16.wrap m), .int .u16 (IntKind.u16.wrap (m / 65536)), .int .u16 (IntKind.u16.wrap (m / 4294967296)), .int .u16 (m / 281474976710656)] 92) := ⟨_, rfl⟩
  have hB2 : Below w.heap.size w w2 := by rw [hw2]; exact ((Below.refl _ w).alloc (Nat.le_refl _) _).alloc (by simp) _
  have hs2 : w2.heap.size = w.heap.size + 2 := by rw [hw2]; simp
  have q0 : w2.heap[w.heap.size]? = some (.cells #[.bool false, .slice none 0 0] 24) := by rw [hw2]; exact alloc_old _ _ (alloc_new _ _ rfl)
  have q1 : w2.heap[w.heap.size + 1]? = some (.cells #[.int .u16 (IntKind.u16.wrap m), .int .u16 (IntKind.u16.wrap (m / 65536)), .int .u16 (IntKind.u16.wrap (m / 4294967296)), .int .u16 (m / 281474976710656)] 92) := by rw [hw2]; exact alloc_new _ _ (by rw [World.size_alloc])
  have hcell : ∀ j, j < 4 → w2.cell? ⟨w.heap.size + 1, 0 + j, none⟩ = some (.int .u16 ((quad m)[j]?.getD 0)) := fun j hj => by
    rw [Nat.zero_add]
    match j, hj with
    | 0, _ => exact cell_of q1 0 rfl
    | 1, _ => exact cell_of q1 1 rfl
    | 2, _ => exact cell_of q1 2 rfl
    | 3, _ => exact cell_of q1 3 rfl
  have hL : Lims w2.heap.size w2 (.slice (some ⟨w.heap.size + 1, 0, none⟩) (trim (quad m)).length 4) (trim (quad m)) := by
    obtain ⟨k, hk, e⟩ := trim_prefix (quad m)
    have hk4 : k ≤ 4 := hk
    have hlen : ((quad m).take k).length = k := by rw [List.length_take, Nat.min_eq_left hk]
    refine .inr ⟨_, 0, 4, rfl, by rw [e, hlen]; exact hk4, by omega, fun j hj => ?_⟩
    rw [e, hlen] at hj
    rw [e, List.getElem?_take_of_lt hj]
    exact hcell j (by omega)
  have hrep := trim_rep (quad_lm hm0 (show m < 18446744073709551616 by omega))
  rw [quad_val hm0 (by omega)] at hrep
  have hcap := cap_big (m := m) (by omega)
  have hlen : (trim (quad m)).length ≤ 1024 := hrep.cap.2 hcap
  have HREP := Lib.hid hrep
  have HM := Lib.hid hm
  have HW := Lib.hid hw2
  clear hrep hm q1 hw2
  go_enter Tryd.func42, Tryd.ntmps42
  by_cases hn : n < 0
  · have hu : IntKind.u64.wrap (-IntKind.u64.wrap n) = m := by have := HM.out; rw [IntKind.wrap_u64, IntKind.wrap_u64]; omega
    go_wp2_with (first | (go_at_call 54; rw [← HW.out]; refine (trimmed_some (w.heap.size + 1) 0 4 4 (quad m) w2 rfl (Nat.le_refl _) (by omega) hcell).mono ?_; rintro e w3 ⟨rfl, rfl⟩) | (go_at_call 39; refine (clone_any _ (trim (quad m)) w2 (by omega) hL).mono ?_; rintro e w3 ⟨v, rfl, hown, hb3⟩; obtain ⟨pp, ll, cc, rfl⟩ := hown.shape; have r0 := (hb3.block _ (show w.heap.size < w2.heap.size by omega)).trans q0; have c0 := cell_of r0 0 rfl; have c1 := cell_of r0 1 rfl; have f0 := frozen_of r0 0; have f1 := frozen_of r0 1))
    obtain ⟨t0, t1⟩ := put2_cell r0 (.bool true) (.slice pp ll cc)
    refine bodyPost_ret (v := .agg #[.bool true, .slice pp ll cc]) (by simp [results, Tryd.results42, go_sem, show (w3.setCell ⟨w.heap.size, 0, none⟩ (.bool true)).setCell ⟨w.heap.size, 1, none⟩ (.slice pp ll cc) = put2 w3 w.heap.size (.bool true) (.slice pp ll cc) from rfl, t0, t1]) rfl ⟨true, pp, ll, cc, rfl, ⟨_, _, by rw [decide_eq_true hn], ((hown.mono hB2.size).put2 r0 (by decide) (.bool true) (.slice pp ll cc)), by rw [← HM.out]; exact HREP.out, by rw [← HM.out]; exact hcap⟩, (hB2.trans (hb3.mono hB2.size)).trans ((put2_only _ _ _ _).below (Nat.le_refl _))⟩
  · obtain rfl : m = n := by have := HM.out; omega
    go_wp2_with (first | (go_at_call 54; rw [← HW.out]; refine (trimmed_some (w.heap.size + 1) 0 4 4 (quad m) w2 rfl (Nat.le_refl _) (by omega) hcell).mono ?_; rintro e w3 ⟨rfl, rfl⟩) | (go_at_call 39; refine (clone_any _ (trim (quad m)) w2 (by omega) hL).mono ?_; rintro e w3 ⟨v, rfl, hown, hb3⟩; obtain ⟨pp, ll, cc, rfl⟩ := hown.shape; have r0 := (hb3.block _ (show w.heap.size < w2.heap.size by omega)).trans q0; have c0 := cell_of r0 0 rfl; have c1 := cell_of r0 1 rfl; have f0 := frozen_of r0 0; have f1 := frozen_of r0 1))
    obtain ⟨t0, t1⟩ := put2_cell r0 (.bool false) (.slice pp ll cc)
    refine bodyPost_ret (v := .agg #[.bool false, .slice pp ll cc]) (by simp [results, Tryd.results42, go_sem, show (w3.setCell ⟨w.heap.size, 0, none⟩ (.bool false)).setCell ⟨w.heap.size, 1, none⟩ (.slice pp ll cc) = put2 w3 w.heap.size (.bool false) (.slice pp ll cc) from rfl, t0, t1]) rfl ⟨false, pp, ll, cc, rfl, ⟨_, _, by rw [decide_eq_false (show ¬ m < 0 by omega)], ((hown.mono hB2.size).put2 r0 (by decide) (.bool false) (.slice pp ll cc)), by rw [← HM.out]; exact HREP.out, by rw [← HM.out]; exact hcap⟩, (hB2.trans (hb3.mono hB2.size)).trans ((put2_only _ _ _ _).below (Nat.le_refl _))⟩

end Go.Proofs.YtbaiohjladddlaaDoor
