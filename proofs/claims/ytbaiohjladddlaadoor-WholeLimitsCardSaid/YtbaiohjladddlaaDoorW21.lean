import Derived.Test.YtbaiohjladddlaaDoorW20
/- the reference: Make, FromInt. -/
namespace Go.Proofs.YtbaiohjladddlaaDoor
open Go.RowKit Go.WM Go.WR
attribute [local go_sem] Oper.semAt_some

set_option maxRecDepth 100000 in
set_option maxHeartbeats 1000000 in
theorem Make_any (neg : Bool) (p : Option Addr) (l c : Nat) (w : World) :
    Calls Tryd.prog 80 #[.bool neg, .slice p l c] w fun e w' => e = .returned (.agg #[.bool (neg && decide (0 < l)), .slice p l c]) ∧ w.alloc (.cells #[.bool (neg && decide (0 < l)), .slice p l c] 24) = w' := by
  cases neg
  all_goals
    go_enter Tryd.func80, Tryd.ntmps80
    go_wp2
    refine bodyPost_ret (by simp [results, Tryd.results80, go_sem]) rfl ⟨rfl, by simp⟩

set_option maxRecDepth 100000 in
set_option maxHeartbeats 1000000 in
theorem refFromInt_any (n : Int) (w : World) (h0 : -9223372036854775808 ≤ n) (h1 : n < 9223372036854775808) :
    Calls Tryd.prog 66 #[.int .i64 n] w fun e w' => ∃ v, e = .returned v ∧ Wo w.heap.size w' v n ∧ Below w.heap.size w w' := by
  obtain ⟨i0, hi, hz0, hz1, hz2⟩ := info_parts info40
  obtain ⟨m, hm⟩ : ∃ m : Int, m = n.natAbs := ⟨_, rfl⟩
  have hm0 : 0 ≤ m := by omega
  have hm1 : m ≤ 9223372036854775808 := by omega
  have HM := Lib.hid hm
  have hcap := cap_big (m := m) (by omega)
  obtain ⟨b, hb⟩ : ∃ b, b = decide (n < 0) := ⟨_, rfl⟩
  have HB := Lib.hid hb
  clear hm hb
  go_enter Tryd.func66, Tryd.ntmps66
  by_cases hn : n < 0
  · have hu : IntKind.u64.wrap (-IntKind.u64.wrap n) = m := by have := HM.out; rw [IntKind.wrap_u64, IntKind.wrap_u64]; omega
    go_wp2
    obtain ⟨w1, hw1⟩ : ∃ w1, w1 = w.alloc (.cells #[.bool false, .slice none 0 0] 24) := ⟨_, rfl⟩
    rw [← hw1]
    have HW1 := Lib.hid hw1
    have hs1 : w1.heap.size = w.heap.size + 1 := by rw [hw1]; simp
    have hB1 : Below w.heap.size w w1 := by rw [hw1]; exact (Below.refl _ w).alloc (Nat.le_refl _) _
    have q0 : w1.heap[w.heap.size]? = some (.cells #[.bool false, .slice none 0 0] 24) := by rw [hw1]; exact alloc_new _ _ rfl
    clear hw1
    go_loopw [3, 4] (fun uv lv wr => ∃ (u : Int) (zs : List Int), uv = .int .u64 u ∧ 0 ≤ u ∧ u ≤ m ∧ Lm zs ∧ zs.length ≤ 4 ∧ val zs + 65536 ^ zs.length * u = m ∧ (zs ≠ [] → 65536 ^ (zs.length - 1) ≤ m) ∧ Own16 w1.heap.size wr lv zs ∧ Below w1.heap.size w1 wr) (fun uv _ _ => (intOf uv).toNat)
    case atStart => exact ⟨m, [], rfl, hm0, Int.le_refl _, Lm.nil, by decide, by simp [val], fun h => absurd rfl h, World.ownsRow_nil _ _ _ _, Below.refl _ _⟩
    case round =>
      obtain ⟨u, zs, rfl, hu0, hu1, hLz, hz4, hval, hge, hown, hBw⟩ := hrel
      by_cases hup : 0 < u
      · obtain ⟨pp, ll, cc, rfl⟩ := hown.shape
        have hrow := hown.out
        have hsw := hBw.size
        have hst := step_sum (out := zs) (x := u) (c := 0) (d := u % 65536) (c' := u / 65536) (s := u) (v := val zs) (by omega) (by simp) (by omega)
        have hz3 : zs.length ≤ 3 := by
          rcases (show zs.length ≤ 3 ∨ zs.length = 4 by omega) with h | h
          · exact h
          · have h1 := val_nonneg hLz
            rw [h] at hval
            have e : (65536 : Int) ^ 4 = 18446744073709551616 := by decide
            rw [e] at hval
            omega
        have hpl : (65536 : Int) ^ zs.length ≤ m := by
          have h1 := val_nonneg hLz
          have h2 := pow_pos' zs.length
          have := Int.mul_le_mul_of_nonneg_left (show 1 ≤ u by omega) (show (0 : Int) ≤ 65536 ^ zs.length by omega)
          omega
        have HV : Hid (val (zs ++ [u % 65536]) + 65536 ^ (zs ++ [u % 65536]).length * (u / 65536) = m) := by
          rw [val_snoc, List.length_append, List.length_singleton, Int.pow_succ]
          have e : u = u % 65536 + 65536 * (u / 65536) := by omega
          have := hval
          rw [e, Int.mul_add, ← Int.mul_assoc] at this
          show _ = _
          omega
        have HP := Lib.hid hpl
        have hL2 : Lm (zs ++ [u % 65536]) := hLz.append (Lm.cons (by omega) Lm.nil)
        have hlz : zs.length ≤ 4 := hz4
        clear hst hval hge hpl
        go_wp2_with (at_builtin; refine wpList_append_own _ rfl _ _ 22 rfl w1.heap.size 40 i0 (.int .u16 0) 1 2 Tryd.underlying22 hi hz0 hz1 hz2 rfl (by decide) _ _ _ rfl (hrow.alloc _) ⟨wr.heap.size, 0, none⟩ 1 1 [.int .u16 (u % 65536)] rfl rfl (cell_one_new _ _ _) (by simp [Value.oneCell']) (by unfold maxLen; omega) (by omega) (by simp; omega) ?_; intro v' w2 hown' hgrow _)
        go_roundw
        case rel =>
          refine ⟨u / 65536, zs ++ [u % 65536], rfl, by omega, by omega, hL2, by simp; omega, HV.out, fun _ => by simpa using HP.out, ?_, (hBw.alloc hsw _).grown hgrow (by rw [World.size_alloc]; omega) (fun k hk => ?_)⟩
          · unfold Own16
            simp only [List.length_append, List.length_cons, List.length_nil, Nat.zero_add, List.map_append, List.map_cons, List.map_nil]
            exact hown'
          · rcases hown.form with ⟨e, _⟩ | ⟨g, cap, e, hB, _⟩
            · cases e; cases hk
            · cases e; cases hk; exact hB
        case measure => simp [intOf]; omega
      · obtain rfl : u = 0 := by omega
        obtain ⟨pp, ll, cc, rfl⟩ := hown.shape
        have hval0 : val zs = m := by have := hval; rw [Int.mul_zero, Int.add_zero] at this; exact this
        have hrep : Rep zs m := ⟨hLz, nz_of_ge hLz (by rw [hval0]; exact hge), hval0⟩
        have hll : ll = zs.length := hown.len'
        have HR := Lib.hid hrep
        have HLL := Lib.hid hll
        have r0 := (hBw.block _ (show w.heap.size < w1.heap.size by omega)).trans q0
        clear hval hge hval0 hrep hll
        go_wp2_with (go_at_call 80; refine (Make_any true pp ll cc wr).mono ?_; rintro e w6 ⟨rfl, hw6⟩; have r6 : w6.heap[w.heap.size]? = some (.cells #[.bool false, .slice none 0 0] 24) := (by rw [← hw6]; exact alloc_old _ _ r0); have o6 : Own16 w1.heap.size w6 (.slice pp ll cc) zs := (by rw [← hw6]; exact hown.alloc _); have b6 : Below w1.heap.size w1 w6 := (by rw [← hw6]; exact hBw.alloc hBw.size _); have c0 := cell_of r6 0 rfl; have c1 := cell_of r6 1 rfl; have f0 := frozen_of r6 0; have f1 := frozen_of r6 1; clear hw6)
        have hwo : Wo w1.heap.size w6 (.agg #[.bool (true && decide (0 < ll)), .slice pp ll cc]) n := by
          have h := Wo.of true o6 HR.out hcap
          rw [← HLL.out] at h
          have e : sgn true m = n := by have := HM.out; rw [sgn_true]; omega
          rw [e] at h; exact h
        obtain ⟨t0, t1⟩ := put2_cell r6 (.bool (decide (0 < ll))) (.slice pp ll cc)
        refine bodyPost_ret (v := .agg #[.bool (decide (0 < ll)), .slice pp ll cc]) (by simp [results, Tryd.results66, go_sem, show (w6.setCell ⟨w.heap.size, 0, none⟩ (.bool (decide (0 < ll)))).setCell ⟨w.heap.size, 1, none⟩ (.slice pp ll cc) = put2 w6 w.heap.size (.bool (decide (0 < ll))) (.slice pp ll cc) from rfl, t0, t1]) rfl ⟨_, rfl, (Wo.put2 r6 (by decide) (.bool (decide (0 < ll))) (.slice pp ll cc) hwo).mono (by omega), (hB1.trans (b6.mono hB1.size)).trans ((put2_only _ _ _ _).below (Nat.le_refl _))⟩
  · obtain rfl : m = n := by have := HM.out; omega
    have hdec : decide (m < 0) = false := decide_eq_false hn
    go_wp2
    obtain ⟨w1, hw1⟩ : ∃ w1, w1 = w.alloc (.cells #[.bool false, .slice none 0 0] 24) := ⟨_, rfl⟩
    rw [← hw1]
    have HW1 := Lib.hid hw1
    have hs1 : w1.heap.size = w.heap.size + 1 := by rw [hw1]; simp
    have hB1 : Below w.heap.size w w1 := by rw [hw1]; exact (Below.refl _ w).alloc (Nat.le_refl _) _
    have q0 : w1.heap[w.heap.size]? = some (.cells #[.bool false, .slice none 0 0] 24) := by rw [hw1]; exact alloc_new _ _ rfl
    clear hw1
    go_loopw [3, 4] (fun uv lv wr => ∃ (u : Int) (zs : List Int), uv = .int .u64 u ∧ 0 ≤ u ∧ u ≤ m ∧ Lm zs ∧ zs.length ≤ 4 ∧ val zs + 65536 ^ zs.length * u = m ∧ (zs ≠ [] → 65536 ^ (zs.length - 1) ≤ m) ∧ Own16 w1.heap.size wr lv zs ∧ Below w1.heap.size w1 wr) (fun uv _ _ => (intOf uv).toNat)
    case atStart => exact ⟨m, [], rfl, hm0, Int.le_refl _, Lm.nil, by decide, by simp [val], fun h => absurd rfl h, World.ownsRow_nil _ _ _ _, Below.refl _ _⟩
    case round =>
      obtain ⟨u, zs, rfl, hu0, hu1, hLz, hz4, hval, hge, hown, hBw⟩ := hrel
      by_cases hup : 0 < u
      · obtain ⟨pp, ll, cc, rfl⟩ := hown.shape
        have hrow := hown.out
        have hsw := hBw.size
        have hst := step_sum (out := zs) (x := u) (c := 0) (d := u % 65536) (c' := u / 65536) (s := u) (v := val zs) (by omega) (by simp) (by omega)
        have hz3 : zs.length ≤ 3 := by
          rcases (show zs.length ≤ 3 ∨ zs.length = 4 by omega) with h | h
          · exact h
          · have h1 := val_nonneg hLz
            rw [h] at hval
            have e : (65536 : Int) ^ 4 = 18446744073709551616 := by decide
            rw [e] at hval
            omega
        have hpl : (65536 : Int) ^ zs.length ≤ m := by
          have h1 := val_nonneg hLz
          have h2 := pow_pos' zs.length
          have := Int.mul_le_mul_of_nonneg_left (show 1 ≤ u by omega) (show (0 : Int) ≤ 65536 ^ zs.length by omega)
          omega
        have HV : Hid (val (zs ++ [u % 65536]) + 65536 ^ (zs ++ [u % 65536]).length * (u / 65536) = m) := by
          rw [val_snoc, List.length_append, List.length_singleton, Int.pow_succ]
          have e : u = u % 65536 + 65536 * (u / 65536) := by omega
          have := hval
          rw [e, Int.mul_add, ← Int.mul_assoc] at this
          show _ = _
          omega
        have HP := Lib.hid hpl
        have hL2 : Lm (zs ++ [u % 65536]) := hLz.append (Lm.cons (by omega) Lm.nil)
        have hlz : zs.length ≤ 4 := hz4
        clear hst hval hge hpl
        go_wp2_with (at_builtin; refine wpList_append_own _ rfl _ _ 22 rfl w1.heap.size 40 i0 (.int .u16 0) 1 2 Tryd.underlying22 hi hz0 hz1 hz2 rfl (by decide) _ _ _ rfl (hrow.alloc _) ⟨wr.heap.size, 0, none⟩ 1 1 [.int .u16 (u % 65536)] rfl rfl (cell_one_new _ _ _) (by simp [Value.oneCell']) (by unfold maxLen; omega) (by omega) (by simp; omega) ?_; intro v' w2 hown' hgrow _)
        go_roundw
        case rel =>
          refine ⟨u / 65536, zs ++ [u % 65536], rfl, by omega, by omega, hL2, by simp; omega, HV.out, fun _ => by simpa using HP.out, ?_, (hBw.alloc hsw _).grown hgrow (by rw [World.size_alloc]; omega) (fun k hk => ?_)⟩
          · unfold Own16
            simp only [List.length_append, List.length_cons, List.length_nil, Nat.zero_add, List.map_append, List.map_cons, List.map_nil]
            exact hown'
          · rcases hown.form with ⟨e, _⟩ | ⟨g, cap, e, hB, _⟩
            · cases e; cases hk
            · cases e; cases hk; exact hB
        case measure => simp [intOf]; omega
      · obtain rfl : u = 0 := by omega
        obtain ⟨pp, ll, cc, rfl⟩ := hown.shape
        have hval0 : val zs = m := by have := hval; rw [Int.mul_zero, Int.add_zero] at this; exact this
        have hrep : Rep zs m := ⟨hLz, nz_of_ge hLz (by rw [hval0]; exact hge), hval0⟩
        have hll : ll = zs.length := hown.len'
        have HR := Lib.hid hrep
        have HLL := Lib.hid hll
        have r0 := (hBw.block _ (show w.heap.size < w1.heap.size by omega)).trans q0
        clear hval hge hval0 hrep hll
        go_wp2_with (go_at_call 80; refine (Make_any false pp ll cc wr).mono ?_; rintro e w6 ⟨rfl, hw6⟩; have r6 : w6.heap[w.heap.size]? = some (.cells #[.bool false, .slice none 0 0] 24) := (by rw [← hw6]; exact alloc_old _ _ r0); have o6 : Own16 w1.heap.size w6 (.slice pp ll cc) zs := (by rw [← hw6]; exact hown.alloc _); have b6 : Below w1.heap.size w1 w6 := (by rw [← hw6]; exact hBw.alloc hBw.size _); have c0 := cell_of r6 0 rfl; have c1 := cell_of r6 1 rfl; have f0 := frozen_of r6 0; have f1 := frozen_of r6 1; clear hw6)
        have hwo : Wo w1.heap.size w6 (.agg #[.bool (false && decide (0 < ll)), .slice pp ll cc]) m := by
          have h := Wo.of false o6 HR.out hcap
          rw [← HLL.out] at h
          have e : sgn false m = m := sgn_false _
          rw [e] at h; exact h
        obtain ⟨t0, t1⟩ := put2_cell r6 (.bool false) (.slice pp ll cc)
        refine bodyPost_ret (v := .agg #[.bool false, .slice pp ll cc]) (by simp [results, Tryd.results66, go_sem, show (w6.setCell ⟨w.heap.size, 0, none⟩ (.bool false)).setCell ⟨w.heap.size, 1, none⟩ (.slice pp ll cc) = put2 w6 w.heap.size (.bool false) (.slice pp ll cc) from rfl, t0, t1]) rfl ⟨_, rfl, (Wo.put2 r6 (by decide) (.bool false) (.slice pp ll cc) hwo).mono (by omega), (hB1.trans (b6.mono hB1.size)).trans ((put2_only _ _ _ _).below (Nat.le_refl _))⟩

end Go.Proofs.YtbaiohjladddlaaDoor
