import Derived.Test.YtihdbjilolmfiaaGreatDoorD11
import Derived.Test.YtihdbjilolmfiaaGreatDoorD03
import Derived.Test.YtihdbjilolmfiaaGreatDoorD01
set_option maxRecDepth 100000
set_option maxHeartbeats 4000000
namespace Go.Proofs.YtihdbjilolmfiaaGreatDoor
open Go.RowKit Go.WM Go.WR
attribute [local go_sem] Oper.semAt_some
theorem rep_ok {z : Int} {zs : List Int} (hR : Rep zs z.natAbs) (hc : z.natAbs < Cap) : okB (decide (z < 0)) zs = true := by
 refine okB_of (hR.cap.2 hc) hR.nz fun e => decide_eq_false ?_
 have := (hR.zero_iff.1 e); omega
theorem rep_short {z : Int} {zs : List Int} (hR : Rep zs z.natAbs) (hc : z.natAbs < Cap) : zs.length ≤ 1024 := hR.cap.2 hc
def quad (m : Int) : List Int := [IntKind.u16.wrap m, IntKind.u16.wrap (m / 65536), IntKind.u16.wrap (m / 4294967296), m / 281474976710656]
theorem quad_lm {m : Int} (h0 : 0 ≤ m) (h1 : m < 18446744073709551616) : Lm (quad m) := by
 intro x hx
 simp only [quad, List.mem_cons, List.not_mem_nil, or_false, IntKind.wrap_u16] at hx
 omega
theorem quad_val {m : Int} (_ : 0 ≤ m) (_ : m < 18446744073709551616) : val (quad m) = m := by
 simp only [quad, val, IntKind.wrap_u16]
 omega
theorem cap_big {m : Int} (h1 : m < 18446744073709551616) : m < Cap := by
 rw [Cap.eq]
 have := pow_le_pow' (show 4 ≤ 1024 by omega)
 have e : (65536 : Int) ^ 4 = 18446744073709551616 := by decide
 omega
theorem FromInt_any (n : Int) (w : World) (h0 : -9223372036854775808 ≤ n) (h1 : n < 9223372036854775808) :
 Calls Tryz.prog 72 #[.int .i64 n] w fun e w' => ∃ b p l c, e = .returned (.agg #[.bool b, .slice p l c]) ∧ Wo w.heap.size w' (.agg #[.bool b, .slice p l c]) n ∧ Below w.heap.size w w' := by
 obtain ⟨m, hm⟩ : ∃ m : Int, m = n.natAbs := ⟨_, rfl⟩
 have hm0 : 0 ≤ m := by omega
 have hm1 : m ≤ 9223372036854775808 := by omega
 obtain ⟨w2, hw2⟩ : ∃ w2, w2 = (w.alloc (.cells #[.bool false, .slice none 0 0] 24)).alloc (.cells #[.int .u16 (IntKind.u16.wrap m), .int .u16 (IntKind.u16.wrap (m / 65536)), .int .u16 (IntKind.u16.wrap (m / 4294967296)), .int .u16 (m / 281474976710656)] 127) := ⟨_, rfl⟩
 have hB2 : Below w.heap.size w w2 := by rw [hw2]; exact ((Below.refl _ w).alloc (Nat.le_refl _) _).alloc (by simp) _
 have hs2 : w2.heap.size = w.heap.size + 2 := by rw [hw2]; simp
 have q0 : w2.heap[w.heap.size]? = some (.cells #[.bool false, .slice none 0 0] 24) := by rw [hw2]; exact alloc_old _ _ (alloc_new _ _ rfl)
 have q1 : w2.heap[w.heap.size + 1]? = some (.cells #[.int .u16 (IntKind.u16.wrap m), .int .u16 (IntKind.u16.wrap (m / 65536)), .int .u16 (IntKind.u16.wrap (m / 4294967296)), .int .u16 (m / 281474976710656)] 127) := by rw [hw2]; exact alloc_new _ _ (by rw [World.size_alloc])
 have hcell : ∀ j, j < 4 → w2.cell? ⟨w.heap.size + 1, 0 + j, none⟩ = some (.int .u16 ((quad m)[j]?.getD 0)) := fun j hj => by
  rw [Nat.zero_add]
  match j, hj with
  | 0, _ => exact cell_of q1 0 rfl
  | 1, _ => exact cell_of q1 1 rfl
  | 2, _ => exact cell_of q1 2 rfl
  | 3, _ => exact cell_of q1 3 rfl
 have hL : Lims w2.heap.size w2 (.slice (some ⟨w.heap.size + 1, 0, none⟩) (trim (quad m)).length 4) (trim (quad m)) := by
  obtain ⟨k, hk, e⟩ := trim_prefix (quad m)
  have hk4 : k ≤ 4 := hk
  have hlen : ((quad m).take k).length = k := by rw [List.length_take, Nat.min_eq_left hk]
  refine .inr ⟨_, 0, 4, rfl, by rw [e, hlen]; exact hk4, by omega, fun j hj => ?_⟩
  rw [e, hlen] at hj
  rw [e, List.getElem?_take_of_lt hj]
  exact hcell j (by omega)
 have hrep := trim_rep (quad_lm hm0 (show m < 18446744073709551616 by omega))
 rw [quad_val hm0 (by omega)] at hrep
 have hcap := cap_big (m := m) (by omega)
 have hlen : (trim (quad m)).length ≤ 1024 := hrep.cap.2 hcap
 have HREP := Lib.hid hrep
 have HM := Lib.hid hm
 have HW := Lib.hid hw2
 clear hrep hm q1 hw2
 go_enter Tryz.func72, Tryz.ntmps72
 by_cases hn : n < 0
 · have hu : IntKind.u64.wrap (-IntKind.u64.wrap n) = m := by have := HM.out; rw [IntKind.wrap_u64, IntKind.wrap_u64]; omega
   go_wp2_with (first | (go_at_call 137; rw [← HW.out]; refine (trimmed_some (w.heap.size + 1) 0 4 4 (quad m) w2 rfl (Nat.le_refl _) (by omega) hcell).mono ?_; rintro e w3 ⟨rfl, rfl⟩) | (go_at_call 92; refine (clone_any _ (trim (quad m)) w2 (by omega) hL).mono ?_; rintro e w3 ⟨v, rfl, hown, hb3⟩; obtain ⟨pp, ll, cc, rfl⟩ := hown.shape; have r0 := (hb3.block _ (show w.heap.size < w2.heap.size by omega)).trans q0; have c0 := cell_of r0 0 rfl; have c1 := cell_of r0 1 rfl; have f0 := frozen_of r0 0; have f1 := frozen_of r0 1))
   obtain ⟨t0, t1⟩ := put2_cell r0 (.bool true) (.slice pp ll cc)
   refine bodyPost_ret (v := .agg #[.bool true, .slice pp ll cc]) (by simp [results, Tryz.results72, go_sem, show (w3.setCell ⟨w.heap.size, 0, none⟩ (.bool true)).setCell ⟨w.heap.size, 1, none⟩ (.slice pp ll cc) = put2 w3 w.heap.size (.bool true) (.slice pp ll cc) from rfl, t0, t1]) rfl ⟨true, pp, ll, cc, rfl, ⟨_, _, by rw [decide_eq_true hn], ((hown.mono hB2.size).put2 r0 (by decide) (.bool true) (.slice pp ll cc)), by rw [← HM.out]; exact HREP.out, by rw [← HM.out]; exact hcap⟩, (hB2.trans (hb3.mono hB2.size)).trans ((put2_only _ _ _ _).below (Nat.le_refl _))⟩
 · obtain rfl : m = n := by have := HM.out; omega
   go_wp2_with (first | (go_at_call 137; rw [← HW.out]; refine (trimmed_some (w.heap.size + 1) 0 4 4 (quad m) w2 rfl (Nat.le_refl _) (by omega) hcell).mono ?_; rintro e w3 ⟨rfl, rfl⟩) | (go_at_call 92; refine (clone_any _ (trim (quad m)) w2 (by omega) hL).mono ?_; rintro e w3 ⟨v, rfl, hown, hb3⟩; obtain ⟨pp, ll, cc, rfl⟩ := hown.shape; have r0 := (hb3.block _ (show w.heap.size < w2.heap.size by omega)).trans q0; have c0 := cell_of r0 0 rfl; have c1 := cell_of r0 1 rfl; have f0 := frozen_of r0 0; have f1 := frozen_of r0 1))
   obtain ⟨t0, t1⟩ := put2_cell r0 (.bool false) (.slice pp ll cc)
   refine bodyPost_ret (v := .agg #[.bool false, .slice pp ll cc]) (by simp [results, Tryz.results72, go_sem, show (w3.setCell ⟨w.heap.size, 0, none⟩ (.bool false)).setCell ⟨w.heap.size, 1, none⟩ (.slice pp ll cc) = put2 w3 w.heap.size (.bool false) (.slice pp ll cc) from rfl, t0, t1]) rfl ⟨false, pp, ll, cc, rfl, ⟨_, _, by rw [decide_eq_false (show ¬ m < 0 by omega)], ((hown.mono hB2.size).put2 r0 (by decide) (.bool false) (.slice pp ll cc)), by rw [← HM.out]; exact HREP.out, by rw [← HM.out]; exact hcap⟩, (hB2.trans (hb3.mono hB2.size)).trans ((put2_only _ _ _ _).below (Nat.le_refl _))⟩
theorem Make_any (neg : Bool) (p : Option Addr) (l c : Nat) (w : World) :
 Calls Tryz.prog 94 #[.bool neg, .slice p l c] w fun e w' => e = .returned (.agg #[.bool (neg && decide (0 < l)), .slice p l c]) ∧ w.alloc (.cells #[.bool (neg && decide (0 < l)), .slice p l c] 24) = w' := by
 cases neg
 all_goals
  go_enter Tryz.func94, Tryz.ntmps94
  go_wp2
  refine bodyPost_ret (by simp [results, Tryz.results94, go_sem]) rfl ⟨rfl, by simp⟩
theorem refFromInt_any (n : Int) (w : World) (h0 : -9223372036854775808 ≤ n) (h1 : n < 9223372036854775808) :
 Calls Tryz.prog 48 #[.int .i64 n] w fun e w' => ∃ v, e = .returned v ∧ Wo w.heap.size w' v n ∧ Below w.heap.size w w' := by
 obtain ⟨i0, hi, hz0, hz1, hz2⟩ := info_parts info48
 obtain ⟨m, hm⟩ : ∃ m : Int, m = n.natAbs := ⟨_, rfl⟩
 have hm0 : 0 ≤ m := by omega
 have hm1 : m ≤ 9223372036854775808 := by omega
 have HM := Lib.hid hm
 have hcap := cap_big (m := m) (by omega)
 obtain ⟨b, hb⟩ : ∃ b, b = decide (n < 0) := ⟨_, rfl⟩
 have HB := Lib.hid hb
 clear hm hb
 go_enter Tryz.func48, Tryz.ntmps48
 by_cases hn : n < 0
 · have hu : IntKind.u64.wrap (-IntKind.u64.wrap n) = m := by have := HM.out; rw [IntKind.wrap_u64, IntKind.wrap_u64]; omega
   go_wp2
   obtain ⟨w1, hw1⟩ : ∃ w1, w1 = w.alloc (.cells #[.bool false, .slice none 0 0] 24) := ⟨_, rfl⟩
   rw [← hw1]
   have HW1 := Lib.hid hw1
   have hs1 : w1.heap.size = w.heap.size + 1 := by rw [hw1]; simp
   have hB1 : Below w.heap.size w w1 := by rw [hw1]; exact (Below.refl _ w).alloc (Nat.le_refl _) _
   have q0 : w1.heap[w.heap.size]? = some (.cells #[.bool false, .slice none 0 0] 24) := by rw [hw1]; exact alloc_new _ _ rfl
   clear hw1
   go_loopw [3, 4] (fun uv lv wr => ∃ (u : Int) (zs : List Int), uv = .int .u64 u ∧ 0 ≤ u ∧ u ≤ m ∧ Lm zs ∧ zs.length ≤ 4 ∧ val zs + 65536 ^ zs.length * u = m ∧ (zs ≠ [] → 65536 ^ (zs.length - 1) ≤ m) ∧ Own16 w1.heap.size wr lv zs ∧ Below w1.heap.size w1 wr) (fun uv _ _ => (intOf uv).toNat)
   case atStart => exact ⟨m, [], rfl, hm0, Int.le_refl _, Lm.nil, by decide, by simp [val], fun h => absurd rfl h, World.ownsRow_nil _ _ _ _, Below.refl _ _⟩
   case round =>
    obtain ⟨u, zs, rfl, hu0, hu1, hLz, hz4, hval, hge, hown, hBw⟩ := hrel
    by_cases hup : 0 < u
    · obtain ⟨pp, ll, cc, rfl⟩ := hown.shape
      have hrow := hown.out
      have hsw := hBw.size
      have hst := step_sum (out := zs) (x := u) (c := 0) (d := u % 65536) (c' := u / 65536) (s := u) (v := val zs) (by omega) (by simp) (by omega)
      have hz3 : zs.length ≤ 3 := by
       rcases (show zs.length ≤ 3 ∨ zs.length = 4 by omega) with h | h
       · exact h
       · have h1 := val_nonneg hLz
         rw [h] at hval
         have e : (65536 : Int) ^ 4 = 18446744073709551616 := by decide
         rw [e] at hval
         omega
      have hpl : (65536 : Int) ^ zs.length ≤ m := by
       have h1 := val_nonneg hLz
       have h2 := pow_pos' zs.length
       have := Int.mul_le_mul_of_nonneg_left (show 1 ≤ u by omega) (show (0 : Int) ≤ 65536 ^ zs.length by omega)
       omega
      have HV : Hid (val (zs ++ [u % 65536]) + 65536 ^ (zs ++ [u % 65536]).length * (u / 65536) = m) := by
       rw [val_snoc, List.length_append, List.length_singleton, Int.pow_succ]
       have e : u = u % 65536 + 65536 * (u / 65536) := by omega
       have := hval
       rw [e, Int.mul_add, ← Int.mul_assoc] at this
       show _ = _
       omega
      have HP := Lib.hid hpl
      have hL2 : Lm (zs ++ [u % 65536]) := hLz.append (Lm.cons (by omega) Lm.nil)
      have hlz : zs.length ≤ 4 := hz4
      clear hst hval hge hpl
      go_wp2_with (at_builtin; refine wpList_append_own _ rfl _ _ 22 rfl w1.heap.size 48 i0 (.int .u16 0) 1 2 Tryz.underlying22 hi hz0 hz1 hz2 rfl (by decide) _ _ _ rfl (hrow.alloc _) ⟨wr.heap.size, 0, none⟩ 1 1 [.int .u16 (u % 65536)] rfl rfl (cell_one_new _ _ _) (by simp [Value.oneCell']) (by unfold maxLen; omega) (by omega) (by simp; omega) ?_; intro v' w2 hown' hgrow _)
      go_roundw
      case rel =>
       refine ⟨u / 65536, zs ++ [u % 65536], rfl, by omega, by omega, hL2, by simp; omega, HV.out, fun _ => by simpa using HP.out, ?_, (hBw.alloc hsw _).grown hgrow (by rw [World.size_alloc]; omega) (fun k hk => ?_)⟩
       · unfold Own16
         simp only [List.length_append, List.length_cons, List.length_nil, Nat.zero_add, List.map_append, List.map_cons, List.map_nil]
         exact hown'
       · rcases hown.form with ⟨e, _⟩ | ⟨g, cap, e, hB, _⟩
         · cases e; cases hk
         · cases e; cases hk; exact hB
      case measure => simp [intOf]; omega
    · obtain rfl : u = 0 := by omega
      obtain ⟨pp, ll, cc, rfl⟩ := hown.shape
      have hval0 : val zs = m := by have := hval; rw [Int.mul_zero, Int.add_zero] at this; exact this
      have hrep : Rep zs m := ⟨hLz, nz_of_ge hLz (by rw [hval0]; exact hge), hval0⟩
      have hll : ll = zs.length := hown.len'
      have HR := Lib.hid hrep
      have HLL := Lib.hid hll
      have r0 := (hBw.block _ (show w.heap.size < w1.heap.size by omega)).trans q0
      clear hval hge hval0 hrep hll
      go_wp2_with (go_at_call 94; refine (Make_any true pp ll cc wr).mono ?_; rintro e w6 ⟨rfl, hw6⟩; have r6 : w6.heap[w.heap.size]? = some (.cells #[.bool false, .slice none 0 0] 24) := (by rw [← hw6]; exact alloc_old _ _ r0); have o6 : Own16 w1.heap.size w6 (.slice pp ll cc) zs := (by rw [← hw6]; exact hown.alloc _); have b6 : Below w1.heap.size w1 w6 := (by rw [← hw6]; exact hBw.alloc hBw.size _); have c0 := cell_of r6 0 rfl; have c1 := cell_of r6 1 rfl; have f0 := frozen_of r6 0; have f1 := frozen_of r6 1; clear hw6)
      have hwo : Wo w1.heap.size w6 (.agg #[.bool (true && decide (0 < ll)), .slice pp ll cc]) n := by
       have h := Wo.of true o6 HR.out hcap
       rw [← HLL.out] at h
       have e : sgn true m = n := by have := HM.out; rw [sgn_true]; omega
       rw [e] at h; exact h
      obtain ⟨t0, t1⟩ := put2_cell r6 (.bool (decide (0 < ll))) (.slice pp ll cc)
      refine bodyPost_ret (v := .agg #[.bool (decide (0 < ll)), .slice pp ll cc]) (by simp [results, Tryz.results48, go_sem, show (w6.setCell ⟨w.heap.size, 0, none⟩ (.bool (decide (0 < ll)))).setCell ⟨w.heap.size, 1, none⟩ (.slice pp ll cc) = put2 w6 w.heap.size (.bool (decide (0 < ll))) (.slice pp ll cc) from rfl, t0, t1]) rfl ⟨_, rfl, (Wo.put2 r6 (by decide) (.bool (decide (0 < ll))) (.slice pp ll cc) hwo).mono (by omega), (hB1.trans (b6.mono hB1.size)).trans ((put2_only _ _ _ _).below (Nat.le_refl _))⟩
 · obtain rfl : m = n := by have := HM.out; omega
   have hdec : decide (m < 0) = false := decide_eq_false hn
   go_wp2
   obtain ⟨w1, hw1⟩ : ∃ w1, w1 = w.alloc (.cells #[.bool false, .slice none 0 0] 24) := ⟨_, rfl⟩
   rw [← hw1]
   have HW1 := Lib.hid hw1
   have hs1 : w1.heap.size = w.heap.size + 1 := by rw [hw1]; simp
   have hB1 : Below w.heap.size w w1 := by rw [hw1]; exact (Below.refl _ w).alloc (Nat.le_refl _) _
   have q0 : w1.heap[w.heap.size]? = some (.cells #[.bool false, .slice none 0 0] 24) := by rw [hw1]; exact alloc_new _ _ rfl
   clear hw1
   go_loopw [3, 4] (fun uv lv wr => ∃ (u : Int) (zs : List Int), uv = .int .u64 u ∧ 0 ≤ u ∧ u ≤ m ∧ Lm zs ∧ zs.length ≤ 4 ∧ val zs + 65536 ^ zs.length * u = m ∧ (zs ≠ [] → 65536 ^ (zs.length - 1) ≤ m) ∧ Own16 w1.heap.size wr lv zs ∧ Below w1.heap.size w1 wr) (fun uv _ _ => (intOf uv).toNat)
   case atStart => exact ⟨m, [], rfl, hm0, Int.le_refl _, Lm.nil, by decide, by simp [val], fun h => absurd rfl h, World.ownsRow_nil _ _ _ _, Below.refl _ _⟩
   case round =>
    obtain ⟨u, zs, rfl, hu0, hu1, hLz, hz4, hval, hge, hown, hBw⟩ := hrel
    by_cases hup : 0 < u
    · obtain ⟨pp, ll, cc, rfl⟩ := hown.shape
      have hrow := hown.out
      have hsw := hBw.size
      have hst := step_sum (out := zs) (x := u) (c := 0) (d := u % 65536) (c' := u / 65536) (s := u) (v := val zs) (by omega) (by simp) (by omega)
      have hz3 : zs.length ≤ 3 := by
       rcases (show zs.length ≤ 3 ∨ zs.length = 4 by omega) with h | h
       · exact h
       · have h1 := val_nonneg hLz
         rw [h] at hval
         have e : (65536 : Int) ^ 4 = 18446744073709551616 := by decide
         rw [e] at hval
         omega
      have hpl : (65536 : Int) ^ zs.length ≤ m := by
       have h1 := val_nonneg hLz
       have h2 := pow_pos' zs.length
       have := Int.mul_le_mul_of_nonneg_left (show 1 ≤ u by omega) (show (0 : Int) ≤ 65536 ^ zs.length by omega)
       omega
      have HV : Hid (val (zs ++ [u % 65536]) + 65536 ^ (zs ++ [u % 65536]).length * (u / 65536) = m) := by
       rw [val_snoc, List.length_append, List.length_singleton, Int.pow_succ]
       have e : u = u % 65536 + 65536 * (u / 65536) := by omega
       have := hval
       rw [e, Int.mul_add, ← Int.mul_assoc] at this
       show _ = _
       omega
      have HP := Lib.hid hpl
      have hL2 : Lm (zs ++ [u % 65536]) := hLz.append (Lm.cons (by omega) Lm.nil)
      have hlz : zs.length ≤ 4 := hz4
      clear hst hval hge hpl
      go_wp2_with (at_builtin; refine wpList_append_own _ rfl _ _ 22 rfl w1.heap.size 48 i0 (.int .u16 0) 1 2 Tryz.underlying22 hi hz0 hz1 hz2 rfl (by decide) _ _ _ rfl (hrow.alloc _) ⟨wr.heap.size, 0, none⟩ 1 1 [.int .u16 (u % 65536)] rfl rfl (cell_one_new _ _ _) (by simp [Value.oneCell']) (by unfold maxLen; omega) (by omega) (by simp; omega) ?_; intro v' w2 hown' hgrow _)
      go_roundw
      case rel =>
       refine ⟨u / 65536, zs ++ [u % 65536], rfl, by omega, by omega, hL2, by simp; omega, HV.out, fun _ => by simpa using HP.out, ?_, (hBw.alloc hsw _).grown hgrow (by rw [World.size_alloc]; omega) (fun k hk => ?_)⟩
       · unfold Own16
         simp only [List.length_append, List.length_cons, List.length_nil, Nat.zero_add, List.map_append, List.map_cons, List.map_nil]
         exact hown'
       · rcases hown.form with ⟨e, _⟩ | ⟨g, cap, e, hB, _⟩
         · cases e; cases hk
         · cases e; cases hk; exact hB
      case measure => simp [intOf]; omega
    · obtain rfl : u = 0 := by omega
      obtain ⟨pp, ll, cc, rfl⟩ := hown.shape
      have hval0 : val zs = m := by have := hval; rw [Int.mul_zero, Int.add_zero] at this; exact this
      have hrep : Rep zs m := ⟨hLz, nz_of_ge hLz (by rw [hval0]; exact hge), hval0⟩
      have hll : ll = zs.length := hown.len'
      have HR := Lib.hid hrep
      have HLL := Lib.hid hll
      have r0 := (hBw.block _ (show w.heap.size < w1.heap.size by omega)).trans q0
      clear hval hge hval0 hrep hll
      go_wp2_with (go_at_call 94; refine (Make_any false pp ll cc wr).mono ?_; rintro e w6 ⟨rfl, hw6⟩; have r6 : w6.heap[w.heap.size]? = some (.cells #[.bool false, .slice none 0 0] 24) := (by rw [← hw6]; exact alloc_old _ _ r0); have o6 : Own16 w1.heap.size w6 (.slice pp ll cc) zs := (by rw [← hw6]; exact hown.alloc _); have b6 : Below w1.heap.size w1 w6 := (by rw [← hw6]; exact hBw.alloc hBw.size _); have c0 := cell_of r6 0 rfl; have c1 := cell_of r6 1 rfl; have f0 := frozen_of r6 0; have f1 := frozen_of r6 1; clear hw6)
      have hwo : Wo w1.heap.size w6 (.agg #[.bool (false && decide (0 < ll)), .slice pp ll cc]) m := by
       have h := Wo.of false o6 HR.out hcap
       rw [← HLL.out] at h
       have e : sgn false m = m := sgn_false _
       rw [e] at h; exact h
      obtain ⟨t0, t1⟩ := put2_cell r6 (.bool false) (.slice pp ll cc)
      refine bodyPost_ret (v := .agg #[.bool false, .slice pp ll cc]) (by simp [results, Tryz.results48, go_sem, show (w6.setCell ⟨w.heap.size, 0, none⟩ (.bool false)).setCell ⟨w.heap.size, 1, none⟩ (.slice pp ll cc) = put2 w6 w.heap.size (.bool false) (.slice pp ll cc) from rfl, t0, t1]) rfl ⟨_, rfl, (Wo.put2 r6 (by decide) (.bool false) (.slice pp ll cc) hwo).mono (by omega), (hB1.trans (b6.mono hB1.size)).trans ((put2_only _ _ _ _).below (Nat.le_refl _))⟩
theorem refSame_any (va vb : Value) (na nb : Bool) (A B : List Int) (w : World) (hla : A.length ≤ 140737488355328) (hlb : B.length ≤ 140737488355328) (hA : Wr w.heap.size w va na A) (hB : Wr w.heap.size w vb nb B) :
 Calls Tryz.prog 63 #[va, vb] w fun e w' => e = .returned (.bool (na == nb && decide (A = B))) ∧ Below w.heap.size w w' := by
 obtain ⟨sa, rfl, hLa⟩ := hA
 obtain ⟨sb, rfl, hLb⟩ := hB
 obtain ⟨pa, la, ca, rfl⟩ := hLa.form
 obtain ⟨pb, lb, cb, rfl⟩ := hLb.form
 obtain ⟨hl, hcA⟩ := hLa.cells
 obtain ⟨hl2, hcB⟩ := hLb.cells
 obtain ⟨w2, hw2⟩ : ∃ w2, w2 = (w.alloc (.cells #[.bool na, .slice pa la ca] 24)).alloc (.cells #[.bool nb, .slice pb lb cb] 24) := ⟨_, rfl⟩
 have hB2 : Below w.heap.size w w2 := by rw [hw2]; exact ((Below.refl _ w).alloc (Nat.le_refl _) _).alloc (by simp) _
 have hs2 : w2.heap.size = w.heap.size + 2 := by rw [hw2]; simp
 have q0 : w2.heap[w.heap.size]? = some (.cells #[.bool na, .slice pa la ca] 24) := by rw [hw2]; exact alloc_old _ _ (alloc_new _ _ rfl)
 have q1 : w2.heap[w.heap.size + 1]? = some (.cells #[.bool nb, .slice pb lb cb] 24) := by rw [hw2]; exact alloc_new _ _ (by rw [World.size_alloc])
 have hla' : la ≤ 140737488355328 := by omega
 have hlb' : lb ≤ 140737488355328 := by omega
 go_enter Tryz.func63, Tryz.ntmps63
 by_cases hn : na = nb
 · subst hn
   by_cases hne : la = lb
   · subst hne
     have HLA := Lib.hid hl
     have HLB := Lib.hid hl2
     clear hl hl2
     go_wp2
     rw [← hw2]
     go_loopw [5] (fun kv wr => ∃ k : Nat, k ≤ la ∧ kv = .int .i64 k ∧ Below w2.heap.size w2 wr ∧ ∀ j, j < k → A[j]?.getD 0 = B[j]?.getD 0) (fun kv _ => la - (intOf kv).toNat)
     case atStart => exact ⟨0, Nat.zero_le _, rfl, Below.refl _ _, fun j hj => absurd hj (by omega)⟩
     case round =>
      obtain ⟨k, hk, rfl, hBw, hag⟩ := hrel
      have z1 := cell_of ((hBw.block _ (by omega)).trans q0) 1 rfl
      have z3 := cell_of ((hBw.block _ (by omega)).trans q1) 1 rfl
      by_cases hlt : k < la
      · obtain ⟨ba, oa, rfl, hba, hca, hcc⟩ := hcA (by omega)
        obtain ⟨bb, ob, rfl, hbb, hcb, hdd⟩ := hcB (by omega)
        have c0 := (hBw.cell (p := ⟨ba, oa + k, none⟩) (by show ba < _; omega)).trans ((hB2.cell (p := ⟨ba, oa + k, none⟩) hba).trans (hcc k hlt))
        have c1 := (hBw.cell (p := ⟨bb, ob + k, none⟩) (by show bb < _; omega)).trans ((hB2.cell (p := ⟨bb, ob + k, none⟩) hbb).trans (hdd k hlt))
        by_cases he : A[k]?.getD 0 = B[k]?.getD 0
        · have hag2 : ∀ j, j < k + 1 → A[j]?.getD 0 = B[j]?.getD 0 := fun j hj => by rcases (show j < k ∨ j = k by omega) with h | rfl; exact hag j h; exact he
          have HAG := Lib.hid hag2
          rw [he] at c0
          clear hag he hag2
          go_wp2
          go_quiet (fail)
          go_wp2
          go_roundw
          case rel => exact ⟨k + 1, by omega, rfl, below_drewN hBw nq, HAG.out⟩
          case measure => simp [intOf]; omega
        · have hneq : A ≠ B := fun e => he (by rw [e])
          have HNE := Lib.hid hneq
          clear hneq hag
          go_wp2
          go_quiet (fail)
          go_wp2
          go_ret
          exact ⟨by simp [HNE.out], hB2.trans (below_drewN (hBw.mono hB2.size) nq)⟩
      · obtain rfl : k = la := by omega
        have heq : A = B := List.ext_getElem? fun j => by
         rcases (show j < k ∨ k ≤ j by omega) with h | h
         · have := hag j h
           have e1 := HLA.out
           have e2 := HLB.out
           rw [List.getElem?_eq_getElem (by omega), List.getElem?_eq_getElem (by omega)] at this ⊢
           exact congrArg some this
         · have e1 := HLA.out
           have e2 := HLB.out
           rw [List.getElem?_eq_none (by omega), List.getElem?_eq_none (by omega)]
        have HEQ := Lib.hid heq
        clear heq hag
        go_wp2
        go_ret
        exact ⟨by simp [HEQ.out], hB2.trans (hBw.mono hB2.size)⟩
   · have hneq : A ≠ B := fun e => hne (by rw [hl, hl2, e])
     have hne' : ¬ ((la : Int) = lb) := by omega
     have HNE := Lib.hid hneq
     clear hl hl2 hneq
     go_wp2
     go_ret
     exact ⟨by simp [HNE.out], by rw [← hw2]; exact hB2⟩
 · clear hl hl2
   go_wp2
   go_ret
   exact ⟨by simp [hn], by rw [← hw2]; exact hB2⟩
theorem Trim_some (b off len cap : Nat) (zs : List Int) (w : World) (hl : zs.length = len) (hcap : len ≤ cap) (hbig : len ≤ 9223372036854775807)
 (hc : ∀ j, j < len → w.cell? ⟨b, off + j, none⟩ = some (.int .u16 (zs[j]?.getD 0))) :
 Calls Tryz.prog 156 #[.slice (some ⟨b, off, none⟩) len cap] w fun e w' => e = .returned (.slice (some ⟨b, off, none⟩) (trim zs).length cap) ∧ w = w' := by
 have HL := Lib.hid hl; clear hl
 go_enter Tryz.func156, Tryz.ntmps156
 go_wp2
 go_loop [3] (fun v => ∃ n : Nat, n ≤ len ∧ v = .int .i64 n ∧ trim (zs.take n) = trim zs) (fun v => (intOf v).toNat)
 case atStart => exact ⟨len, Nat.le_refl _, rfl, by rw [← HL.out]; simp⟩
 case round =>
  obtain ⟨n, hn, rfl, ht⟩ := hrel
  have HT := Lib.hid ht; clear ht
  cases n with
  | zero =>
   go_wp2
   go_ret
   exact ⟨by rw [← HT.out]; simp [trim], rfl⟩
  | succ n =>
   have hcell := hc n (by omega)
   have e1 : ((n + 1 : Nat) : Int) - 1 = (n : Int) := by omega
   by_cases hz : zs[n]?.getD 0 = 0
   · have HZ := Lib.hid hz
     go_wp2
     go_round
     case rel => exact ⟨n, by omega, by go_num, by rw [← trim_step0 zs n (by rw [HL.out]; omega) HZ.out]; exact HT.out⟩
     case measure => simp [intOf]
   · go_wp2
     go_ret
     exact ⟨by rw [← HT.out, trim_step1 zs n (by rw [HL.out]; omega) hz]; simp [HL.out, Nat.min_eq_left hn], rfl⟩
theorem Trim_nil (w : World) : Calls Tryz.prog 156 #[.slice none 0 0] w fun e w' => e = .returned (.slice none 0 0) ∧ w = w' := by
 go_enter Tryz.func156, Tryz.ntmps156
 go_wp2
 go_loop [3] (fun v => v = .int .i64 0) (fun v => 0)
 case atStart => rfl
 case round =>
  obtain rfl := hrel
  go_wp2
  go_ret
  exact ⟨rfl, rfl⟩
theorem Trim_own (B : Nat) (v : Value) (zs : List Int) (w : World) (hbig : zs.length ≤ 9223372036854775807) (h : Own16 B w v zs) :
 Calls Tryz.prog 156 #[v] w fun e w' => ∃ v', e = .returned v' ∧ Own16 B w v' (trim zs) ∧ w = w' := by
 rcases h.form with ⟨rfl, rfl⟩ | ⟨g, cap, rfl, hB, hg, hc, hcell⟩
 · exact (Trim_nil w).mono fun e w' ⟨he, hw⟩ => ⟨_, he, h, hw⟩
 · refine (Trim_some g 0 zs.length cap zs w rfl hc hbig hcell).mono fun e w' ⟨he, hw⟩ => ⟨_, he, ?_, hw⟩
   obtain ⟨k, hk, e⟩ := trim_prefix zs
   rw [e, show (zs.take k).length = k by simp [Nat.min_eq_left hk]]
   exact h.take k hk
end Go.Proofs.YtihdbjilolmfiaaGreatDoor
namespace Go.Proofs.YtihdbjilolmfiaaGreatDoor
open Go.RowKit Go.WM Go.WR
attribute [local go_sem] Oper.semAt_some
end Go.Proofs.YtihdbjilolmfiaaGreatDoor
namespace Go.Proofs.YtihdbjilolmfiaaGreatDoor
open Go.RowKit Go.WM Go.WR
attribute [local go_sem] Oper.semAt_some
theorem below_drewN {B : Nat} {a w : World} (h : Below B a w) (k : Nat) : Below B a (w.drewN k) := ⟨h.os, h.tape, h.output, h.size, h.block⟩
end Go.Proofs.YtihdbjilolmfiaaGreatDoor
namespace Go.Proofs.YtihdbjilolmfiaaGreatDoor
open Go.RowKit Go.WM Go.WR
attribute [local go_sem] Oper.semAt_some
end Go.Proofs.YtihdbjilolmfiaaGreatDoor
namespace Go.Proofs.YtihdbjilolmfiaaGreatDoor
open Go.RowKit Go.WM Go.WR
attribute [local go_sem] Oper.semAt_some
end Go.Proofs.YtihdbjilolmfiaaGreatDoor
namespace Go.Proofs.YtihdbjilolmfiaaGreatDoor
open Go.RowKit Go.WM Go.WR
attribute [local go_sem] Oper.semAt_some
end Go.Proofs.YtihdbjilolmfiaaGreatDoor
namespace Go.Proofs.YtihdbjilolmfiaaGreatDoor
open Go.RowKit Go.WM Go.WR
attribute [local go_sem] Oper.semAt_some
theorem refshort_rep (px : Option Addr) (lx cx : Nat) (X : List Int) (n d : Int) (w : World) (hX : Rep X n) (hd0 : 1 ≤ d) (hd1 : d ≤ 65535) (hlx : lx ≤ 1000000) (hA : Lims w.heap.size w (.slice px lx cx) X) :
 Calls Tryz.prog 174 #[.slice px lx cx, .int .i64 d] w fun e w' => ∃ v1 v2 z1 z2, e = .returned (.tuple #[v1, v2]) ∧ Own16 w.heap.size w' v1 z1 ∧ Rep z1 (n / d) ∧ Own16 w.heap.size w' v2 z2 ∧ Rep z2 (n % d) ∧ Below w.heap.size w w' := by
 obtain ⟨i0, hi, hz0, hz1, hz2⟩ := info_parts info48
 have HX := Lib.hid hA.cells.1
 go_enter Tryz.func174, Tryz.ntmps174
 go_wp2_with (at_make; refine wpList_make_full _ rfl _ _ 22 rfl w.heap.size 48 i0 (.int .u16 0) 1 Tryz.underlying22 hi hz0 hz1 _ _ _ _ lx rfl rfl (by omega) (by omega) (by rw [hz2]; omega) (by unfold maxLen; omega) (Nat.le_refl _) ?_; intro w0 hown0 hgrow0)
 have hB0 : Below w.heap.size w w0 := (Below.refl _ _).grown hgrow0 (Nat.le_refl _) (fun k h => by cases h)
 rw [made16] at hown0
 have hown1 : Own16 w.heap.size w0 (.slice (some ⟨w.heap.size, 0, none⟩) lx lx) (List.replicate lx 0) := by unfold Own16; rw [List.length_replicate]; exact hown0
 clear hown0 hgrow0
 go_loopw [7, 8] (fun rv iv wr => ∃ (k : Nat) (r : Int) (out : List Int), k ≤ lx ∧ iv = .int .i64 ((k : Int) - 1) ∧ rv = .int .i64 r ∧ 0 ≤ r ∧ r < d ∧ Own16 w.heap.size wr (.slice (some ⟨w.heap.size, 0, none⟩) lx lx) out ∧ Lm out ∧ out.length = lx ∧ (∀ j, j < k → out[j]?.getD 0 = 0) ∧
  val (X.drop k) = val (out.drop k) * d + r ∧ Below w.heap.size w wr) (fun _ iv _ => ((intOf iv) + 1).toNat)
 case atStart => exact ⟨lx, 0, _, Nat.le_refl _, rfl, rfl, by omega, by omega, hown1, Lm.replicate _, by simp, fun j _ => getD_replicate _ _, by rw [List.drop_eq_nil_of_le (by have := HX.out; omega), List.drop_eq_nil_of_le (by simp)]; simp [val], hB0⟩
 case round =>
  obtain ⟨k, r, out, hk, rfl, rfl, hr0, hr1, hown, hLm, hol, hzero, hval, hBr⟩ := hrel
  have HOL := Lib.hid hol; clear hol
  have HZ := Lib.hid hzero; clear hzero
  have HVAL := Lib.hid hval; clear hval
  match k, hk with
  | 0, hk =>
   have hfin : n / d = val out ∧ n % d = r := by
    have h1 := HVAL.out
    rw [List.drop_zero, List.drop_zero, hX.eq] at h1
    obtain ⟨a, b⟩ := div_unique h1 hr0 hr1
    exact ⟨a.symm, b.symm⟩
   have HF := Lib.hid hfin
   have hr65 : r < 65536 := by omega
   have hwr : IntKind.u16.wrap r = r := by rw [IntKind.wrap_u16]; omega
   have HW := Lib.hid hwr
   have hLr : Lm [r] := Lm.cons (by omega) Lm.nil
   clear hfin hwr
   have ht1 := Trim_own w.heap.size _ out wr (by rw [HOL.out]; omega) hown
   go_wp2_with fail
   refine ht1.mono ?_
   rintro e w3 ⟨v1, rfl, hO1, rfl⟩
   go_wp2_with fail
   have hO2 : Own16 w.heap.size (wr.alloc (.cells #[.int .u16 r] 48)) (.slice (some ⟨wr.heap.size, 0, none⟩) 1 1) [r] := made_one wr w.heap.size _ hBr.size
   refine (Trim_own w.heap.size _ [r] _ (by simp) hO2).mono ?_
   rintro e w4 ⟨v2, rfl, hO3, rfl⟩
   go_wp2
   refine bodyPost_ret (v := .tuple #[v1, v2]) (by simp [results, Tryz.results174, go_sem]) rfl ⟨v1, v2, _, _, rfl, hO1.alloc _, by rw [HF.out.1]; exact trim_rep hLm, hO3, ?_, hBr.alloc (by have := hBr.size; omega) _⟩
   have h2 := trim_rep hLr
   have h3 : val [r] = r := by simp [val]
   rw [h3] at h2
   rw [HF.out.2]
   exact h2
  | m + 1, hk =>
   obtain ⟨hx0, hx1⟩ := hX.lm.getD m
   obtain ⟨bx, ox, rfl, hbx, _, hcX⟩ := hA.cells.2 (by omega)
   have hcx := (hBr.cell (p := ⟨bx, ox + m, none⟩) hbx).trans (hcX m (by omega))
   clear hcX
   obtain ⟨hq0, hq1, he0, he1⟩ := short_bd hd0 hr0 hr1 hx0 hx1
   have hst := short_step (X := X) (out := out) (m := m) (d := d) (r := r) (by have := HX.out; omega) (by rw [HOL.out]; omega) HVAL.out
   obtain ⟨hat, hfz⟩ := hown.at m (by rw [HOL.out]; omega)
   obtain ⟨x, hx⟩ : ∃ x, x = X[m]?.getD 0 := ⟨_, rfl⟩
   rw [← hx] at hst hcx hq0 hq1 he0 he1 hx0 hx1
   obtain ⟨s, hs⟩ : ∃ s : Int, s = r * 65536 + x := ⟨_, rfl⟩
   rw [← hs] at hst hq0 hq1 he0 he1
   have HST := Lib.hid hst
   have HS := Lib.hid hs
   have hs0 : 0 ≤ s := by omega
   have hs1 : s ≤ 4294967295 := by omega
   have e1 : ((m + 1 : Nat) : Int) - 1 = (m : Int) := by omega
   have e2 : IntKind.i64.wrap (r * 65536) = r * 65536 := IntWalk.i64_in _ (by omega)
   have e3 : IntKind.i64.wrap (r * 65536 + x) = s := by rw [← hs]; exact IntWalk.i64_in _ (by omega)
   have e4 : s.tdiv d = s / d := Int.tdiv_eq_ediv_of_nonneg hs0
   have e5 : s.tmod d = s % d := Int.tmod_eq_emod_of_nonneg hs0
   have e6 : IntKind.u16.wrap (s / d) = s / d := by rw [IntKind.wrap_u16]; omega
   have hdz : d ≠ 0 := by omega
   clear hst hx hs
   go_wp2
   go_roundw
   case rel =>
    refine ⟨m, s % d, out.set m (s / d), by omega, rfl, rfl, by omega, by omega, hown.set m (by rw [HOL.out]; omega) _, hLm.set _ (by omega), by rw [List.length_set]; exact HOL.out, fun j hj => ?_, HST.out, hBr.setCell (p := ⟨w.heap.size, m, none⟩) (Nat.le_refl _) _⟩
    rw [getD_set, if_neg (by omega)]; exact HZ.out j (by omega)
   case measure => simp [intOf]
end Go.Proofs.YtihdbjilolmfiaaGreatDoor
