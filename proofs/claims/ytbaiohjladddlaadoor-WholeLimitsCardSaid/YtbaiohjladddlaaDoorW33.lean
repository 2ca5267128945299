import Derived.Test.YtbaiohjladddlaaDoorW21
import Derived.Test.YtbaiohjladddlaaDoorW19
import Derived.Test.YtbaiohjladddlaaDoorW6
/- What WholeLimits reaches: Pick; the reference: Valid, fits, Trim. -/
namespace Go.Proofs.YtbaiohjladddlaaDoor
open Go.RowKit Go.WM Go.WR
attribute [local go_sem] Oper.semAt_some

theorem Pick_any (k n : Int) (w : World) (h0 : 0 < n) (h1 : n ≤ 4611686018427387904) (hk0 : -9223372036854775808 ≤ k) (hk1 : k < 9223372036854775808) :
    Calls Tryd.prog 23 #[.int .i64 k, .int .i64 n] w fun e w' => e = .returned (.int .i64 (k % n)) ∧ w = w' := by
  have z0 : (k.tmod n).natAbs < n.natAbs := by rw [Int.natAbs_tmod]; exact Nat.mod_lt _ (by omega)
  have he : k % n = if k.tmod n < 0 then k.tmod n + n else k.tmod n := by
    have e := Int.tmod_def k n
    have e2 := Int.emod_def k n
    have h3 := Int.emod_nonneg k (show n ≠ 0 by omega)
    have h4 := Int.emod_lt_of_pos k h0
    have h5 : k % n = (k.tmod n) % n := by
      rw [Int.tmod_def, Int.sub_emod, Int.mul_emod_right]; simp
    rw [h5]
    split
    · rename_i hneg
      rw [← Int.add_emod_right, Int.emod_eq_of_lt (by omega) (by omega)]
    · rw [Int.emod_eq_of_lt (by omega) (by omega)]
  have HE := Lib.hid he
  clear he
  go_enter Tryd.func23, Tryd.ntmps23
  by_cases hneg : k.tmod n < 0
  · go_wp2
    go_ret
    exact ⟨by rw [HE.out, if_pos hneg]; rfl, rfl⟩
  · go_wp2
    go_ret
    exact ⟨by rw [HE.out, if_neg (by omega)]; rfl, rfl⟩

set_option maxRecDepth 100000 in
set_option maxHeartbeats 1000000 in
theorem refValid_any (v : Value) (neg : Bool) (zs : List Int) (w : World) (hv : Wr w.heap.size w v neg zs) (hlen : zs.length ≤ 140737488355328) :
    Calls Tryd.prog 57 #[v] w fun e w' => e = .returned (.bool (okB neg zs)) ∧ Below w.heap.size w w' := by
  obtain ⟨sv, rfl, hL⟩ := hv
  obtain ⟨p, l, c, rfl⟩ := hL.form
  obtain ⟨hl, hcl⟩ := hL.cells
  go_enter Tryd.func57, Tryd.ntmps57
  by_cases h0 : l = 0
  · subst h0
    have hz : zs = [] := List.eq_nil_of_length_eq_zero (by omega)
    subst hz
    clear hl hcl hL hlen
    go_wp2
    go_ret
    refine ⟨?_, (Below.refl _ w).alloc (Nat.le_refl _) _⟩
    cases neg <;> rfl
  · obtain ⟨b, off, rfl, hb, _, hc⟩ := hcl (by omega)
    have hlast := hc (l - 1) (by omega)
    have hx : w.cell? ⟨b, off + (l - 1), none⟩ = some (.int .u16 (zs[l - 1]?.getD 0)) := hlast
    have hB1 : Below w.heap.size w (w.alloc (.cells #[.bool neg, .slice (some ⟨b, off, none⟩) l c] 24)) := (Below.refl _ w).alloc (Nat.le_refl _) _
    have hx' := (hB1.cell (p := ⟨b, off + (l - 1), none⟩) hb).trans hx
    have hok : okB neg zs = (decide (l ≤ 1024) && !decide (zs[l - 1]?.getD 0 = 0)) := by
      unfold okB
      rw [← hl, decide_eq_false h0, decide_eq_true (show 0 < l by omega)]
      simp
    obtain ⟨x, hxx⟩ : ∃ x, x = zs[l - 1]?.getD 0 := ⟨_, rfl⟩
    rw [← hxx] at hx' hok
    have HOK := Lib.hid hok
    have hl0 : ((l : Int) == 0) = false := by rw [beq_eq_false_iff_ne]; omega
    have hls : ((l : Int) - 1) = ((l - 1 : Nat) : Int) := by omega
    have HL := Lib.hid hl
    clear hok hxx hlast hx hc hcl hl
    by_cases h1 : l ≤ 1024
    · go_wp2
      go_ret
      exact ⟨by rw [HOK.out, decide_eq_true h1]; rfl, hB1⟩
    · go_wp2
      go_ret
      exact ⟨by rw [HOK.out, decide_eq_false h1]; rfl, hB1⟩

set_option maxHeartbeats 1000000 in
theorem Trim_some (b off len cap : Nat) (zs : List Int) (w : World) (hl : zs.length = len) (hcap : len ≤ cap) (hbig : len ≤ 9223372036854775807)
    (hc : ∀ j, j < len → w.cell? ⟨b, off + j, none⟩ = some (.int .u16 (zs[j]?.getD 0))) :
    Calls Tryd.prog 97 #[.slice (some ⟨b, off, none⟩) len cap] w fun e w' => e = .returned (.slice (some ⟨b, off, none⟩) (trim zs).length cap) ∧ w = w' := by
  have HL := Lib.hid hl; clear hl
  go_enter Tryd.func97, Tryd.ntmps97
  go_wp2
  go_loop [3] (fun v => ∃ n : Nat, n ≤ len ∧ v = .int .i64 n ∧ trim (zs.take n) = trim zs) (fun v => (intOf v).toNat)
  case atStart => exact ⟨len, Nat.le_refl _, rfl, by rw [← HL.out]; simp⟩
  case round =>
    obtain ⟨n, hn, rfl, ht⟩ := hrel
    have HT := Lib.hid ht; clear ht
    cases n with
    | zero =>
      go_wp2
      go_ret
      exact ⟨by rw [← HT.out]; simp [trim], rfl⟩
    | succ n =>
      have hcell := hc n (by omega)
      have e1 : ((n + 1 : Nat) : Int) - 1 = (n : Int) := by omega
      by_cases hz : zs[n]?.getD 0 = 0
      · have HZ := Lib.hid hz
        go_wp2
        go_round
        case rel => exact ⟨n, by omega, by go_num, by rw [← trim_step0 zs n (by rw [HL.out]; omega) HZ.out]; exact HT.out⟩
        case measure => simp [intOf]
      · go_wp2
        go_ret
        exact ⟨by rw [← HT.out, trim_step1 zs n (by rw [HL.out]; omega) hz]; simp [HL.out, Nat.min_eq_left hn], rfl⟩

theorem Trim_nil (w : World) : Calls Tryd.prog 97 #[.slice none 0 0] w fun e w' => e = .returned (.slice none 0 0) ∧ w = w' := by
  go_enter Tryd.func97, Tryd.ntmps97
  go_wp2
  go_loop [3] (fun v => v = .int .i64 0) (fun v => 0)
  case atStart => rfl
  case round =>
    obtain rfl := hrel
    go_wp2
    go_ret
    exact ⟨rfl, rfl⟩

theorem Trim_own (B : Nat) (v : Value) (zs : List Int) (w : World) (hbig : zs.length ≤ 9223372036854775807) (h : Own16 B w v zs) :
    Calls Tryd.prog 97 #[v] w fun e w' => ∃ v', e = .returned v' ∧ Own16 B w v' (trim zs) ∧ w = w' := by
  rcases h.form with ⟨rfl, rfl⟩ | ⟨g, cap, rfl, hB, hg, hc, hcell⟩
  · exact (Trim_nil w).mono fun e w' ⟨he, hw⟩ => ⟨_, he, h, hw⟩
  · refine (Trim_some g 0 zs.length cap zs w rfl hc hbig hcell).mono fun e w' ⟨he, hw⟩ => ⟨_, he, ?_, hw⟩
    obtain ⟨k, hk, e⟩ := trim_prefix zs
    rw [e, show (zs.take k).length = k by simp [Nat.min_eq_left hk]]
    exact h.take k hk

end Go.Proofs.YtbaiohjladddlaaDoor

/- The reference's Plus. -/
namespace Go.Proofs.YtbaiohjladddlaaDoor
open Go.RowKit Go.WM Go.WR
attribute [local go_sem] Oper.semAt_some

set_option maxRecDepth 100000 in
set_option maxHeartbeats 2000000 in
theorem Plus_any (px py : Option Addr) (lx ly cx cy : Nat) (X Y : List Int) (w : World) (hX : Lm X) (hY : Lm Y) (hlx : lx ≤ 1000000) (hly : ly ≤ 1000000)
    (hA : Lims w.heap.size w (.slice px lx cx) X) (hB : Lims w.heap.size w (.slice py ly cy) Y) :
    Calls Tryd.prog 81 #[.slice px lx cx, .slice py ly cy] w fun e w' => ∃ v zs, e = .returned v ∧ Own16 w.heap.size w' v zs ∧ Lm zs ∧ val zs = val X + val Y ∧ (zs ≠ [] → 65536 ^ (zs.length - 1) ≤ val X + val Y ∨ zs.length ≤ X.length ∨ zs.length ≤ Y.length) ∧ Below w.heap.size w w' := by
  obtain ⟨i0, hi, hz0, hz1, hz2⟩ := info_parts info40
  have HX := Lib.hid hA.cells.1
  have HY := Lib.hid hB.cells.1
  go_enter Tryd.func81, Tryd.ntmps81
  go_wp2
  go_loopw [5, 6, 7] (fun ov sv iv wr => ∃ (k : Nat) (c : Int) (out : List Int), k ≤ 2000000 ∧ iv = .int .i64 k ∧ sv = .int .i64 c ∧ 0 ≤ c ∧ c ≤ 1 ∧ (k ≤ lx ∨ k ≤ ly ∨ (c = 0 ∧ k ≤ 1000001)) ∧ Own16 w.heap.size wr ov out ∧ Lm out ∧ out.length = k ∧
      val out + 65536 ^ k * c = val (X.take k) + val (Y.take k) ∧ (out ≠ [] → 65536 ^ (out.length - 1) ≤ val X + val Y ∨ out.length ≤ X.length ∨ out.length ≤ Y.length) ∧ Below w.heap.size w wr) (fun _ sv iv _ => 2 * ((lx - (intOf iv).toNat) + (ly - (intOf iv).toNat)) + (intOf sv).toNat)
  case atStart => exact ⟨0, 0, [], by omega, rfl, rfl, by omega, by omega, .inl (Nat.zero_le _), World.ownsRow_nil _ _ _ _, Lm.nil, rfl, by simp [val], fun h => absurd rfl h, Below.refl _ _⟩
  case round =>
    obtain ⟨k, c, out, hk, rfl, rfl, hc0, hc1, hkk, hown, hLm, hol, hval, htop, hBr⟩ := hrel
    have HOL := Lib.hid hol; clear hol
    have HVAL := Lib.hid hval; clear hval
    have HTOP := Lib.hid htop; clear htop
    have hstep := add_step (X := X) (Y := Y) HOL.out HVAL.out
    have HSTEP := Lib.hid hstep; clear hstep
    obtain ⟨hx0, hx1⟩ := hX.getD k
    obtain ⟨hy0, hy1⟩ := hY.getD k
    obtain ⟨pp, ll, cc, rfl⟩ := hown.shape
    have hrow := hown.out
    have hsw := hBr.size
    by_cases hkx : k < lx
    · by_cases hky : k < ly
      · -- both
        obtain ⟨bx, ox, rfl, hbx, _, hcX⟩ := hA.cells.2 (by omega)
        have hcx := (hBr.cell (p := ⟨bx, ox + k, none⟩) hbx).trans (hcX k hkx)
        clear hcX
        obtain ⟨by', oy, rfl, hby, _, hcY⟩ := hB.cells.2 (by omega)
        have hcy := (hBr.cell (p := ⟨by', oy + k, none⟩) hby).trans (hcY k hky)
        clear hcY
        have hst := HSTEP.out
        obtain ⟨s, hs⟩ : ∃ s : Int, s = c + X[k]?.getD 0 + Y[k]?.getD 0 := ⟨_, rfl⟩
        have es : X[k]?.getD 0 + Y[k]?.getD 0 + c = s := by omega
        rw [es] at hst
        have HST := Lib.hid hst
        have HS := Lib.hid hs
        have hs0 : 0 ≤ s := by omega
        have hs1 : s ≤ 131071 := by omega
        have hlen : out.length ≤ 2000000 := by rw [HOL.out]; omega
        clear hs hst es
        go_wp2_with (at_builtin; (try rw [← HS.out]); refine wpList_append_own _ rfl _ _ 22 rfl w.heap.size 40 i0 (.int .u16 0) 1 2 Tryd.underlying22 hi hz0 hz1 hz2 rfl (by decide) _ _ _ rfl (hrow.alloc _) ⟨wr.heap.size, 0, none⟩ 1 1 [.int .u16 (s % 65536)] rfl rfl (cell_one_new _ _ _) (by simp [Value.oneCell']) (by unfold maxLen; omega) (by omega) (by simp; omega) ?_; intro v' w2 hown' hgrow _)
        go_roundw
        case rel =>
          refine ⟨k + 1, s / 65536, out ++ [s % 65536], by omega, by go_num, rfl, by omega, by omega, .inl (by omega), ?_, hLm.append (Lm.cons (by omega) Lm.nil), by rw [List.length_append, HOL.out]; rfl, HST.out, fun _ => .inr (.inl (by rw [List.length_append, HOL.out]; have := HX.out; simp; omega)), (hBr.alloc hsw _).grown hgrow (by rw [World.size_alloc]; omega) (fun k hk => ?_)⟩
          · unfold Own16
            simp only [List.length_append, List.length_cons, List.length_nil, Nat.zero_add, List.map_append, List.map_cons, List.map_nil]
            exact hown'
          · rcases hown.form with ⟨e, _⟩ | ⟨g, cap, e, hBg, _⟩
            · cases e; cases hk
            · cases e; cases hk; exact hBg
        case measure => have := HS.out; simp [intOf]; omega
      · -- the first
        obtain ⟨bx, ox, rfl, hbx, _, hcX⟩ := hA.cells.2 (by omega)
        have hcx := (hBr.cell (p := ⟨bx, ox + k, none⟩) hbx).trans (hcX k hkx)
        clear hcX
        have hyz : Y[k]?.getD 0 = 0 := getD_out (by have := HY.out; omega)
        have hst := HSTEP.out
        rw [hyz] at hst
        obtain ⟨s, hs⟩ : ∃ s : Int, s = c + X[k]?.getD 0 := ⟨_, rfl⟩
        have es : X[k]?.getD 0 + 0 + c = s := by omega
        rw [es] at hst
        have HST := Lib.hid hst
        have HS := Lib.hid hs
        have hs0 : 0 ≤ s := by omega
        have hs1 : s ≤ 131071 := by omega
        have hlen : out.length ≤ 2000000 := by rw [HOL.out]; omega
        clear hs hst es hyz
        go_wp2_with (at_builtin; (try rw [← HS.out]); refine wpList_append_own _ rfl _ _ 22 rfl w.heap.size 40 i0 (.int .u16 0) 1 2 Tryd.underlying22 hi hz0 hz1 hz2 rfl (by decide) _ _ _ rfl (hrow.alloc _) ⟨wr.heap.size, 0, none⟩ 1 1 [.int .u16 (s % 65536)] rfl rfl (cell_one_new _ _ _) (by simp [Value.oneCell']) (by unfold maxLen; omega) (by omega) (by simp; omega) ?_; intro v' w2 hown' hgrow _)
        go_roundw
        case rel =>
          refine ⟨k + 1, s / 65536, out ++ [s % 65536], by omega, by go_num, rfl, by omega, by omega, .inl (by omega), ?_, hLm.append (Lm.cons (by omega) Lm.nil), by rw [List.length_append, HOL.out]; rfl, HST.out, fun _ => .inr (.inl (by rw [List.length_append, HOL.out]; have := HX.out; simp; omega)), (hBr.alloc hsw _).grown hgrow (by rw [World.size_alloc]; omega) (fun k hk => ?_)⟩
          · unfold Own16
            simp only [List.length_append, List.length_cons, List.length_nil, Nat.zero_add, List.map_append, List.map_cons, List.map_nil]
            exact hown'
          · rcases hown.form with ⟨e, _⟩ | ⟨g, cap, e, hBg, _⟩
            · cases e; cases hk
            · cases e; cases hk; exact hBg
        case measure => have := HS.out; simp [intOf]; omega
    · by_cases hky : k < ly
      · -- the second
        have hxz : X[k]?.getD 0 = 0 := getD_out (by have := HX.out; omega)
        obtain ⟨by', oy, rfl, hby, _, hcY⟩ := hB.cells.2 (by omega)
        have hcy := (hBr.cell (p := ⟨by', oy + k, none⟩) hby).trans (hcY k hky)
        clear hcY
        have hst := HSTEP.out
        rw [hxz] at hst
        obtain ⟨s, hs⟩ : ∃ s : Int, s = c + Y[k]?.getD 0 := ⟨_, rfl⟩
        have es : 0 + Y[k]?.getD 0 + c = s := by omega
        rw [es] at hst
        have HST := Lib.hid hst
        have HS := Lib.hid hs
        have hs0 : 0 ≤ s := by omega
        have hs1 : s ≤ 131071 := by omega
        have hlen : out.length ≤ 2000000 := by rw [HOL.out]; omega
        clear hs hst es hxz
        go_wp2_with (at_builtin; (try rw [← HS.out]); refine wpList_append_own _ rfl _ _ 22 rfl w.heap.size 40 i0 (.int .u16 0) 1 2 Tryd.underlying22 hi hz0 hz1 hz2 rfl (by decide) _ _ _ rfl (hrow.alloc _) ⟨wr.heap.size, 0, none⟩ 1 1 [.int .u16 (s % 65536)] rfl rfl (cell_one_new _ _ _) (by simp [Value.oneCell']) (by unfold maxLen; omega) (by omega) (by simp; omega) ?_; intro v' w2 hown' hgrow _)
        go_roundw
        case rel =>
          refine ⟨k + 1, s / 65536, out ++ [s % 65536], by omega, by go_num, rfl, by omega, by omega, .inr (.inl (by omega)), ?_, hLm.append (Lm.cons (by omega) Lm.nil), by rw [List.length_append, HOL.out]; rfl, HST.out, fun _ => .inr (.inr (by rw [List.length_append, HOL.out]; have := HY.out; simp; omega)), (hBr.alloc hsw _).grown hgrow (by rw [World.size_alloc]; omega) (fun k hk => ?_)⟩
          · unfold Own16
            simp only [List.length_append, List.length_cons, List.length_nil, Nat.zero_add, List.map_append, List.map_cons, List.map_nil]
            exact hown'
          · rcases hown.form with ⟨e, _⟩ | ⟨g, cap, e, hBg, _⟩
            · cases e; cases hk
            · cases e; cases hk; exact hBg
        case measure => have := HS.out; simp [intOf]; omega
      · by_cases hcz : 0 < c
        · -- the carry
          have hxz : X[k]?.getD 0 = 0 := getD_out (by have := HX.out; omega)
          have hyz : Y[k]?.getD 0 = 0 := getD_out (by have := HY.out; omega)
          have ht1 : 65536 ^ ((out ++ [c % 65536]).length - 1) ≤ val X + val Y := by
            have h1 := HVAL.out
            rw [take_all (by have := HX.out; omega), take_all (by have := HY.out; omega)] at h1
            rw [List.length_append, HOL.out, List.length_singleton, Nat.add_sub_cancel, ← h1]
            have h2 := val_nonneg hLm
            obtain rfl : c = 1 := by omega
            omega
          have hst := HSTEP.out
          rw [hxz] at hst
          rw [hyz] at hst
          obtain ⟨s, hs⟩ : ∃ s : Int, s = c := ⟨_, rfl⟩
          have es : 0 + 0 + c = s := by omega
          rw [show c = s by omega] at ht1
          have HT1 := Lib.hid ht1
          clear ht1
          rw [es] at hst
          have HST := Lib.hid hst
          have HS := Lib.hid hs
          have hs0 : 0 ≤ s := by omega
          have hs1 : s ≤ 131071 := by omega
          have hlen : out.length ≤ 2000000 := by rw [HOL.out]; omega
          clear hs hst es hxz hyz
          go_wp2_with (at_builtin; (try rw [← HS.out]); refine wpList_append_own _ rfl _ _ 22 rfl w.heap.size 40 i0 (.int .u16 0) 1 2 Tryd.underlying22 hi hz0 hz1 hz2 rfl (by decide) _ _ _ rfl (hrow.alloc _) ⟨wr.heap.size, 0, none⟩ 1 1 [.int .u16 (s % 65536)] rfl rfl (cell_one_new _ _ _) (by simp [Value.oneCell']) (by unfold maxLen; omega) (by omega) (by simp; omega) ?_; intro v' w2 hown' hgrow _)
          go_roundw
          case rel =>
            obtain rfl : c = 1 := by omega
            refine ⟨k + 1, s / 65536, out ++ [s % 65536], by omega, by go_num, rfl, by omega, by omega, .inr (.inr ⟨by have := HS.out; omega, by omega⟩), ?_, hLm.append (Lm.cons (by omega) Lm.nil), by rw [List.length_append, HOL.out]; rfl, HST.out, fun _ => .inl HT1.out, (hBr.alloc hsw _).grown hgrow (by rw [World.size_alloc]; omega) (fun k hk => ?_)⟩
            · unfold Own16
              simp only [List.length_append, List.length_cons, List.length_nil, Nat.zero_add, List.map_append, List.map_cons, List.map_nil]
              exact hown'
            · rcases hown.form with ⟨e, _⟩ | ⟨g, cap, e, hBg, _⟩
              · cases e; cases hk
              · cases e; cases hk; exact hBg
          case measure => have := HS.out; simp [intOf]; omega
        · obtain rfl : c = 0 := by omega
          have hv : val out = val X + val Y := by
            have h1 := HVAL.out
            rw [take_all (by have := HX.out; omega), take_all (by have := HY.out; omega), Int.mul_zero, Int.add_zero] at h1
            exact h1
          have HV := Lib.hid hv
          clear hv
          go_wp2
          go_ret
          exact ⟨.slice pp ll cc, rfl, out, hown, hLm, HV.out, HTOP.out, hBr⟩

theorem pow_le65 {a b : Nat} (h : a ≤ b) : (65536 : Int) ^ a ≤ 65536 ^ b := by
  have h1 : (65536 : Nat) ^ a ≤ 65536 ^ b := Nat.pow_le_pow_right (by decide) h
  have h2 : ((65536 ^ a : Nat) : Int) ≤ ((65536 ^ b : Nat) : Int) := Int.ofNat_le.2 h1
  rw [Int.natCast_pow, Int.natCast_pow] at h2
  exact h2

theorem Plus_rep (px py : Option Addr) (lx ly cx cy : Nat) (X Y : List Int) (n m : Int) (w : World) (hX : Rep X n) (hY : Rep Y m) (hlx : lx ≤ 1000000) (hly : ly ≤ 1000000)
    (hA : Lims w.heap.size w (.slice px lx cx) X) (hB : Lims w.heap.size w (.slice py ly cy) Y) :
    Calls Tryd.prog 81 #[.slice px lx cx, .slice py ly cy] w fun e w' => ∃ v zs, e = .returned v ∧ Own16 w.heap.size w' v zs ∧ Rep zs (n + m) ∧ Below w.heap.size w w' := by
  refine (Plus_any px py lx ly cx cy X Y w hX.lm hY.lm hlx hly hA hB).mono ?_
  rintro e w' ⟨v, zs, he, hO, hL, hv, ht, hb⟩
  rw [hX.eq, hY.eq] at hv ht
  refine ⟨v, zs, he, hO, ⟨hL, nz_of_ge hL fun hz => ?_, hv⟩, hb⟩
  have hp := List.length_pos_iff.2 hz
  have n0 := hX.nonneg
  have m0 := hY.nonneg
  rw [hv]
  rcases ht hz with h | h | h
  · exact h
  · have h1 := hX.len_ge (List.length_pos_iff.1 (by omega))
    have h2 := pow_le65 (show zs.length - 1 ≤ X.length - 1 by omega)
    omega
  · have h1 := hY.len_ge (List.length_pos_iff.1 (by omega))
    have h2 := pow_le65 (show zs.length - 1 ≤ Y.length - 1 by omega)
    omega


end Go.Proofs.YtbaiohjladddlaaDoor

/- The reference's Less. -/
namespace Go.Proofs.YtbaiohjladddlaaDoor
open Go.RowKit Go.WM Go.WR
attribute [local go_sem] Oper.semAt_some

theorem below_drewN {B : Nat} {a w : World} (h : Below B a w) (k : Nat) : Below B a (w.drewN k) := ⟨h.os, h.tape, h.output, h.size, h.block⟩

set_option maxRecDepth 100000 in
set_option maxHeartbeats 2000000 in
theorem Less_rep (px py : Option Addr) (lx ly cx cy : Nat) (X Y : List Int) (n m : Int) (w : World) (hX : Rep X n) (hY : Rep Y m) (hlx : lx ≤ 1000000) (hly : ly ≤ 1000000)
    (hA : Lims w.heap.size w (.slice px lx cx) X) (hB : Lims w.heap.size w (.slice py ly cy) Y) :
    Calls Tryd.prog 82 #[.slice px lx cx, .slice py ly cy] w fun e w' => e = .returned (.bool (decide (n < m))) ∧ Below w.heap.size w w' := by
  have HX := Lib.hid hA.cells.1
  have HY := Lib.hid hB.cells.1
  by_cases hne : lx = ly
  · subst hne
    go_enter Tryd.func82, Tryd.ntmps82
    go_wp2
    go_loopw [5] (fun iv wr => ∃ t : Nat, t ≤ lx ∧ iv = .int .i64 ((t : Int) - 1) ∧ X.drop t = Y.drop t ∧ Below w.heap.size w wr) (fun iv _ => (intOf iv + 1).toNat)
    case atStart => exact ⟨lx, Nat.le_refl _, rfl, by rw [List.drop_eq_nil_of_le (by have := HX.out; omega), List.drop_eq_nil_of_le (by have := HY.out; omega)], Below.refl _ _⟩
    case round =>
      obtain ⟨t, ht, rfl, hd, hBr⟩ := hrel
      have HD := Lib.hid hd
      clear hd
      cases t with
      | zero =>
        have he : n = m := by have := HD.out; simp only [List.drop_zero] at this; rw [← hX.eq, ← hY.eq, this]
        have HE := Lib.hid he
        clear he
        go_wp2
        go_ret
        exact ⟨by rw [HE.out, decide_eq_false (Int.lt_irrefl m)]; rfl, hBr⟩
      | succ s =>
        have e1 : ((s + 1 : Nat) : Int) - 1 = (s : Int) := by omega
        rw [e1]
        clear e1
        obtain ⟨bx, ox, rfl, hbx, _, hcX⟩ := hA.cells.2 (by omega)
        obtain ⟨by', oy, rfl, hby, _, hcY⟩ := hB.cells.2 (by omega)
        have hcx := (hBr.cell (p := ⟨bx, ox + s, none⟩) hbx).trans (hcX s (by omega))
        have hcy := (hBr.cell (p := ⟨by', oy + s, none⟩) hby).trans (hcY s (by omega))
        clear hcX hcY
        obtain ⟨x, hx⟩ : ∃ x, x = X[s]?.getD 0 := ⟨_, rfl⟩
        obtain ⟨y, hy⟩ : ∃ y, y = Y[s]?.getD 0 := ⟨_, rfl⟩
        rw [← hx] at hcx
        rw [← hy] at hcy
        have HHX := Lib.hid hx
        have HHY := Lib.hid hy
        clear hx hy
        by_cases hxy : x = y
        · have hd2 : X.drop s = Y.drop s := by
            have h1 := HHX.out
            have h2 := HHY.out
            have hlX := HX.out
            have hlY := HY.out
            rw [List.drop_eq_getElem_cons (by omega), List.drop_eq_getElem_cons (show s < Y.length by omega), HD.out]
            congr 1
            rw [List.getElem?_eq_getElem (by omega)] at h1 h2
            simp only [Option.getD_some] at h1 h2
            rw [← h1, ← h2, hxy]
          have HD2 := Lib.hid hd2
          subst hxy
          clear hd2
          go_wp2
          go_region
          go_wp2
          go_roundw
          case rel => exact ⟨s, by omega, rfl, HD2.out, below_drewN hBr _⟩
          case measure => simp [intOf]
        · have hb : (x != y) = true := bne_iff_ne.2 hxy
          have hres : decide (n < m) = decide (x < y) := by
            have h1 := HHX.out
            have h2 := HHY.out
            have hlX := HX.out
            have hlY := HY.out
            have v1 := hX.eq
            have v2 := hY.eq
            rw [h1, h2] at hxy ⊢
            by_cases hlt : X[s]?.getD 0 < Y[s]?.getD 0
            · have := val_lt_of_drop hX.lm hY.lm (by omega) (by omega) HD.out hlt
              rw [decide_eq_true hlt, decide_eq_true (by omega)]
            · have := val_lt_of_drop hY.lm hX.lm (by omega) (by omega) HD.out.symm (show Y[s]?.getD 0 < X[s]?.getD 0 by omega)
              rw [decide_eq_false hlt, decide_eq_false (by omega)]
          have HRES := Lib.hid hres
          clear hres hxy
          go_wp2
          go_region
          go_wp2
          go_region
          go_wp2
          go_ret
          exact ⟨by rw [HRES.out]; rfl, below_drewN (below_drewN hBr _) _⟩
  · have hdec : decide (n < m) = decide (lx < ly) := by
      have hlX := HX.out
      have hlY := HY.out
      by_cases hlt : lx < ly
      · rw [decide_eq_true (hX.lt_of_len hY (by omega)), decide_eq_true (by omega)]
      · rw [decide_eq_false (by have := hY.lt_of_len hX (by omega); omega), decide_eq_false (by omega)]
    have HDEC := Lib.hid hdec
    clear hdec
    have hn2 : ((lx : Int) != ly) = true := by rw [bne_iff_ne]; omega
    go_enter Tryd.func82, Tryd.ntmps82
    go_wp2
    go_ret
    exact ⟨by rw [HDEC.out]; rfl, Below.refl _ _⟩

end Go.Proofs.YtbaiohjladddlaaDoor

/- The reference's Minus. -/
namespace Go.Proofs.YtbaiohjladddlaaDoor
open Go.RowKit Go.WM Go.WR
attribute [local go_sem] Oper.semAt_some

set_option maxRecDepth 100000 in
set_option maxHeartbeats 2000000 in
theorem Minus_rep (px py : Option Addr) (lx ly cx cy : Nat) (X Y : List Int) (n m : Int) (w : World) (hX : Rep X n) (hY : Rep Y m) (hnm : m ≤ n) (hlx : lx ≤ 1000000)
    (hA : Lims w.heap.size w (.slice px lx cx) X) (hB : Lims w.heap.size w (.slice py ly cy) Y) :
    Calls Tryd.prog 83 #[.slice px lx cx, .slice py ly cy] w fun e w' => ∃ v zs, e = .returned v ∧ Own16 w.heap.size w' v zs ∧ Rep zs (n - m) ∧ Below w.heap.size w w' := by
  obtain ⟨i0, hi, hz0, hz1, hz2⟩ := info_parts info40
  have HX := Lib.hid hA.cells.1
  have HY := Lib.hid hB.cells.1
  have hyx : Y.length ≤ X.length := by
    apply Nat.le_of_not_lt
    intro h
    have := hX.lt_of_len hY h
    omega
  go_enter Tryd.func83, Tryd.ntmps83
  go_wp2
  go_loopw [5, 6, 7] (fun ov sv iv wr => ∃ (k : Nat) (c : Int) (out : List Int), k ≤ lx ∧ iv = .int .i64 k ∧ sv = .int .i64 c ∧ 0 ≤ c ∧ c ≤ 1 ∧ Own16 w.heap.size wr ov out ∧ Lm out ∧ out.length = k ∧
      val out + 65536 ^ k * (-c) = val (X.take k) - val (Y.take k) ∧ Below w.heap.size w wr) (fun _ _ iv _ => lx - (intOf iv).toNat)
  case atStart => exact ⟨0, 0, [], Nat.zero_le _, rfl, rfl, by omega, by omega, World.ownsRow_nil _ _ _ _, Lm.nil, rfl, by simp [val], Below.refl _ _⟩
  case round =>
    obtain ⟨k, c, out, hk, rfl, rfl, hc0, hc1, hown, hLm, hol, hval, hBr⟩ := hrel
    have HOL := Lib.hid hol; clear hol
    have HVAL := Lib.hid hval; clear hval
    obtain ⟨pp, ll, cc, rfl⟩ := hown.shape
    have hrow := hown.out
    have hsw := hBr.size
    by_cases hkx : k < lx
    · have hstep := sub_step (X := X) (Y := Y) HOL.out HVAL.out
      have HSTEP := Lib.hid hstep; clear hstep
      obtain ⟨hx0, hx1⟩ := hX.lm.getD k
      obtain ⟨hy0, hy1⟩ := hY.lm.getD k
      obtain ⟨bx, ox, rfl, hbx, _, hcX⟩ := hA.cells.2 (by omega)
      have hcx := (hBr.cell (p := ⟨bx, ox + k, none⟩) hbx).trans (hcX k hkx)
      clear hcX
      by_cases hky : k < ly
      · -- both
        obtain ⟨by', oy, rfl, hby, _, hcY⟩ := hB.cells.2 (by omega)
        have hcy := (hBr.cell (p := ⟨by', oy + k, none⟩) hby).trans (hcY k hky)
        clear hcY
        have hst := HSTEP.out
        obtain ⟨s, hs⟩ : ∃ s : Int, s = 65536 + X[k]?.getD 0 - c - Y[k]?.getD 0 := ⟨_, rfl⟩
        have es : X[k]?.getD 0 - Y[k]?.getD 0 - c = s - 65536 := by omega
        rw [es, show (s - 65536) % 65536 = s % 65536 by omega, show -(-((s - 65536) / 65536)) = -(1 - s / 65536) by omega] at hst
        have HST := Lib.hid hst
        have HS := Lib.hid hs
        have hs0 : 0 ≤ s := by omega
        have hs1 : s ≤ 131071 := by omega
        have hlen : out.length ≤ 1000000 := by rw [HOL.out]; omega
        clear hs hst es
        go_wp2_with (at_builtin; (try rw [← HS.out]); refine wpList_append_own _ rfl _ _ 22 rfl w.heap.size 40 i0 (.int .u16 0) 1 2 Tryd.underlying22 hi hz0 hz1 hz2 rfl (by decide) _ _ _ rfl (hrow.alloc _) ⟨wr.heap.size, 0, none⟩ 1 1 [.int .u16 (s % 65536)] rfl rfl (cell_one_new _ _ _) (by simp [Value.oneCell']) (by unfold maxLen; omega) (by omega) (by simp; omega) ?_; intro v' w2 hown' hgrow _)
        go_roundw
        case rel =>
          refine ⟨k + 1, 1 - s / 65536, out ++ [s % 65536], by omega, by go_num, rfl, by omega, by omega, ?_, hLm.append (Lm.cons (by omega) Lm.nil), by rw [List.length_append, HOL.out]; rfl, HST.out, (hBr.alloc hsw _).grown hgrow (by rw [World.size_alloc]; omega) (fun k hk => ?_)⟩
          · unfold Own16
            simp only [List.length_append, List.length_cons, List.length_nil, Nat.zero_add, List.map_append, List.map_cons, List.map_nil]
            exact hown'
          · rcases hown.form with ⟨e, _⟩ | ⟨g, cap, e, hBg, _⟩
            · cases e; cases hk
            · cases e; cases hk; exact hBg
        case measure => simp [intOf]; omega
      · -- the first
        have hyz : Y[k]?.getD 0 = 0 := getD_out (by have := HY.out; omega)
        have hst := HSTEP.out
        rw [hyz] at hst
        obtain ⟨s, hs⟩ : ∃ s : Int, s = 65536 + X[k]?.getD 0 - c := ⟨_, rfl⟩
        have es : X[k]?.getD 0 - 0 - c = s - 65536 := by omega
        rw [es, show (s - 65536) % 65536 = s % 65536 by omega, show -(-((s - 65536) / 65536)) = -(1 - s / 65536) by omega] at hst
        have HST := Lib.hid hst
        have HS := Lib.hid hs
        have hs0 : 0 ≤ s := by omega
        have hs1 : s ≤ 131071 := by omega
        have hlen : out.length ≤ 1000000 := by rw [HOL.out]; omega
        clear hs hst es hyz
        go_wp2_with (at_builtin; (try rw [← HS.out]); refine wpList_append_own _ rfl _ _ 22 rfl w.heap.size 40 i0 (.int .u16 0) 1 2 Tryd.underlying22 hi hz0 hz1 hz2 rfl (by decide) _ _ _ rfl (hrow.alloc _) ⟨wr.heap.size, 0, none⟩ 1 1 [.int .u16 (s % 65536)] rfl rfl (cell_one_new _ _ _) (by simp [Value.oneCell']) (by unfold maxLen; omega) (by omega) (by simp; omega) ?_; intro v' w2 hown' hgrow _)
        go_roundw
        case rel =>
          refine ⟨k + 1, 1 - s / 65536, out ++ [s % 65536], by omega, by go_num, rfl, by omega, by omega, ?_, hLm.append (Lm.cons (by omega) Lm.nil), by rw [List.length_append, HOL.out]; rfl, HST.out, (hBr.alloc hsw _).grown hgrow (by rw [World.size_alloc]; omega) (fun k hk => ?_)⟩
          · unfold Own16
            simp only [List.length_append, List.length_cons, List.length_nil, Nat.zero_add, List.map_append, List.map_cons, List.map_nil]
            exact hown'
          · rcases hown.form with ⟨e, _⟩ | ⟨g, cap, e, hBg, _⟩
            · cases e; cases hk
            · cases e; cases hk; exact hBg
        case measure => simp [intOf]; omega
    · obtain rfl : k = lx := by omega
      have hfin : val out = n - m := by
        have h1 := HVAL.out
        have hlX := HX.out
        have hlY := HY.out
        rw [take_all (by omega), take_all (by omega), hX.eq, hY.eq] at h1
        have h2 := val_nonneg hLm
        have h3 := val_lt hLm
        rw [HOL.out] at h3
        rcases (show c = 0 ∨ c = 1 by omega) with hc | hc
        · rw [hc] at h1; omega
        · rw [hc] at h1; omega
      have HF := Lib.hid hfin
      clear hfin
      have hlen : out.length ≤ 9223372036854775807 := by rw [HOL.out]; omega
      have htr := Trim_own w.heap.size (.slice pp ll cc) out wr hlen hown
      clear hlen
      go_wp2_with fail
      refine htr.mono ?_
      rintro e w3 ⟨v', rfl, hO, rfl⟩
      obtain ⟨p3, l3, c3, rfl⟩ := hO.shape
      go_wp2
      go_ret
      exact ⟨.slice p3 l3 c3, trim out, rfl, hO, by rw [← HF.out]; exact trim_rep hLm, hBr⟩

end Go.Proofs.YtbaiohjladddlaaDoor

/- The reference's fits. -/
namespace Go.Proofs.YtbaiohjladddlaaDoor
open Go.RowKit Go.WM Go.WR
attribute [local go_sem] Oper.semAt_some

set_option maxRecDepth 100000 in
set_option maxHeartbeats 1000000 in
theorem fits_any (b : Bool) (p : Option Addr) (l c : Nat) (w : World) :
    Calls Tryd.prog 58 #[.agg #[.bool b, .slice p l c]] w fun e w' => e = .returned (if 1024 < l then .tuple #[.agg #[.bool false, .slice none 0 0], .int .i64 3] else .tuple #[.agg #[.bool b, .slice p l c], .int .i64 0]) ∧ Below w.heap.size w w' := by
  obtain ⟨w1, hw1⟩ : ∃ x, x = (w.alloc (.cells #[.bool b, .slice p l c] 24)).alloc (.cells #[.bool false, .slice none 0 0] 24) := ⟨_, rfl⟩
  have hB1 : Below w.heap.size w w1 := by rw [hw1]; exact ((Below.refl _ w).alloc (Nat.le_refl _) _).alloc (by simp) _
  have q0 : w1.heap[w.heap.size]? = some (.cells #[.bool b, .slice p l c] 24) := by rw [hw1]; exact alloc_old _ _ (alloc_new _ _ rfl)
  have q1 : w1.heap[w.heap.size + 1]? = some (.cells #[.bool false, .slice none 0 0] 24) := by rw [hw1]; exact alloc_new _ _ (by simp)
  have c0 := cell_of q0 0 rfl
  have c1 := cell_of q0 1 rfl
  have d0 := cell_of q1 0 rfl
  have d1 := cell_of q1 1 rfl
  have f0 := frozen_of q1 0
  have f1 := frozen_of q1 1
  have g0 := frozen_of (show (w1.setCell ⟨w.heap.size + 1, 0, none⟩ (.bool b)).heap[w.heap.size + 1]? = some (.cells #[.bool b, .slice none 0 0] 24) by simp [World.setCell, Array.getElem?_modify, q1]) 1
  have g1 := frozen_of (show (w1.setCell ⟨w.heap.size + 1, 0, none⟩ (.bool false)).heap[w.heap.size + 1]? = some (.cells #[.bool false, .slice none 0 0] 24) by simp [World.setCell, Array.getElem?_modify, q1]) 1
  rw [hw1] at c0 c1 d0 d1 f0 f1 g0 g1
  have HW1 := Lib.hid hw1
  clear hw1
  go_enter Tryd.func58, Tryd.ntmps58
  by_cases hl : 1024 < l
  · rw [if_pos hl]
    go_wp2
    exact bodyPost_ret (v := .tuple #[.agg #[.bool false, .slice none 0 0], .int .i64 3]) (by simp [results, Tryd.results58, go_sem, d0, d1]) rfl ⟨rfl, by rw [← HW1.out]; exact hB1⟩
  · rw [if_neg hl]
    have q2 : ((w.alloc (.cells #[.bool b, .slice p l c] 24)).alloc (.cells #[.bool b, .slice p l c] 24)).heap[w.heap.size + 1]? = some (.cells #[.bool b, .slice p l c] 24) := alloc_new _ _ (by simp)
    have e0 := cell_of q2 0 rfl
    have e1 := cell_of q2 1 rfl
    go_wp2
    exact bodyPost_ret (v := .tuple #[.agg #[.bool b, .slice p l c], .int .i64 0]) (by simp [results, Tryd.results58, go_sem, e0, e1]) rfl ⟨rfl, ((Below.refl _ w).alloc (Nat.le_refl _) _).alloc (by simp) _⟩

set_option maxRecDepth 100000 in
set_option maxHeartbeats 1000000 in
theorem same_any (va vb : Value) (na nb : Bool) (A B : List Int) (ea eb : Int) (w : World) (hla : A.length ≤ 140737488355328) (hlb : B.length ≤ 140737488355328) (hA : Wr w.heap.size w va na A) (hB : Wr w.heap.size w vb nb B) :
    Calls Tryd.prog 30 #[va, .int .i64 ea, vb, .int .i64 eb] w fun e w' => e = .returned (.bool ((na == nb && decide (A = B)) && decide (ea = eb))) ∧ Below w.heap.size w w' := by
  obtain ⟨sa, rfl, hLa⟩ := hA
  obtain ⟨sb, rfl, hLb⟩ := hB
  obtain ⟨pa, la, ca, rfl⟩ := hLa.form
  obtain ⟨pb, lb, cb, rfl⟩ := hLb.form
  obtain ⟨w1, hw1⟩ : ∃ x, x = (w.alloc (.cells #[.bool na, .slice pa la ca] 24)).alloc (.cells #[.bool nb, .slice pb lb cb] 24) := ⟨_, rfl⟩
  have hB1 : Below w.heap.size w w1 := by rw [hw1]; exact ((Below.refl _ w).alloc (Nat.le_refl _) _).alloc (by simp) _
  have hcall := refSame_any (.agg #[.bool na, .slice pa la ca]) (.agg #[.bool nb, .slice pb lb cb]) na nb A B w1 hla hlb ⟨_, rfl, (hLa.below hB1).mono hB1.size⟩ ⟨_, rfl, (hLb.below hB1).mono hB1.size⟩
  obtain ⟨t, ht⟩ : ∃ t, t = (na == nb && decide (A = B)) := ⟨_, rfl⟩
  rw [← ht] at hcall ⊢
  have HW1 := Lib.hid hw1
  clear hw1 ht hLa hLb hla hlb
  go_enter Tryd.func30, Tryd.ntmps30
  go_wp2_with fail
  rw [← HW1.out]
  refine hcall.mono ?_
  rintro e w2 ⟨rfl, hb2⟩
  cases t
  · go_wp2
    go_ret
    exact ⟨rfl, hB1.trans (hb2.mono hB1.size)⟩
  · by_cases he : ea = eb
    · subst he
      go_wp2
      go_ret
      exact ⟨rfl, hB1.trans (hb2.mono hB1.size)⟩
    · have hq : (ea == eb) = false := beq_eq_false_iff_ne.2 he
      go_wp2
      go_ret
      exact ⟨by rw [decide_eq_false he]; rfl, hB1.trans (hb2.mono hB1.size)⟩

end Go.Proofs.YtbaiohjladddlaaDoor

/- The reference's Neg. -/
namespace Go.Proofs.YtbaiohjladddlaaDoor
open Go.RowKit Go.WM Go.WR
attribute [local go_sem] Oper.semAt_some

set_option maxRecDepth 100000 in
set_option maxHeartbeats 1000000 in
theorem refNeg_any (b : Bool) (p : Option Addr) (l c : Nat) (w : World) :
    Calls Tryd.prog 60 #[.agg #[.bool b, .slice p l c]] w fun e w' => e = .returned (.agg #[.bool (!b && decide (0 < l)), .slice p l c]) ∧ Below w.heap.size w w' := by
  obtain ⟨w1, hw1⟩ : ∃ x, x = (w.alloc (.cells #[.bool b, .slice p l c] 24)).alloc (.cells #[.bool false, .slice none 0 0] 24) := ⟨_, rfl⟩
  have hB1 : Below w.heap.size w w1 := by rw [hw1]; exact ((Below.refl _ w).alloc (Nat.le_refl _) _).alloc (by simp) _
  have q0 : w1.heap[w.heap.size]? = some (.cells #[.bool b, .slice p l c] 24) := by rw [hw1]; exact alloc_old _ _ (alloc_new _ _ rfl)
  have q1 : w1.heap[w.heap.size + 1]? = some (.cells #[.bool false, .slice none 0 0] 24) := by rw [hw1]; exact alloc_new _ _ (by simp)
  have c0 := cell_of q0 0 rfl
  have c1 := cell_of q0 1 rfl
  obtain ⟨t, ht⟩ : ∃ t, t = (!b && decide (0 < l)) := ⟨_, rfl⟩
  have hmk : ∀ W : World, Calls Tryd.prog 80 #[.bool (!b), .slice p l c] W fun e w' => e = .returned (.agg #[.bool t, .slice p l c]) ∧ Below W.heap.size W w' := by
    intro W
    refine (Make_any (!b) p l c W).mono ?_
    rintro e w' ⟨he, rfl⟩
    exact ⟨by rw [he, ht], (Below.refl _ _).alloc (Nat.le_refl _) _⟩
  rw [← ht]
  rw [hw1] at c0 c1
  have HW1 := Lib.hid hw1
  clear hw1 ht
  go_enter Tryd.func60, Tryd.ntmps60
  go_wp2_with fail
  rw [← HW1.out]
  refine (hmk w1).mono ?_
  rintro e w2 ⟨rfl, hb2⟩
  have r1 := (hb2.block _ (Array.getElem?_eq_some_iff.1 q1).1).trans q1
  have d0 := cell_of r1 0 rfl
  have d1 := cell_of r1 1 rfl
  have f0 := frozen_of r1 0
  have f1 := frozen_of r1 1
  go_wp2
  obtain ⟨w3, hw3⟩ : ∃ x, x = put2 w2 (w.heap.size + 1) (.bool t) (.slice p l c) := ⟨_, rfl⟩
  have hc := put2_cell r1 (.bool t) (.slice p l c)
  have ho := put2_only w2 (w.heap.size + 1) (.bool t) (.slice p l c)
  rw [← hw3] at hc ho
  unfold put2 at hw3
  rw [← hw3]
  obtain ⟨e0, e1⟩ := hc
  exact bodyPost_ret (v := .agg #[.bool t, .slice p l c]) (by simp [results, Tryd.results60, go_sem, e0, e1]) rfl ⟨rfl, (hB1.trans (hb2.mono hB1.size)).trans (ho.below (by omega))⟩

end Go.Proofs.YtbaiohjladddlaaDoor

/- The reference's Times. -/
namespace Go.Proofs.YtbaiohjladddlaaDoor
open Go.RowKit Go.WM Go.WR
attribute [local go_sem] Oper.semAt_some

set_option maxRecDepth 100000 in
set_option maxHeartbeats 2000000 in
/-- Times(a, b) -/
theorem Times_rep (px py : Option Addr) (lx ly cx cy : Nat) (X Y : List Int) (n m : Int) (w : World) (hX : Rep X n) (hY : Rep Y m) (hlx : lx ≤ 1000000) (hly : ly ≤ 1000000)
    (hA : Lims w.heap.size w (.slice px lx cx) X) (hB : Lims w.heap.size w (.slice py ly cy) Y) :
    Calls Tryd.prog 84 #[.slice px lx cx, .slice py ly cy] w fun e w' => ∃ v zs, e = .returned v ∧ Own16 w.heap.size w' v zs ∧ Rep zs (n * m) ∧ Below w.heap.size w w' := by
  obtain ⟨i0, hi, hz0, hz1, hz2⟩ := info_parts info40
  have HX := Lib.hid hA.cells.1
  have HY := Lib.hid hB.cells.1
  go_enter Tryd.func84, Tryd.ntmps84
  go_wp2_with (at_make; refine wpList_make_full _ rfl _ _ 22 rfl w.heap.size 40 i0 (.int .u16 0) 1 Tryd.underlying22 hi hz0 hz1 _ _ _ _ (lx + ly) rfl rfl (by omega) (by omega) (by rw [hz2]; omega) (by unfold maxLen; omega) (Nat.le_refl _) ?_; intro w0 hown0 hgrow0)
  have hB0 : Below w.heap.size w w0 := (Below.refl _ _).grown hgrow0 (Nat.le_refl _) (fun k h => by cases h)
  rw [made16] at hown0
  have hown1 : Own16 w.heap.size w0 (.slice (some ⟨w.heap.size, 0, none⟩) (lx + ly) (lx + ly)) (List.replicate (lx + ly) 0) := by unfold Own16; rw [List.length_replicate]; exact hown0
  clear hown0 hgrow0
  go_loopw [6, 7, 8] (fun i nv kv0 wr => ∃ (i0 : Nat) (out : List Int), i0 ≤ lx ∧ i = .int .i64 i0 ∧ Own16 w.heap.size wr (.slice (some ⟨w.heap.size, 0, none⟩) (lx + ly) (lx + ly)) out ∧ Lm out ∧ out.length = lx + ly ∧ (∀ j, i0 + ly ≤ j → out[j]?.getD 0 = 0) ∧
      val out = val (X.take i0) * val Y ∧ Below w.heap.size w wr) (fun i _ _ _ => lx - (intOf i).toNat)
  case atStart => exact ⟨0, _, Nat.zero_le _, rfl, hown1, Lm.replicate _, by simp, fun j _ => getD_replicate _ _, by rw [val_replicate]; simp [val], hB0⟩
  case round =>
    obtain ⟨i, out, hk, rfl, hown, hLm, hol, hzero, hval, hBr⟩ := hrel
    have HOL := Lib.hid hol; clear hol
    have HVAL := Lib.hid hval; clear hval
    have HZ := Lib.hid hzero; clear hzero
    by_cases hkl : i < lx
    · have hx := hX.lm.getD i
      obtain ⟨hx0, hx1⟩ := hx
      obtain ⟨bx, ox, rfl, hbx, hcx, hcX⟩ := hA.cells.2 (by omega)
      have hcX0 : w.cell? ⟨bx, ox + i, none⟩ = some (.int .u16 (X[i]?.getD 0)) := hcX i hkl
      clear hcX
      go_wp2
      obtain ⟨wo, hwo⟩ : ∃ wo : World, wo = wr := ⟨_, rfl⟩
      go_loopw [7, 8] (fun cv kv wr => ∃ (k : Nat) (c : Int) (out' : List Int), k ≤ ly ∧ kv = .int .i64 k ∧ cv = .int .i64 c ∧ 0 ≤ c ∧ c ≤ 65535 ∧ Own16 w.heap.size wr (.slice (some ⟨w.heap.size, 0, none⟩) (lx + ly) (lx + ly)) out' ∧ Lm out' ∧ out'.length = lx + ly ∧
          (∀ j, i + ly ≤ j → out'[j]?.getD 0 = 0) ∧ val out' + 65536 ^ (i + k) * c = val (X.take i) * val Y + 65536 ^ i * (X[i]?.getD 0 * val (Y.take k)) ∧ Below w.heap.size w wr) (fun _ kv _ => ly - (intOf kv).toNat)
      case atStart => exact ⟨0, 0, out, Nat.zero_le _, rfl, rfl, by omega, by omega, hown, hLm, HOL.out, HZ.out, by rw [HVAL.out]; simp [val], hBr⟩
      case round =>
        clear hwo hown hLm HOL HZ HVAL hBr
        obtain ⟨k, c, out', hk', rfl, rfl, hc0, hc1, hown, hLm, hol, hzero, hval, hBr⟩ := hrel
        have HOL := Lib.hid hol; clear hol
        have HVAL := Lib.hid hval; clear hval
        have HZ := Lib.hid hzero; clear hzero
        by_cases hky : k < ly
        · obtain ⟨by', oy, rfl, hby, hcy, hcY⟩ := hB.cells.2 (by omega)
          have hcxk' := (hBr.cell (p := ⟨bx, ox + i, none⟩) hbx).trans hcX0
          have hcyk : wr.cell? ⟨by', oy + k, none⟩ = some (.int .u16 (Y[k]?.getD 0)) := (hBr.cell (p := ⟨by', oy + k, none⟩) hby).trans (hcY k hky)
          clear hcY
          obtain ⟨hy0, hy1⟩ := hY.lm.getD k
          obtain ⟨ho0, ho1⟩ := hLm.getD (i + k)
          obtain ⟨hm0, hm1⟩ := mul_bd hx0 (show X[i]?.getD 0 ≤ 65535 by omega) hy0 (show Y[k]?.getD 0 ≤ 65535 by omega)
          obtain ⟨hat, hfz⟩ := hown.at (i + k) (by rw [HOL.out]; omega)
          have hst := mul_step (Y := Y) (show i + k < out'.length by rw [HOL.out]; omega) HVAL.out
          obtain ⟨x, hx⟩ : ∃ x, x = X[i]?.getD 0 := ⟨_, rfl⟩
          obtain ⟨y, hy⟩ : ∃ y, y = Y[k]?.getD 0 := ⟨_, rfl⟩
          obtain ⟨o, ho⟩ : ∃ o, o = out'[i + k]?.getD 0 := ⟨_, rfl⟩
          rw [← hx] at hm0 hm1 hst hcxk' hx0 hx1
          rw [← hy] at hm0 hm1 hst hcyk hy0 hy1
          rw [← ho] at hst hat ho0 ho1
          obtain ⟨s, hs⟩ : ∃ s : Int, s = c + x * y + o := ⟨_, rfl⟩
          have es : x * y + o + c = s := by omega
          rw [es] at hst
          have HST := Lib.hid hst
          have HS := Lib.hid hs
          have hs0 : 0 ≤ s := by omega
          have hs1 : s ≤ 4294967295 := by omega
          have e1 : IntKind.i64.wrap (x * y) = x * y := IntWalk.i64_in _ (by omega)
          have e2 : IntKind.i64.wrap (c + x * y) = c + x * y := IntWalk.i64_in _ (by omega)
          have e3 : IntKind.i64.wrap (c + x * y + o) = s := by rw [← hs]; exact IntWalk.i64_in _ (by omega)
          have hik : IntKind.i64.wrap ((i : Int) + k) = ((i + k : Nat) : Int) := by rw [IntWalk.i64_in _ (by omega)]; omega
          have HXE := Lib.hid hx
          clear hst es hx hy ho hs
          go_wp2
          go_region
          go_wp2
          go_roundw
          case rel =>
            refine ⟨k + 1, s / 65536, out'.set (i + k) (s % 65536), by omega, by go_num, by go_num, by omega, by omega, (hown.set (i + k) (by rw [HOL.out]; omega) _).below ((Below.refl _ _).drew), hLm.set _ (by omega), by rw [List.length_set]; exact HOL.out, fun j hj => ?_, by have h := HST.out; rw [HXE.out] at h; exact h, (hBr.setCell (p := ⟨w.heap.size, i + k, none⟩) (Nat.le_refl _) _).drew⟩
            rw [getD_set, if_neg (by omega)]; exact HZ.out j hj
          case measure => simp [intOf]; omega
        · obtain rfl : k = ly := by omega
          obtain ⟨hat, hfz⟩ := hown.at (i + k) (by rw [HOL.out]; omega)
          rw [HZ.out _ (Nat.le_refl _)] at hat
          have hst := mul_last (show i + k < out'.length by rw [HOL.out]; omega) (show Y.length ≤ k by have := HY.out; omega) (HZ.out _ (Nat.le_refl _)) HVAL.out
          have HST := Lib.hid hst; clear hst
          have hwr : IntKind.u16.wrap c = c := by rw [IntKind.wrap_u16]; omega
          have HWR := Lib.hid hwr; clear hwr
          go_wp2
          go_roundw
          case rel =>
            refine ⟨i + 1, _, by omega, by go_num, hown.set (i + k) (by rw [HOL.out]; omega) c, hLm.set _ (by omega), by rw [List.length_set]; exact HOL.out, fun j hj => ?_, HST.out, hBr.setCell (p := ⟨w.heap.size, i + k, none⟩) (Nat.le_refl _) _⟩
            rw [getD_set, if_neg (by omega)]; exact HZ.out j (by omega)
          case measure => simp [intOf]; omega
    · obtain rfl : i = lx := by omega
      have hrep := trim_rep hLm
      rw [HVAL.out, take_all (by have := HX.out; omega), hX.eq, hY.eq] at hrep
      have HREP := Lib.hid hrep; clear hrep
      go_wp2_with (go_at_call 97; refine (Trim_own w.heap.size _ out wr (by rw [HOL.out]; omega) hown).mono ?_; rintro e w2 ⟨v2, rfl, hown2, rfl⟩)
      go_ret
      exact ⟨v2, _, rfl, hown2, HREP.out, hBr⟩
end Go.Proofs.YtbaiohjladddlaaDoor
