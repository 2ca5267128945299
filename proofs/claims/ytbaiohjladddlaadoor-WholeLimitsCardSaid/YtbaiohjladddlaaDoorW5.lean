import Derived.Test.YtbaiohjladddlaaDoorW4
/- whole: sub. -/
namespace Go.Proofs.YtbaiohjladddlaaDoor
open Go.RowKit Go.WM Go.WR

theorem borrow_bits (x : Int) (h1 : -65536 ≤ x) (h2 : x ≤ 65535) : bits BinOp.and IntKind.i32 (x / 2147483648) 1 = -(x / 65536) := by
  by_cases h : x < 0
  · rw [show x / 2147483648 = -1 by omega, show x / 65536 = -1 by omega]; decide
  · rw [show x / 2147483648 = 0 by omega, show x / 65536 = 0 by omega]; decide

set_option maxRecDepth 100000 in
set_option maxHeartbeats 400000 in
/-- sub's put: the borrow in its box, the limbs in theirs -/
theorem subput (n₀ Bc Bo : Nat) (n c : Int) (v : Value) (zs : List Int) (w : World) (hn : -65535 ≤ n) (hn' : n ≤ 65535) (hc : 0 ≤ c) (hc' : c ≤ 1) (hlen : zs.length ≤ 70368744177663)
    (bC : Boxed w Bc 21 (.int .i32 c)) (bO : Boxed w Bo 22 v) (hown : Own16 n₀ w v zs) (hn₀ : n₀ ≤ w.heap.size) (hBc : n₀ ≤ Bc) (hBo : n₀ ≤ Bo) (hne : Bc ≠ Bo) :
    Calls Tryd.prog 85 #[.int .i32 n, .pointer (some ⟨Bc, 0, none⟩), .pointer (some ⟨Bo, 0, none⟩)] w fun e w' => (∃ u, e = .returned u) ∧ Boxed w' Bc 21 (.int .i32 (-((n - c) / 65536))) ∧
      (∃ v', Boxed w' Bo 22 v' ∧ Own16 n₀ w' v' (zs ++ [(n - c) % 65536])) ∧ Below n₀ w w' := by
  obtain ⟨i0, hi, hz0, hz1, hz2⟩ := info_parts info40
  have hcc := bC.cell
  have hco := bO.cell
  have hfc := bC.frozen
  have hfo := bO.frozen
  have hrow := hown.out
  have k1 : -65536 ≤ n - c := by omega
  have k2 : n - c ≤ 65535 := by omega
  go_enter Tryd.func85, Tryd.ntmps85
  go_wp2_with (at_builtin; refine wpList_append_own _ rfl _ _ 22 rfl n₀ 40 i0 (.int .u16 0) 1 2 Tryd.underlying22 hi hz0 hz1 hz2 rfl (by decide) _ _ _ rfl (hrow.alloc _) ⟨w.heap.size, 0, none⟩ 1 1 [.int .u16 (IntKind.u16.wrap (n - c))] rfl rfl (cell_one_new _ _ _) (by simp [Value.oneCell']) (by unfold maxLen; omega) (by omega) (by simp; omega) ?_; intro v' w1 hown' hgrow _; obtain ⟨g', cap', rfl⟩ := ownsRow_succ hown'; obtain ⟨hv1, hv2, hr2, hk2, hb2⟩ := bO.appended (by decide) hrow hn₀ hBo hown' hgrow; have hc1 := hv1.cell; have hf1 := hv1.frozen; have bC2 := ((bC.alloc (.cells #[.int .u16 (IntKind.u16.wrap (n - c))] 40)).kept hgrow (bC.not_row (by decide) hrow)).other hne (.slice (some ⟨g', 0, none⟩) (zs.length + 1) cap'); have hc2 := bC2.cell; have hf2 := bC2.frozen)
  go_end0
  refine ⟨⟨_, rfl⟩, ?_, ⟨_, hv2.other (Ne.symm hne) _, ?_⟩, hb2.setCell (p := ⟨Bc, 0, none⟩) hBc _⟩
  · rw [← borrow_bits (n - c) k1 k2]; exact bC2.set _
  · refine Own16.box (t := 21) ?_ bC2 (by decide) _
    unfold Own16
    simp only [List.length_append, List.length_cons, List.length_nil, Nat.zero_add, List.map_append, List.map_cons, List.map_nil]
    rw [← IntKind.wrap_u16]
    exact hr2

/-- the first k of the limbs that a slice owns -/
theorem Own16.take {B : Nat} {W : World} {g len cap : Nat} {zs : List Int} (h : Own16 B W (.slice (some ⟨g, 0, none⟩) len cap) zs) (k : Nat) (hk : k ≤ zs.length) : Own16 B W (.slice (some ⟨g, 0, none⟩) k cap) (zs.take k) := by
  obtain ⟨hl, h⟩ := h
  rcases h with ⟨e, _⟩ | ⟨g', cap', cur, e, hB, hh, hn, hc, hs, ht⟩
  · cases e
  · cases e
    refine ⟨by simp, .inr ⟨g, cap, cur, by simp [Nat.min_eq_left hk], hB, hh, by simp; omega, hc, hs, ?_⟩⟩
    rw [List.map_take, ← ht, List.take_take]
    simp [Nat.min_eq_left hk]

theorem Own16.form {B : Nat} {W : World} {v : Value} {zs : List Int} (h : Own16 B W v zs) : (v = .slice none 0 0 ∧ zs = []) ∨ ∃ g cap, v = .slice (some ⟨g, 0, none⟩) zs.length cap ∧ B ≤ g ∧ g < W.heap.size ∧ zs.length ≤ cap ∧ ∀ j, j < zs.length → W.cell? ⟨g, 0 + j, none⟩ = some (.int .u16 (zs[j]?.getD 0)) := by
  have hcells := fun g => World.ownsRow.cells (g := g) h
  obtain ⟨hl, h⟩ := h
  rcases h with ⟨e, hn⟩ | ⟨g', cap', cur, e, hB, hh, hn, hc, hs, ht⟩
  · exact .inl ⟨e, List.length_eq_zero_iff.1 hn⟩
  · refine .inr ⟨g', cap', e, hB, (Array.getElem?_eq_some_iff.1 hh).1, hn, fun j hj => ?_⟩
    have := hcells g' (by rw [e]; rfl) j (.int .u16 (zs[j]?.getD 0)) (by simp [hj])
    rw [show (⟨g', 0, none⟩ : Addr).add j = ⟨g', 0 + j, none⟩ by by_cases hj0 : j = 0 <;> simp [Addr.add, hj0]] at this
    exact this

theorem Own16.mono {B B' : Nat} {W : World} {v : Value} {zs : List Int} (h : Own16 B W v zs) (hB : B' ≤ B) : Own16 B' W v zs := by
  obtain ⟨h1, h2⟩ := h
  refine ⟨h1, ?_⟩
  rcases h2 with h2 | ⟨g, cap, cur, hv, hg, r⟩
  · exact .inl h2
  · exact .inr ⟨g, cap, cur, hv, by omega, r⟩

theorem Own16.alloc {B : Nat} {W : World} {v : Value} {zs : List Int} (h : Own16 B W v zs) (o : Obj) : Own16 B (W.alloc o) v zs := World.ownsRow.alloc h o

theorem Own16.shape {B : Nat} {W : World} {v : Value} {zs : List Int} (h : Own16 B W v zs) : ∃ p len c, v = .slice p len c := by
  rcases h.2 with ⟨e, _⟩ | ⟨g, cap, cur, e, _⟩ <;> exact ⟨_, _, _, e⟩

theorem Own16.keptFrom {B : Nat} {W W' : World} {row : Option Nat} {v : Value} {zs : List Int} (h : Own16 B W v zs) (hg : W.grownBy W' row) (hr : ∀ r, row = some r → ∃ o : Obj, W.heap[r]? = some o ∧ o.isCells = false) : Own16 B W' v zs := by
  refine World.ownsRow.kept h hg ?_
  rcases h.2 with ⟨rfl, _⟩ | ⟨g, cap, cur, rfl, _, hgb, _⟩
  · exact .inl rfl
  · refine .inr fun e' => ?_
    obtain ⟨o, ho, hc⟩ := hr g e'.symm
    rw [hgb] at ho; cases ho; cases hc

theorem Own16.lims {B : Nat} {W : World} {v : Value} {zs : List Int} (h : Own16 B W v zs) : Lims W.heap.size W v zs := by
  rcases h.form with h | ⟨g, cap, e, hB, hg, hc, hcell⟩
  · exact .inl h
  · exact .inr ⟨g, 0, cap, e, hc, hg, hcell⟩

/-- trimmed(l), of a slice of the call's own -/
theorem trimmed_own (B : Nat) (v : Value) (zs : List Int) (w : World) (hbig : zs.length ≤ 9223372036854775807) (h : Own16 B w v zs) :
    Calls Tryd.prog 54 #[v] w fun e w' => ∃ v', e = .returned v' ∧ Own16 B w v' (trim zs) ∧ w = w' := by
  rcases h.form with ⟨rfl, rfl⟩ | ⟨g, cap, rfl, hB, hg, hc, hcell⟩
  · exact (trimmed_nil w).mono fun e w' ⟨he, hw⟩ => ⟨_, he, h, hw⟩
  · refine (trimmed_some g 0 zs.length cap zs w rfl hc hbig hcell).mono fun e w' ⟨he, hw⟩ => ⟨_, he, ?_, hw⟩
    obtain ⟨k, hk, e⟩ := trim_prefix zs
    rw [e, show (zs.take k).length = k by simp [Nat.min_eq_left hk]]
    exact h.take k hk

set_option maxRecDepth 100000 in
set_option maxHeartbeats 2000000 in
/-- sub(a, b), where a is not smaller -/
theorem sub_any (px py : Option Addr) (lx ly cx cy : Nat) (X Y : List Int) (n m : Int) (w : World) (hX : Rep X n) (hY : Rep Y m) (hnm : m ≤ n) (hlen : lx ≤ 70368744177662)
    (hA : Lims w.heap.size w (.slice px lx cx) X) (hB : Lims w.heap.size w (.slice py ly cy) Y) :
    Calls Tryd.prog 62 #[.slice px lx cx, .slice py ly cy] w fun e w' => ∃ v zs, e = .returned v ∧ Own16 w.heap.size w' v zs ∧ Rep zs (n - m) ∧ Below w.heap.size w w' := by
  obtain ⟨i0, hi, hz0, hz1, hz2⟩ := info_parts info40
  have HX := Lib.hid hA.cells.1
  have HY := Lib.hid hB.cells.1
  have hle : ly ≤ lx := by have h := len_le_of_val hY.lm hY.nz hX.lm (by rw [hX.eq, hY.eq]; exact hnm); rw [HX.out, HY.out]; exact h
  go_enter Tryd.func62, Tryd.ntmps62
  go_wp2_with (at_make; refine wpList_make_own _ rfl _ _ 22 rfl w.heap.size 40 i0 (.int .u16 0) 1 Tryd.underlying22 hi hz0 hz1 _ _ _ lx rfl rfl (by omega) (by rw [hz2]; omega) (by unfold maxLen; omega) (Nat.le_refl _) ?_; intro w0 hown0 hgrow0)
  have hB0 : Below w.heap.size w w0 := (Below.refl _ _).grown hgrow0 (Nat.le_refl _) (fun k h => by cases h)
  have hs0 := hB0.size
  have bO := Boxed.new w0 22 (.slice (some ⟨w.heap.size, 0, none⟩) 0 lx)
  have bC := Boxed.new (w0.alloc (.cells #[.slice (some ⟨w.heap.size, 0, none⟩) 0 lx] 22)) 21 (.int .i32 0)
  rw [World.size_alloc] at bC
  replace bO := bO.alloc (.cells #[.int .i32 0] 21)
  have hB1 := (hB0.alloc hs0 (.cells #[.slice (some ⟨w.heap.size, 0, none⟩) 0 lx] 22)).alloc (by simp; omega) (.cells #[.int .i32 0] 21)
  have hown1 : Own16 w.heap.size ((w0.alloc (.cells #[.slice (some ⟨w.heap.size, 0, none⟩) 0 lx] 22)).alloc (.cells #[.int .i32 0] 21)) (.slice (some ⟨w.heap.size, 0, none⟩) 0 lx) [] := (hown0.alloc _).alloc _
  clear hown0 hgrow0
  generalize hW1 : (w0.alloc (.cells #[.slice (some ⟨w.heap.size, 0, none⟩) 0 lx] 22)).alloc (.cells #[.int .i32 0] 21) = W1 at *
  clear hW1
  go_loopw [17] (fun i wr => ∃ (k : Nat) (c : Int) (v : Value) (out : List Int), k ≤ lx ∧ i = .int .i64 k ∧ 0 ≤ c ∧ c ≤ 1 ∧ Boxed wr (w0.heap.size + 1) 21 (.int .i32 c) ∧ Boxed wr w0.heap.size 22 v ∧ Own16 w.heap.size wr v out ∧ Lm out ∧ out.length = k ∧
      val out + 65536 ^ k * (-c) = val (X.take k) - val (Y.take k) ∧ Below w.heap.size w wr) (fun i _ => lx - (intOf i).toNat)
  case atStart => exact ⟨0, 0, _, [], Nat.zero_le _, rfl, by omega, by omega, bC, bO, hown1, Lm.nil, rfl, by simp [val], hB1⟩
  case round =>
    obtain ⟨k, c, v, out, hk, rfl, hc0, hc1, bCr, bOr, hown, hLm, hol, hval, hBr⟩ := hrel
    have HOL := Lib.hid hol; clear hol
    have HVAL := Lib.hid hval; clear hval
    by_cases hkl : k < lx
    · have hx := hX.lm.getD k
      have hy := hY.lm.getD k
      obtain ⟨hx0, hx1⟩ := hx
      obtain ⟨hy0, hy1⟩ := hy
      obtain ⟨bx, ox, rfl, hbx, hcx, hcX⟩ := hA.cells.2 (by omega)
      have hcxk : wr.cell? ⟨bx, ox + k, none⟩ = some (.int .u16 (X[k]?.getD 0)) := (hBr.cell (p := ⟨bx, ox + k, none⟩) hbx).trans (hcX k hkl)
      have hstep := sub_step (X := X) (Y := Y) HOL.out HVAL.out
      have HSTEP := Lib.hid hstep; clear hstep
      by_cases hky : k < ly
      · obtain ⟨by', oy, rfl, hby, hcy, hcY⟩ := hB.cells.2 (by omega)
        have hcyk : wr.cell? ⟨by', oy + k, none⟩ = some (.int .u16 (Y[k]?.getD 0)) := (hBr.cell (p := ⟨by', oy + k, none⟩) hby).trans (hcY k hky)
        clear hcX hcY
        go_wp2_with (go_at_call 85; refine (subput w.heap.size (w0.heap.size + 1) w0.heap.size _ c v out wr (by omega) (by omega) hc0 hc1 (by rw [HOL.out]; omega) bCr bOr hown hBr.size (by omega) hs0 (by omega)).mono ?_; rintro e w2 ⟨⟨u, rfl⟩, bC2, ⟨v2, bO2, hown2⟩, hb2⟩)
        go_roundw
        case rel => exact ⟨k + 1, _, v2, _, by omega, by go_num, by omega, by omega, bC2, bO2, hown2, hLm.append (Lm.cons (by omega) Lm.nil), by rw [List.length_append, HOL.out]; rfl, HSTEP.out, hBr.trans hb2⟩
        case measure => simp [intOf]; omega
      · have hyz : Y[k]?.getD 0 = 0 := getD_out (by have := HY.out; omega)
        have HYZ := Lib.hid hyz; clear hyz
        clear hcX
        go_wp2_with (go_at_call 85; refine (subput w.heap.size (w0.heap.size + 1) w0.heap.size _ c v out wr (by omega) (by omega) hc0 hc1 (by rw [HOL.out]; omega) bCr bOr hown hBr.size (by omega) hs0 (by omega)).mono ?_; rintro e w2 ⟨⟨u, rfl⟩, bC2, ⟨v2, bO2, hown2⟩, hb2⟩)
        have hst := HSTEP.out
        rw [HYZ.out, Int.sub_zero] at hst
        have HST := Lib.hid hst; clear hst
        go_roundw
        case rel => exact ⟨k + 1, _, v2, _, by omega, by go_num, by omega, by omega, bC2, bO2, hown2, hLm.append (Lm.cons (by omega) Lm.nil), by rw [List.length_append, HOL.out]; rfl, HST.out, hBr.trans hb2⟩
        case measure => simp [intOf]; omega
    · obtain rfl : k = lx := by omega
      have hvv : val out = n - m := by
        have h := HVAL.out
        rw [take_all (by have := HX.out; omega), take_all (by have := HX.out; have := HY.out; omega), hX.eq, hY.eq] at h
        have h1 := val_lt hLm
        rw [HOL.out] at h1
        obtain rfl | rfl : c = 0 ∨ c = 1 := by omega
        · simpa using h
        · omega
      have hrep := trim_rep hLm
      rw [hvv] at hrep
      have HREP := Lib.hid hrep; clear hrep hvv
      have hcc := bCr.cell
      have hco := bOr.cell
      go_wp2_with (go_at_call 54; refine (trimmed_own w.heap.size v out wr (by rw [HOL.out]; omega) hown).mono ?_; rintro e w2 ⟨v2, rfl, hown2, rfl⟩)
      go_ret
      exact ⟨v2, _, rfl, hown2, HREP.out, hBr⟩
end Go.Proofs.YtbaiohjladddlaaDoor
