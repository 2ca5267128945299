import Derived.Test.YtbaiohjladddlaaDoorW5
/- whole: mul. -/
namespace Go.Proofs.YtbaiohjladddlaaDoor
open Go.RowKit Go.WM Go.WR

/-- add(a, b) -/
theorem add_any (va vb : Value) (X Y : List Int) (n m : Int) (w : World) (hX : Rep X n) (hY : Rep Y m) (hlx : X.length ≤ 70368744177662) (hly : Y.length ≤ 70368744177662)
    (hA : Lims w.heap.size w va X) (hB : Lims w.heap.size w vb Y) :
    Calls Tryd.prog 52 #[va, vb] w fun e w' => ∃ v zs, e = .returned v ∧ Own16 w.heap.size w' v zs ∧ Rep zs (n + m) ∧ Below w.heap.size w w' := by
  obtain ⟨pa, la, ca, rfl⟩ := hA.form
  obtain ⟨pb, lb, cb, rfl⟩ := hB.form
  have h1 := hA.cells.1
  have h2 := hB.cells.1
  by_cases h : la < lb
  · rw [Int.add_comm n m]
    exact add_lt pb pa lb la cb ca Y X m n w hY hX (by omega) h hB hA
  · exact add_ge pa pb la lb ca cb X Y n m w hX hY (by omega) h hA hB

theorem sub_all (va vb : Value) (X Y : List Int) (n m : Int) (w : World) (hX : Rep X n) (hY : Rep Y m) (hnm : m ≤ n) (hlx : X.length ≤ 70368744177662)
    (hA : Lims w.heap.size w va X) (hB : Lims w.heap.size w vb Y) :
    Calls Tryd.prog 62 #[va, vb] w fun e w' => ∃ v zs, e = .returned v ∧ Own16 w.heap.size w' v zs ∧ Rep zs (n - m) ∧ Below w.heap.size w w' := by
  obtain ⟨pa, la, ca, rfl⟩ := hA.form
  obtain ⟨pb, lb, cb, rfl⟩ := hB.form
  have h1 := hA.cells.1
  exact sub_any pa pb la lb ca cb X Y n m w hX hY hnm (by omega) hA hB

/-- a limb of a slice of the call's own is written -/
theorem Own16.set {B : Nat} {W : World} {g len cap : Nat} {zs : List Int} (h : Own16 B W (.slice (some ⟨g, 0, none⟩) len cap) zs) (i : Nat) (hi : i < zs.length) (x : Int) :
    Own16 B (W.setCell ⟨g, i, none⟩ (.int .u16 x)) (.slice (some ⟨g, 0, none⟩) len cap) (zs.set i x) := by
  obtain ⟨hl, h⟩ := h
  rcases h with ⟨e, _⟩ | ⟨g', cap', cur, e, hB, hh, hn, hc, hs, ht⟩
  · cases e
  · cases e
    refine ⟨by simp, .inr ⟨g, cap, cur.setIfInBounds i (.int .u16 x), by simp, hB, ?_, by simpa using hn, hc, by simpa using hs, ?_⟩⟩
    · have hg := (Array.getElem?_eq_some_iff.1 hh).1
      simp only [World.setCell, Array.getElem?_modify, if_true, hh, Option.map_some]
      simp
    · simp only [List.length_set, Array.toList_setIfInBounds]
      rw [List.take_set, ht, List.map_set]

theorem Own16.at {B : Nat} {W : World} {g len cap : Nat} {zs : List Int} (h : Own16 B W (.slice (some ⟨g, 0, none⟩) len cap) zs) (i : Nat) (hi : i < zs.length) :
    W.cell? ⟨g, i, none⟩ = some (.int .u16 (zs[i]?.getD 0)) ∧ W.frozen? ⟨g, i, none⟩ = false := by
  constructor
  · rcases h.form with ⟨e, _⟩ | ⟨g', cap', e, hB, hg, hc, hcell⟩
    · cases e
    · cases e; have := hcell i hi; rwa [Nat.zero_add] at this
  · obtain ⟨hl, h⟩ := h
    rcases h with ⟨e, _⟩ | ⟨g', cap', cur, e, hB, hh, hn, hc, hs, ht⟩
    · cases e
    · cases e; simp [World.frozen?, hh]

theorem Own16.len {B : Nat} {W : World} {g len cap : Nat} {zs : List Int} (h : Own16 B W (.slice (some ⟨g, 0, none⟩) len cap) zs) : len = zs.length ∧ B ≤ g := by
  obtain ⟨hl, h⟩ := h
  rcases h with ⟨e, _⟩ | ⟨g', cap', cur, e, hB, hh, hn, hc, hs, ht⟩
  · cases e
  · cases e; exact ⟨rfl, hB⟩

theorem Own16.lt {B : Nat} {W : World} {g len cap : Nat} {zs : List Int} (h : Own16 B W (.slice (some ⟨g, 0, none⟩) len cap) zs) : g < W.heap.size := by
  obtain ⟨hl, h⟩ := h
  rcases h with ⟨e, _⟩ | ⟨g', cap', cur, e, hB, hh, hn, hc, hs, ht⟩
  · cases e
  · cases e; exact (Array.getElem?_eq_some_iff.1 hh).1

theorem Own16.below {B : Nat} {W W' : World} {v : Value} {zs : List Int} (h : Own16 B W v zs) (hb : Below W.heap.size W W') : Own16 B W' v zs := by
  obtain ⟨hl, h⟩ := h
  refine ⟨hl, ?_⟩
  rcases h with h | ⟨g', cap', cur, e, hB, hh, r⟩
  · exact .inl h
  · exact .inr ⟨g', cap', cur, e, hB, (hb.block g' (Array.getElem?_eq_some_iff.1 hh).1).trans hh, r⟩

theorem made16 (n : Nat) : (madeCells (Value.int .u16 0).cells (n * 1)).toList = (List.replicate n 0).map (Value.int .u16) := by
  simp [madeCells, Value.cells, Nat.mod_one]
  exact List.eq_replicate_iff.2 ⟨by simp, fun b hb => by simp at hb; exact hb.2.symm⟩

set_option maxRecDepth 100000 in
set_option maxHeartbeats 2000000 in
/-- mul(a, b) -/
theorem mul_some (px py : Option Addr) (lx ly cx cy : Nat) (X Y : List Int) (n m : Int) (w : World) (hX : Rep X n) (hY : Rep Y m) (hlx : lx ≤ 35184372088831) (hly : ly ≤ 35184372088831)
    (hA : Lims w.heap.size w (.slice px lx cx) X) (hB : Lims w.heap.size w (.slice py ly cy) Y) :
    Calls Tryd.prog 53 #[.slice px lx cx, .slice py ly cy] w fun e w' => ∃ v zs, e = .returned v ∧ Own16 w.heap.size w' v zs ∧ Rep zs (n * m) ∧ Below w.heap.size w w' := by
  obtain ⟨i0, hi, hz0, hz1, hz2⟩ := info_parts info40
  have HX := Lib.hid hA.cells.1
  have HY := Lib.hid hB.cells.1
  go_enter Tryd.func53, Tryd.ntmps53
  go_wp2_with (at_make; refine wpList_make_full _ rfl _ _ 22 rfl w.heap.size 40 i0 (.int .u16 0) 1 Tryd.underlying22 hi hz0 hz1 _ _ _ _ (lx + ly) rfl rfl (by omega) (by omega) (by rw [hz2]; omega) (by unfold maxLen; omega) (Nat.le_refl _) ?_; intro w0 hown0 hgrow0)
  have hB0 : Below w.heap.size w w0 := (Below.refl _ _).grown hgrow0 (Nat.le_refl _) (fun k h => by cases h)
  rw [made16] at hown0
  have hown1 : Own16 w.heap.size w0 (.slice (some ⟨w.heap.size, 0, none⟩) (lx + ly) (lx + ly)) (List.replicate (lx + ly) 0) := by unfold Own16; rw [List.length_replicate]; exact hown0
  clear hown0 hgrow0
  go_loopw [20] (fun i wr => ∃ (i0 : Nat) (out : List Int), i0 ≤ lx ∧ i = .int .i64 i0 ∧ Own16 w.heap.size wr (.slice (some ⟨w.heap.size, 0, none⟩) (lx + ly) (lx + ly)) out ∧ Lm out ∧ out.length = lx + ly ∧ (∀ j, i0 + ly ≤ j → out[j]?.getD 0 = 0) ∧
      val out = val (X.take i0) * val Y ∧ Below w.heap.size w wr) (fun i _ => lx - (intOf i).toNat)
  case atStart => exact ⟨0, _, Nat.zero_le _, rfl, hown1, Lm.replicate _, by simp, fun j _ => getD_replicate _ _, by rw [val_replicate]; simp [val], hB0⟩
  case round =>
    obtain ⟨i, out, hk, rfl, hown, hLm, hol, hzero, hval, hBr⟩ := hrel
    have HOL := Lib.hid hol; clear hol
    have HVAL := Lib.hid hval; clear hval
    have HZ := Lib.hid hzero; clear hzero
    by_cases hkl : i < lx
    · have hx := hX.lm.getD i
      obtain ⟨hx0, hx1⟩ := hx
      obtain ⟨bx, ox, rfl, hbx, hcx, hcX⟩ := hA.cells.2 (by omega)
      have hcxk : wr.cell? ⟨bx, ox + i, none⟩ = some (.int .u16 (X[i]?.getD 0)) := (hBr.cell (p := ⟨bx, ox + i, none⟩) hbx).trans (hcX i hkl)
      clear hcX
      go_wp2
      obtain ⟨wo, hwo⟩ : ∃ wo : World, wo = wr := ⟨_, rfl⟩
      go_loopw [8, 27] (fun cv kv wr => ∃ (k : Nat) (c : Int) (out' : List Int), k ≤ ly ∧ kv = .int .i64 k ∧ cv = .int .u32 c ∧ 0 ≤ c ∧ c ≤ 65535 ∧ Own16 w.heap.size wr (.slice (some ⟨w.heap.size, 0, none⟩) (lx + ly) (lx + ly)) out' ∧ Lm out' ∧ out'.length = lx + ly ∧
          (∀ j, i + ly ≤ j → out'[j]?.getD 0 = 0) ∧ val out' + 65536 ^ (i + k) * c = val (X.take i) * val Y + 65536 ^ i * (X[i]?.getD 0 * val (Y.take k)) ∧ Below w.heap.size w wr) (fun _ kv _ => ly - (intOf kv).toNat)
      case atStart => exact ⟨0, 0, out, Nat.zero_le _, rfl, rfl, by omega, by omega, hown, hLm, HOL.out, HZ.out, by rw [HVAL.out]; simp [val], hBr⟩
      case round =>
        clear hwo hown hLm HOL HZ HVAL hBr hcxk
        obtain ⟨k, c, out', hk', rfl, rfl, hc0, hc1, hown, hLm, hol, hzero, hval, hBr⟩ := hrel
        have HOL := Lib.hid hol; clear hol
        have HVAL := Lib.hid hval; clear hval
        have HZ := Lib.hid hzero; clear hzero
        by_cases hky : k < ly
        · obtain ⟨by', oy, rfl, hby, hcy, hcY⟩ := hB.cells.2 (by omega)
          have hcyk : wr.cell? ⟨by', oy + k, none⟩ = some (.int .u16 (Y[k]?.getD 0)) := (hBr.cell (p := ⟨by', oy + k, none⟩) hby).trans (hcY k hky)
          clear hcY
          obtain ⟨hy0, hy1⟩ := hY.lm.getD k
          obtain ⟨ho0, ho1⟩ := hLm.getD (i + k)
          obtain ⟨hm0, hm1⟩ := mul_bd hx0 (show X[i]?.getD 0 ≤ 65535 by omega) hy0 (show Y[k]?.getD 0 ≤ 65535 by omega)
          obtain ⟨hat, hfz⟩ := hown.at (i + k) (by rw [HOL.out]; omega)
          have hst := mul_step (Y := Y) (show i + k < out'.length by rw [HOL.out]; omega) HVAL.out
          have HST := Lib.hid hst; clear hst
          go_wp2
          go_roundw
          case rel =>
            refine ⟨k + 1, _, _, by omega, by go_num, rfl, by omega, by omega, by rw [IntKind.wrap_u16]; exact hown.set (i + k) (by rw [HOL.out]; omega) _, hLm.set _ (by omega), by rw [List.length_set]; exact HOL.out, fun j hj => ?_, HST.out, hBr.setCell (p := ⟨w.heap.size, i + k, none⟩) (Nat.le_refl _) _⟩
            rw [getD_set, if_neg (by omega)]; exact HZ.out j hj
          case measure => simp [intOf]; omega
        · obtain rfl : k = ly := by omega
          obtain ⟨hat, hfz⟩ := hown.at (i + k) (by rw [HOL.out]; omega)
          rw [HZ.out _ (Nat.le_refl _)] at hat
          have hst := mul_last (show i + k < out'.length by rw [HOL.out]; omega) (show Y.length ≤ k by have := HY.out; omega) (HZ.out _ (Nat.le_refl _)) HVAL.out
          have HST := Lib.hid hst; clear hst
          have hwr : IntKind.u16.wrap c = c := by rw [IntKind.wrap_u16]; omega
          have HWR := Lib.hid hwr; clear hwr
          go_wp2
          go_roundw
          case rel =>
            refine ⟨i + 1, _, by omega, by go_num, hown.set (i + k) (by rw [HOL.out]; omega) c, hLm.set _ (by omega), by rw [List.length_set]; exact HOL.out, fun j hj => ?_, HST.out, hBr.setCell (p := ⟨w.heap.size, i + k, none⟩) (Nat.le_refl _) _⟩
            rw [getD_set, if_neg (by omega)]; exact HZ.out j (by omega)
          case measure => simp [intOf]; omega
    · obtain rfl : i = lx := by omega
      have hrep := trim_rep hLm
      rw [HVAL.out, take_all (by have := HX.out; omega), hX.eq, hY.eq] at hrep
      have HREP := Lib.hid hrep; clear hrep
      go_wp2_with (go_at_call 54; refine (trimmed_own w.heap.size _ out wr (by rw [HOL.out]; omega) hown).mono ?_; rintro e w2 ⟨v2, rfl, hown2, rfl⟩)
      go_ret
      exact ⟨v2, _, rfl, hown2, HREP.out, hBr⟩
end Go.Proofs.YtbaiohjladddlaaDoor
