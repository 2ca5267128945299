import Derived.Test.YtbaiohjladddlaaDoorW3
/- whole: add. -/
namespace Go.Proofs.YtbaiohjladddlaaDoor
open Go.RowKit Go.WM Go.WR

set_option maxRecDepth 100000 in
set_option maxHeartbeats 2000000 in
theorem add_ge (px py : Option Addr) (lx ly cx cy : Nat) (X Y : List Int) (n m : Int) (w : World) (hX : Rep X n) (hY : Rep Y m) (hlen : lx ≤ 70368744177662) (hlt : ¬ lx < ly)
    (hA : Lims w.heap.size w (.slice px lx cx) X) (hB : Lims w.heap.size w (.slice py ly cy) Y) :
    Calls Tryd.prog 52 #[.slice px lx cx, .slice py ly cy] w fun e w' => ∃ v zs, e = .returned v ∧ Own16 w.heap.size w' v zs ∧ Rep zs (n + m) ∧ Below w.heap.size w w' := by
  obtain ⟨i0, hi, hz0, hz1, hz2⟩ := info_parts info40
  have HX := Lib.hid hA.cells.1
  have HY := Lib.hid hB.cells.1
  have hd : decide (lx < ly) = false := by simpa using hlt
  go_enter Tryd.func52, Tryd.ntmps52
  go_wp2_with (at_make; refine wpList_make_own _ rfl _ _ 22 rfl w.heap.size 40 i0 (.int .u16 0) 1 Tryd.underlying22 hi hz0 hz1 _ _ _ (lx + 1) rfl rfl (by omega) (by rw [hz2]; omega) (by unfold maxLen; omega) (Nat.le_refl _) ?_; intro w0 hown0 hgrow0)
  have hB0 : Below w.heap.size w w0 := (Below.refl _ _).grown hgrow0 (Nat.le_refl _) (fun k h => by cases h)
  have hs0 := hB0.size
  have bO := Boxed.new w0 22 (.slice (some ⟨w.heap.size, 0, none⟩) 0 (lx + 1))
  have bC := Boxed.new (w0.alloc (.cells #[.slice (some ⟨w.heap.size, 0, none⟩) 0 (lx + 1)] 22)) 57 (.int .u32 0)
  rw [World.size_alloc] at bC
  replace bO := bO.alloc (.cells #[.int .u32 0] 57)
  have hB1 := (hB0.alloc hs0 (.cells #[.slice (some ⟨w.heap.size, 0, none⟩) 0 (lx + 1)] 22)).alloc (by simp; omega) (.cells #[.int .u32 0] 57)
  have hown1 : Own16 w.heap.size ((w0.alloc (.cells #[.slice (some ⟨w.heap.size, 0, none⟩) 0 (lx + 1)] 22)).alloc (.cells #[.int .u32 0] 57)) (.slice (some ⟨w.heap.size, 0, none⟩) 0 (lx + 1)) [] := (hown0.alloc _).alloc _
  clear hown0 hgrow0
  generalize hW1 : (w0.alloc (.cells #[.slice (some ⟨w.heap.size, 0, none⟩) 0 (lx + 1)] 22)).alloc (.cells #[.int .u32 0] 57) = W1 at *
  have hs1 : W1.heap.size = w0.heap.size + 2 := by rw [← hW1]; simp
  have HW1 := Lib.hid hW1; clear hW1
  have HS1 := Lib.hid hs1; clear hs1
  go_loopw [25] (fun i wr => ∃ (k : Nat) (c : Int) (v : Value) (out : List Int), k ≤ lx ∧ i = .int .i64 k ∧ 0 ≤ c ∧ c ≤ 1 ∧ Boxed wr (w0.heap.size + 1) 57 (.int .u32 c) ∧ Boxed wr w0.heap.size 22 v ∧ Own16 w.heap.size wr v out ∧ Lm out ∧ out.length = k ∧
      val out + 65536 ^ k * c = val (X.take k) + val (Y.take k) ∧ Below w.heap.size w wr) (fun i _ => lx - (intOf i).toNat)
  case atStart => exact ⟨0, 0, _, [], Nat.zero_le _, rfl, by omega, by omega, bC, bO, hown1, Lm.nil, rfl, by simp [val], hB1⟩
  case round =>
    obtain ⟨k, c, v, out, hk, rfl, hc0, hc1, bCr, bOr, hown, hLm, hol, hval, hBr⟩ := hrel
    have HOL := Lib.hid hol; clear hol
    have HVAL := Lib.hid hval; clear hval
    by_cases hkl : k < lx
    · have hx := hX.lm.getD k
      have hy := hY.lm.getD k
      obtain ⟨hx0, hx1⟩ := hx
      obtain ⟨hy0, hy1⟩ := hy
      obtain ⟨bx, ox, rfl, hbx, hcx, hcX⟩ := hA.cells.2 (by omega)
      have hcxk : wr.cell? ⟨bx, ox + k, none⟩ = some (.int .u16 (X[k]?.getD 0)) := (hBr.cell (p := ⟨bx, ox + k, none⟩) hbx).trans (hcX k hkl)
      have hstep := add_step (X := X) (Y := Y) HOL.out HVAL.out
      have HSTEP := Lib.hid hstep; clear hstep
      by_cases hky : k < ly
      · obtain ⟨by', oy, rfl, hby, hcy, hcY⟩ := hB.cells.2 (by omega)
        have hcyk : wr.cell? ⟨by', oy + k, none⟩ = some (.int .u16 (Y[k]?.getD 0)) := (hBr.cell (p := ⟨by', oy + k, none⟩) hby).trans (hcY k hky)
        clear hcX hcY
        go_wp2_with (go_at_call 79; refine (addput w.heap.size (w0.heap.size + 1) w0.heap.size _ c v out wr (by omega) (by omega) hc0 hc1 (by rw [HOL.out]; omega) bCr bOr hown hBr.size (by omega) hs0 (by omega)).mono ?_; rintro e w2 ⟨⟨u, rfl⟩, bC2, ⟨v2, bO2, hown2⟩, hb2⟩)
        go_roundw
        case rel => exact ⟨k + 1, _, v2, _, by omega, by go_num, by omega, by omega, bC2, bO2, hown2, hLm.append (Lm.cons (by omega) Lm.nil), by rw [List.length_append, HOL.out]; rfl, HSTEP.out, hBr.trans hb2⟩
        case measure => simp [intOf]; omega
      · have hyz : Y[k]?.getD 0 = 0 := getD_out (by have := HY.out; omega)
        have HYZ := Lib.hid hyz; clear hyz
        clear hcX
        go_wp2_with (go_at_call 79; refine (addput w.heap.size (w0.heap.size + 1) w0.heap.size _ c v out wr (by omega) (by omega) hc0 hc1 (by rw [HOL.out]; omega) bCr bOr hown hBr.size (by omega) hs0 (by omega)).mono ?_; rintro e w2 ⟨⟨u, rfl⟩, bC2, ⟨v2, bO2, hown2⟩, hb2⟩)
        have hst := HSTEP.out
        rw [HYZ.out, Int.add_zero] at hst
        have HST := Lib.hid hst; clear hst
        go_roundw
        case rel => exact ⟨k + 1, _, v2, _, by omega, by go_num, by omega, by omega, bC2, bO2, hown2, hLm.append (Lm.cons (by omega) Lm.nil), by rw [List.length_append, HOL.out]; rfl, HST.out, hBr.trans hb2⟩
        case measure => simp [intOf]; omega
    · obtain rfl : k = lx := by omega
      have hvv : val out + 65536 ^ k * c = n + m := by
        rw [HVAL.out, take_all (by have := HX.out; omega), take_all (by have := HX.out; have := HY.out; omega), hX.eq, hY.eq]
      have HVV := Lib.hid hvv; clear hvv
      have hcc := bCr.cell
      have hco := bOr.cell
      by_cases hcz : c = 0
      · subst hcz
        have hrep : Rep out (n + m) := rep_add0 hX hY hLm (by rw [HOL.out, HX.out]) (by have := HVV.out; simpa using this)
        have HREP := Lib.hid hrep
        go_wp2
        go_ret
        exact ⟨v, out, rfl, hown, hrep, hBr⟩
      · obtain rfl : c = 1 := by omega
        have hrep : Rep (out ++ [(0 + 1) % 65536]) (n + m) := rep_add1 hLm (by rw [HOL.out]; exact HVV.out)
        go_wp2_with (go_at_call 79; refine (addput w.heap.size (w0.heap.size + 1) w0.heap.size 0 1 v out wr (by omega) (by omega) hc0 hc1 (by rw [HOL.out]; omega) bCr bOr hown hBr.size (by omega) hs0 (by omega)).mono ?_; rintro e w2 ⟨⟨u, rfl⟩, bC2, ⟨v2, bO2, hown2⟩, hb2⟩; have hco2 := bO2.cell)
        go_ret
        exact ⟨v2, _, rfl, hown2, hrep, hBr.trans hb2⟩

set_option maxRecDepth 100000 in
set_option maxHeartbeats 2000000 in
theorem add_lt (px py : Option Addr) (lx ly cx cy : Nat) (X Y : List Int) (n m : Int) (w : World) (hX : Rep X n) (hY : Rep Y m) (hlen : lx ≤ 70368744177662) (hlt : ly < lx)
    (hA : Lims w.heap.size w (.slice px lx cx) X) (hB : Lims w.heap.size w (.slice py ly cy) Y) :
    Calls Tryd.prog 52 #[.slice py ly cy, .slice px lx cx] w fun e w' => ∃ v zs, e = .returned v ∧ Own16 w.heap.size w' v zs ∧ Rep zs (n + m) ∧ Below w.heap.size w w' := by
  obtain ⟨i0, hi, hz0, hz1, hz2⟩ := info_parts info40
  have HX := Lib.hid hA.cells.1
  have HY := Lib.hid hB.cells.1
  have hd : decide (ly < lx) = true := by simpa using hlt
  go_enter Tryd.func52, Tryd.ntmps52
  go_wp2_with (at_make; refine wpList_make_own _ rfl _ _ 22 rfl w.heap.size 40 i0 (.int .u16 0) 1 Tryd.underlying22 hi hz0 hz1 _ _ _ (lx + 1) rfl rfl (by omega) (by rw [hz2]; omega) (by unfold maxLen; omega) (Nat.le_refl _) ?_; intro w0 hown0 hgrow0)
  have hB0 : Below w.heap.size w w0 := (Below.refl _ _).grown hgrow0 (Nat.le_refl _) (fun k h => by cases h)
  have hs0 := hB0.size
  have bO := Boxed.new w0 22 (.slice (some ⟨w.heap.size, 0, none⟩) 0 (lx + 1))
  have bC := Boxed.new (w0.alloc (.cells #[.slice (some ⟨w.heap.size, 0, none⟩) 0 (lx + 1)] 22)) 57 (.int .u32 0)
  rw [World.size_alloc] at bC
  replace bO := bO.alloc (.cells #[.int .u32 0] 57)
  have hB1 := (hB0.alloc hs0 (.cells #[.slice (some ⟨w.heap.size, 0, none⟩) 0 (lx + 1)] 22)).alloc (by simp; omega) (.cells #[.int .u32 0] 57)
  have hown1 : Own16 w.heap.size ((w0.alloc (.cells #[.slice (some ⟨w.heap.size, 0, none⟩) 0 (lx + 1)] 22)).alloc (.cells #[.int .u32 0] 57)) (.slice (some ⟨w.heap.size, 0, none⟩) 0 (lx + 1)) [] := (hown0.alloc _).alloc _
  clear hown0 hgrow0
  generalize hW1 : (w0.alloc (.cells #[.slice (some ⟨w.heap.size, 0, none⟩) 0 (lx + 1)] 22)).alloc (.cells #[.int .u32 0] 57) = W1 at *
  have hs1 : W1.heap.size = w0.heap.size + 2 := by rw [← hW1]; simp
  have HW1 := Lib.hid hW1; clear hW1
  have HS1 := Lib.hid hs1; clear hs1
  go_loopw [25] (fun i wr => ∃ (k : Nat) (c : Int) (v : Value) (out : List Int), k ≤ lx ∧ i = .int .i64 k ∧ 0 ≤ c ∧ c ≤ 1 ∧ Boxed wr (w0.heap.size + 1) 57 (.int .u32 c) ∧ Boxed wr w0.heap.size 22 v ∧ Own16 w.heap.size wr v out ∧ Lm out ∧ out.length = k ∧
      val out + 65536 ^ k * c = val (X.take k) + val (Y.take k) ∧ Below w.heap.size w wr) (fun i _ => lx - (intOf i).toNat)
  case atStart => exact ⟨0, 0, _, [], Nat.zero_le _, rfl, by omega, by omega, bC, bO, hown1, Lm.nil, rfl, by simp [val], hB1⟩
  case round =>
    obtain ⟨k, c, v, out, hk, rfl, hc0, hc1, bCr, bOr, hown, hLm, hol, hval, hBr⟩ := hrel
    have HOL := Lib.hid hol; clear hol
    have HVAL := Lib.hid hval; clear hval
    by_cases hkl : k < lx
    · have hx := hX.lm.getD k
      have hy := hY.lm.getD k
      obtain ⟨hx0, hx1⟩ := hx
      obtain ⟨hy0, hy1⟩ := hy
      obtain ⟨bx, ox, rfl, hbx, hcx, hcX⟩ := hA.cells.2 (by omega)
      have hcxk : wr.cell? ⟨bx, ox + k, none⟩ = some (.int .u16 (X[k]?.getD 0)) := (hBr.cell (p := ⟨bx, ox + k, none⟩) hbx).trans (hcX k hkl)
      have hstep := add_step (X := X) (Y := Y) HOL.out HVAL.out
      have HSTEP := Lib.hid hstep; clear hstep
      by_cases hky : k < ly
      · obtain ⟨by', oy, rfl, hby, hcy, hcY⟩ := hB.cells.2 (by omega)
        have hcyk : wr.cell? ⟨by', oy + k, none⟩ = some (.int .u16 (Y[k]?.getD 0)) := (hBr.cell (p := ⟨by', oy + k, none⟩) hby).trans (hcY k hky)
        clear hcX hcY
        go_wp2_with (go_at_call 79; refine (addput w.heap.size (w0.heap.size + 1) w0.heap.size _ c v out wr (by omega) (by omega) hc0 hc1 (by rw [HOL.out]; omega) bCr bOr hown hBr.size (by omega) hs0 (by omega)).mono ?_; rintro e w2 ⟨⟨u, rfl⟩, bC2, ⟨v2, bO2, hown2⟩, hb2⟩)
        go_roundw
        case rel => exact ⟨k + 1, _, v2, _, by omega, by go_num, by omega, by omega, bC2, bO2, hown2, hLm.append (Lm.cons (by omega) Lm.nil), by rw [List.length_append, HOL.out]; rfl, HSTEP.out, hBr.trans hb2⟩
        case measure => simp [intOf]; omega
      · have hyz : Y[k]?.getD 0 = 0 := getD_out (by have := HY.out; omega)
        have HYZ := Lib.hid hyz; clear hyz
        clear hcX
        go_wp2_with (go_at_call 79; refine (addput w.heap.size (w0.heap.size + 1) w0.heap.size _ c v out wr (by omega) (by omega) hc0 hc1 (by rw [HOL.out]; omega) bCr bOr hown hBr.size (by omega) hs0 (by omega)).mono ?_; rintro e w2 ⟨⟨u, rfl⟩, bC2, ⟨v2, bO2, hown2⟩, hb2⟩)
        have hst := HSTEP.out
        rw [HYZ.out, Int.add_zero] at hst
        have HST := Lib.hid hst; clear hst
        go_roundw
        case rel => exact ⟨k + 1, _, v2, _, by omega, by go_num, by omega, by omega, bC2, bO2, hown2, hLm.append (Lm.cons (by omega) Lm.nil), by rw [List.length_append, HOL.out]; rfl, HST.out, hBr.trans hb2⟩
        case measure => simp [intOf]; omega
    · obtain rfl : k = lx := by omega
      have hvv : val out + 65536 ^ k * c = n + m := by
        rw [HVAL.out, take_all (by have := HX.out; omega), take_all (by have := HX.out; have := HY.out; omega), hX.eq, hY.eq]
      have HVV := Lib.hid hvv; clear hvv
      have hcc := bCr.cell
      have hco := bOr.cell
      by_cases hcz : c = 0
      · subst hcz
        have hrep : Rep out (n + m) := rep_add0 hX hY hLm (by rw [HOL.out, HX.out]) (by have := HVV.out; simpa using this)
        have HREP := Lib.hid hrep
        go_wp2
        go_ret
        exact ⟨v, out, rfl, hown, hrep, hBr⟩
      · obtain rfl : c = 1 := by omega
        have hrep : Rep (out ++ [(0 + 1) % 65536]) (n + m) := rep_add1 hLm (by rw [HOL.out]; exact HVV.out)
        go_wp2_with (go_at_call 79; refine (addput w.heap.size (w0.heap.size + 1) w0.heap.size 0 1 v out wr (by omega) (by omega) hc0 hc1 (by rw [HOL.out]; omega) bCr bOr hown hBr.size (by omega) hs0 (by omega)).mono ?_; rintro e w2 ⟨⟨u, rfl⟩, bC2, ⟨v2, bO2, hown2⟩, hb2⟩; have hco2 := bO2.cell)
        go_ret
        exact ⟨v2, _, rfl, hown2, hrep, hBr.trans hb2⟩

end Go.Proofs.YtbaiohjladddlaaDoor
