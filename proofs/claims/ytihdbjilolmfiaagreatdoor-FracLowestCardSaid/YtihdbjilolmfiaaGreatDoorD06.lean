import Derived.Test.YtihdbjilolmfiaaGreatDoorD05
import Derived.Test.YtihdbjilolmfiaaGreatDoorD04
import Derived.Test.YtihdbjilolmfiaaGreatDoorD01
set_option maxRecDepth 100000
set_option maxHeartbeats 4000000
namespace Go.Proofs.YtihdbjilolmfiaaGreatDoor
open Go.RowKit Go.WM Go.WR
theorem shifted_some (px : Option Addr) (lx cx sh : Nat) (X : List Int) (w : World) (hX : Lm X) (hlx : lx ≤ 35184372088831) (hsh : sh ≤ 15)
 (hA : Lims w.heap.size w (.slice px lx cx) X) :
 Calls Tryz.prog 170 #[.slice px lx cx, .int .i64 sh] w fun e w' => ∃ zs, e = .returned (.slice (some ⟨w.heap.size, 0, none⟩) (lx + 1) (lx + 1)) ∧ Own16 w.heap.size w' (.slice (some ⟨w.heap.size, 0, none⟩) (lx + 1) (lx + 1)) zs ∧ Lm zs ∧ val zs = val X * 2 ^ sh ∧ Below w.heap.size w w' := by
 obtain ⟨i0, hi, hz0, hz1, hz2⟩ := info_parts info48
 have HX := Lib.hid hA.cells.1
 obtain ⟨w0, hrun, hown0, hgrow0⟩ := run_make_full (P := Tryz.prog) w w.heap.size 22 48 i0 (.int .u16 0) 1 Tryz.underlying22 hi hz0 hz1 .i64 .i64 (lx + 1) (by rw [hz2]; omega) (by unfold maxLen; omega) (Nat.le_refl _)
 have ec : ((lx + 1 : Nat) : Int) = (lx : Int) + 1 := by omega
 rw [ec] at hrun
 clear ec
 rw [made16] at hown0
 have hB0 : Below w.heap.size w w0 := (Below.refl _ _).grown hgrow0 (Nat.le_refl _) (fun k h => by cases h)
 have hown1 : Own16 w.heap.size w0 (.slice (some ⟨w.heap.size, 0, none⟩) (lx + 1) (lx + 1)) (List.replicate (lx + 1) 0) := by unfold Own16; rw [List.length_replicate]; exact hown0
 clear hown0 hgrow0
 go_enter Tryz.func170, Tryz.ntmps170
 go_wp2
 clear hrun
 go_loopw [15] (fun i wr => ∃ (k : Nat) (out : List Int), k ≤ lx ∧ i = .int .i64 k ∧ Own16 w.heap.size wr (.slice (some ⟨w.heap.size, 0, none⟩) (lx + 1) (lx + 1)) out ∧ Lm out ∧ out.length = lx + 1 ∧ (∀ j, k < j → out[j]?.getD 0 = 0) ∧
  val out = val (X.take k) * 2 ^ sh ∧ out[k]?.getD 0 < 2 ^ sh ∧ Below w.heap.size w wr) (fun i _ => lx - (intOf i).toNat)
 case atStart => exact ⟨0, _, Nat.zero_le _, rfl, hown1, Lm.replicate _, by simp, fun j _ => getD_replicate _ _, by rw [val_replicate]; simp [val], by rw [getD_replicate]; exact Int.pow_pos (by decide), hB0⟩
 case round =>
  obtain ⟨k, out, hk, rfl, hown, hLm, hol, hzero, hval, hlast, hBr⟩ := hrel
  have HOL := Lib.hid hol; clear hol
  have HVAL := Lib.hid hval; clear hval
  have HZ := Lib.hid hzero; clear hzero
  have HLA := Lib.hid hlast; clear hlast
  by_cases hkl : k < lx
  · have hx := hX.getD k
    obtain ⟨hx0, hx1⟩ := hx
    obtain ⟨bx, ox, rfl, hbx, hcx, hcX⟩ := hA.cells.2 (by omega)
    have hcxk : wr.cell? ⟨bx, ox + k, none⟩ = some (.int .u16 (X[k]?.getD 0)) := (hBr.cell (p := ⟨bx, ox + k, none⟩) hbx).trans (hcX k hkl)
    clear hcX
    obtain ⟨hat, hfz⟩ := hown.at k (by rw [HOL.out]; omega)
    obtain ⟨hat1, hfz1⟩ := hown.at (k + 1) (by rw [HOL.out]; omega)
    obtain ⟨ho0, ho1⟩ := hLm.getD k
    obtain ⟨s1, s2, s3, s4, s5⟩ := WB.shl_facts (c := out[k]?.getD 0) hsh hx0 hx1 ho0 HLA.out
    have s6 := (WB.shl_bd hsh hx0 hx1).2.2
    have hst := shift_step (X := X) (P := 2 ^ sh) (show k + 1 < out.length by rw [HOL.out]; omega) HVAL.out (HZ.out (k + 1) (by omega))
    have HST := Lib.hid hst
    clear hst
    have S1 := Lib.hid s1
    have S2 := Lib.hid s2
    clear s1 s2
    go_wp2
    go_roundw
    case rel =>
     rw [S2.out]
     have hw1 := hown.set k (by rw [HOL.out]; omega) (out[k]?.getD 0 + X[k]?.getD 0 * 2 ^ sh % 65536)
     have hw2 := hw1.set (k + 1) (by rw [List.length_set, HOL.out]; omega) (X[k]?.getD 0 * 2 ^ sh / 65536)
     have hm := Int.emod_nonneg (X[k]?.getD 0 * 2 ^ sh) (show (65536 : Int) ≠ 0 by decide)
     refine ⟨k + 1, _, by omega, by go_num, hw2, (hLm.set _ (by omega)).set _ (by omega), by rw [List.length_set, List.length_set]; exact HOL.out, fun j hj => ?_, HST.out, ?_, (hBr.setCell (p := ⟨w.heap.size, k, none⟩) (Nat.le_refl _) _).setCell (p := ⟨w.heap.size, k + 1, none⟩) (Nat.le_refl _) _⟩
     · rw [getD_set, if_neg (by omega), getD_set, if_neg (by omega)]; exact HZ.out j (by omega)
     · rw [getD_set, if_pos ⟨rfl, by rw [List.length_set, HOL.out]; omega⟩]; exact s5
    case measure => simp [intOf]; omega
  · obtain rfl : k = lx := by omega
    have hv : val out = val X * 2 ^ sh := by rw [HVAL.out, take_all (by have := HX.out; omega)]
    have HV := Lib.hid hv
    clear hv
    go_wp2
    go_ret
    exact ⟨out, rfl, hown, hLm, HV.out, hBr⟩
end Go.Proofs.YtihdbjilolmfiaaGreatDoor
