import Derived.Test.YtihdbjilolmfiaaGreatDoorD27
import Derived.Test.YtihdbjilolmfiaaGreatDoorD01
import Derived.Conc.MuLone
set_option maxRecDepth 100000
set_option maxHeartbeats 4000000
namespace Go.Proofs.YtihdbjilolmfiaaGreatDoor
open Go.RowKit Go.WM Go.WR
attribute [local go_sem] Oper.semAt_some
variable {n : Nat} {o : Oper} {a : Act} {w : World}
theorem kIndex22 {x y : Operand} {b off l c : Nat} (ho : o.op = .indexAddr 22 x y) (hx : a.eval x = .slice (some ⟨b, off, none⟩) l c) (hy : a.eval y = .int .i64 0) (hl : 0 < l) : Op1 n Tryz.prog o a w (fun v W' => KW (t16 := 48) (.val (.pointer (some ⟨b, off, none⟩))) v W' ∧ Below w.heap.size w W') := by
 refine Op1.of_run (v := .pointer (some ⟨b, off, none⟩)) ?_ ⟨rfl, Below.refl _ _⟩
 unfold execOp
 rw [ho]
 simp only [hx, hy]
 have h0 : (0 : Int) < (l : Int) := by omega
 simp [go_sem, hl]
theorem kLoadLim {x : Operand} {b off : Nat} {v : Value} (ho : o.op = .load 48 x) (hx : a.eval x = .pointer (some ⟨b, off, none⟩)) (hc : w.cell? ⟨b, off, none⟩ = some v) : Op1 n Tryz.prog o a w (fun u W' => KW (t16 := 48) (.val v) u W' ∧ Below w.heap.size w W') := by
 refine Op1.of_run (v := v) ?_ ⟨rfl, Below.refl _ _⟩
 unfold execOp
 rw [ho]
 simp only [hx]
 simp [go_sem, hc]
theorem kAnd48 {x y : Operand} {p : Nat} {q : Int} (ho : o.op = .binOp .and 48 x y 48) (hp : p < 65536) (hx : a.eval x = .int .u16 (p : Int)) (hy : a.eval y = .int .u16 1) (hq : ((p % 2 : Nat) : Int) = q) : Op1 n Tryz.prog o a w (fun u W' => KW (t16 := 48) (.val (.int .u16 q)) u W' ∧ Below w.heap.size w W') := by
 have hb := Go.WB.and_nat (k := .u16) (a := p) (b := 1) rfl (by show p < 65536; exact hp) (by decide)
 rw [Nat.and_one_is_mod, hq] at hb
 replace hb : bits BinOp.and IntKind.u16 (p : Int) 1 = q := hb
 refine Op1.of_run (v := .int .u16 q) ?_ ⟨rfl, Below.refl _ _⟩
 unfold execOp
 rw [ho]
 simp only [hx, hy]
 simp [go_sem, hb]
theorem kEql48 {x y : Operand} {p q : Int} {t : Bool} (ho : o.op = .binOp .eql 48 x y 48) (hx : a.eval x = .int .u16 p) (hy : a.eval y = .int .u16 q) (ht : decide (p = q) = t) : Op1 n Tryz.prog o a w (fun v W' => KW (t16 := 48) (.val (.bool t)) v W' ∧ Below w.heap.size w W') := by
 refine Op1.of_run (v := .bool (p == q)) ?_ ⟨congrArg Value.bool (by rw [← ht]; rfl), Below.refl _ _⟩
 unfold execOp
 rw [ho]
 simp only [hx, hy]
 simp [go_sem]
theorem lim_cell0 {zs : List Int} {b off l c : Nat} {p0 : Nat} {W : World} (h : Is (lim zs) (.slice (some ⟨b, off, none⟩) l c) W) (hl : 0 < l) (h0 : zs[0]?.getD 0 = (p0 : Int)) : W.cell? ⟨b, off, none⟩ = some (.int .u16 (p0 : Int)) := by
 obtain ⟨_, _, _, e, hL⟩ := h
 cases e
 obtain ⟨b', o', e, _, _, hc⟩ := hL.cells.2 hl
 cases e
 have := hc 0 hl
 rw [h0] at this
 exact this
theorem lim_first {x : Int} {s : Bool} {p : Option Addr} {l c : Nat} {W : World} (h : Is (num x) (.agg #[.bool s, .slice p l c]) W) (hx : x ≠ 0) :
 ∃ (lb lo : Nat) (zs : List Int) (p0 : Nat), p = some ⟨lb, lo, none⟩ ∧ 0 < l ∧ Is (lim zs) (.slice p l c) W ∧ zs[0]?.getD 0 = (p0 : Int) ∧ p0 < 65536 ∧ p0 % 2 = x.natAbs % 2 := by
 have hlen := num_len h
 have hl : 0 < l := by omega
 obtain ⟨sv, zs, e, hL, hR, hC⟩ := h
 cases e
 obtain ⟨b', o', e, _, _, _⟩ := hL.cells.2 hl
 have hz := hL.cells.1
 match zs, hR, hL, hz with
 | [], _, _, hz => simp at hz; omega
 | y :: ys, hR, hL, hz =>
  have hy := hR.lm y (by simp)
  have hv := hR.eq
  simp only [val] at hv
  exact ⟨b', o', _, y.toNat, e, hl, ⟨_, _, _, rfl, hL⟩, by simp; omega, by omega, by omega⟩
def upsB (m : Int) (n : Bool) (h : Int) (o : Bool) : Bool :=
 if m = 1 then n else if m = 2 then !n else if m = 3 then false else if m = 4 then true else if m = 5 then decide (0 < h) || (decide (h = 0) && !n) else decide (0 < h) || (decide (h = 0) && o)
theorem ups_at {m h : Int} {n o : Bool} {W : World} (h1 : ¬ m < 1) (h6 : ¬ 6 < m) : ∃ F caps,
 Sem.run Tryz.prog (Instr.index 78 (.agg (upsRow W.heap.size)) (.int .u8 m)) (upsW n h o W) = .ok (.func (.func F) #[] caps) (upsW n h o W) ∧
 (callFunc F caps).run Tryz.prog (upsW n h o W) = .ok (.enter F caps) (upsW n h o W) ∧
 Calls Tryz.prog F caps (upsW n h o W) (fun e w' => e = .returned (.bool (upsB m n h o)) ∧ upsW n h o W = w') := by
 have hu : Tryz.prog.underlying 78 = some (.array 7 28) := by kernel_rfl
 have q := alloc4 W (.cells #[.bool n] 4) (.cells #[.int .i64 h] 3) (.cells #[.bool o] 4) (.cells (upsRow W.heap.size) 78)
 have c0 : (upsW n h o W).cell? ⟨W.heap.size, 0, none⟩ = some (.bool n) := cell_of q.1 0 rfl
 have c1 : (upsW n h o W).cell? ⟨W.heap.size + 1, 0, none⟩ = some (.int .i64 h) := cell_of q.2.1 0 rfl
 have c2 : (upsW n h o W).cell? ⟨W.heap.size + 1 + 1, 0, none⟩ = some (.bool o) := cell_of q.2.2.1 0 rfl
 obtain rfl | rfl | rfl | rfl | rfl | rfl : m = 1 ∨ m = 2 ∨ m = 3 ∨ m = 4 ∨ m = 5 ∨ m = 6 := by omega
 · exact ⟨131, _, by unfold upsRow; simp [Instr.index, run_underlying hu, asIntOf, go_sem], Go.MuLone.run_callFunc_enter Tryz.func131 (by kernel_rfl) rfl _ _, c131 c0⟩
 · exact ⟨132, _, by unfold upsRow; simp [Instr.index, run_underlying hu, asIntOf, go_sem], Go.MuLone.run_callFunc_enter Tryz.func132 (by kernel_rfl) rfl _ _, c132 c0⟩
 · exact ⟨133, _, by unfold upsRow; simp [Instr.index, run_underlying hu, asIntOf, go_sem], Go.MuLone.run_callFunc_enter Tryz.func133 (by kernel_rfl) rfl _ _, c133⟩
 · exact ⟨134, _, by unfold upsRow; simp [Instr.index, run_underlying hu, asIntOf, go_sem], Go.MuLone.run_callFunc_enter Tryz.func134 (by kernel_rfl) rfl _ _, c134⟩
 · exact ⟨135, _, by unfold upsRow; simp [Instr.index, run_underlying hu, asIntOf, go_sem], Go.MuLone.run_callFunc_enter Tryz.func135 (by kernel_rfl) rfl _ _, c135 c1 c0⟩
 · exact ⟨136, _, by unfold upsRow; simp [Instr.index, run_underlying hu, asIntOf, go_sem], Go.MuLone.run_callFunc_enter Tryz.func136 (by kernel_rfl) rfl _ _, c136 c1 c2⟩
theorem upsW_below (n : Bool) (h : Int) (o : Bool) (W : World) : Below W.heap.size W (upsW n h o W) := by
 unfold upsW
 exact ((((Below.refl _ W).alloc (Nat.le_refl _) _).alloc (by simp) _).alloc (by simp; omega) _).alloc (by simp; omega) _
end Go.Proofs.YtihdbjilolmfiaaGreatDoor
namespace Go.Proofs.YtihdbjilolmfiaaGreatDoor
open Go.RowKit Go.WM Go.WR
theorem round_parts {k : Int} {s : Rat} {g : Int} (hg : ((Int.gcd k ((s.den : Nat) : Int) : Nat) : Int) = g) :
 ∃ i, Floor k g i 0 ∧ g ≠ 0 ∧ Floor ((s.den : Nat) : Int) g ((((k : Rat) * s).den : Nat) : Int) 0 ∧ i * s.num = ((k : Rat) * s).num := by
 have hd : ((s.den : Nat) : Int) ≠ 0 := by have := rat_pos s; omega
 have hg0 : 0 < g := by rw [← hg]; exact_mod_cast Int.gcd_pos_of_ne_zero_right k hd
 obtain ⟨i, hi⟩ : g ∣ k := by rw [← hg]; exact Int.gcd_dvd_left ..
 obtain ⟨D, hD⟩ : g ∣ ((s.den : Nat) : Int) := by rw [← hg]; exact Int.gcd_dvd_right ..
 have hi' : i * g = k := by rw [hi, Int.mul_comm]
 have hD' : D * g = ((s.den : Nat) : Int) := by rw [hD, Int.mul_comm]
 have hDp : 0 < D := by
  have h1 := rat_pos s
  have h2 : 0 < D * g := by omega
  exact Int.lt_of_not_ge (fun h3 => by have := Int.mul_nonpos_of_nonpos_of_nonneg h3 (Int.le_of_lt hg0); omega)
 have hco : Int.gcd (k * s.num) ((s.den : Nat) : Int) = Int.gcd k ((s.den : Nat) : Int) := by
  have := s.reduced
  simp only [Int.gcd, Int.natAbs_mul, Int.natAbs_natCast]
  exact Nat.Coprime.gcd_mul_right_cancel _ this
 have h := divInt_exact (n := k * s.num) (d := ((s.den : Nat) : Int)) (N := i * s.num) (D := D) (g := g) hd (by rw [hco]; omega) (by grind) hD' hDp
 have e : (k : Rat) * s = Rat.divInt (k * s.num) ((s.den : Nat) : Int) := by
  conv => lhs; rw [← Rat.num_divInt_den s]
  rw [show (k : Rat) = Rat.divInt k 1 from by rw [← Rat.num_divInt_den (k : Rat)]; simp, Rat.divInt_mul_divInt, Int.one_mul]
 rw [e, ← h.1, ← h.2]
 exact ⟨i, floor_mul hi', by omega, floor_mul hD', rfl⟩
end Go.Proofs.YtihdbjilolmfiaaGreatDoor
