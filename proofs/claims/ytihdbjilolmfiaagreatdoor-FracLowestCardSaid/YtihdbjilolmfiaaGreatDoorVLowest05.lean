import Derived.Test.YtihdbjilolmfiaaGreatDoorVLowest04
namespace Go.Proofs.YtihdbjilolmfiaaGreatDoor
open Go.RowKit Go.WM Go.WR
theorem mul_num' (r s : Rat) : (r * s).num = (r.num / ((Int.gcd r.num s.den : Nat) : Int)) * (s.num / ((Int.gcd s.num r.den : Nat) : Int)) := by
 show (Rat.mul r s).num = _
 unfold Rat.mul
 simp only [Int.divExact_eq_ediv, gcd_cast]
theorem mul_den' (r s : Rat) : ((r * s).den : Int) = ((r.den : Int) / ((Int.gcd s.num r.den : Nat) : Int)) * ((s.den : Int) / ((Int.gcd r.num s.den : Nat) : Int)) := by
 show ((Rat.mul r s).den : Int) = _
 unfold Rat.mul
 simp only [Nat.divExact_eq_div, gcd_cast]
 simp
theorem c90q {r s : Rat} {v0 v1 : Value} {w : World} (hr : Fs r) (hs : Fs s) (h0 : Is (frq r) v0 w) (h1 : Is (frq s) v1 w) : Calls Tryz.prog 90 #[v0, v1] w (Ret (.k (frq (r * s))) w) := by
 unfold frq
 rw [mul_num', mul_den']
 have p1 := gcd_pos_of (a := r.num) (rat_pos s)
 have p2 := gcd_pos_of (a := s.num) (rat_pos r)
 exact c90 rfl rfl (by omega) (by omega) (floor_exact p1 (gcd_l _ _)) (floor_exact p2 (gcd_l _ _)) (floor_exact p2 (gcd_r _ _)) (floor_exact p1 (gcd_r _ _)) rfl rfl
  (by have := mul_cap (ediv_abs (b := (Int.gcd r.num s.den : Nat)) hr.1) (ediv_abs (b := (Int.gcd s.num r.den : Nat)) hs.1); omega)
  (by have := mul_cap (ediv_abs (b := (Int.gcd s.num r.den : Nat)) hr.2) (ediv_abs (b := (Int.gcd r.num s.den : Nat)) hs.2); omega) h0 h1
theorem Fs.inv {r : Rat} (h : Fs r) (hr : r ≠ 0) : Fs r⁻¹ := by
 obtain ⟨e1, e2⟩ := inv_parts r hr
 have hp := rat_pos r
 have h1 := h.1
 have h2 := h.2
 constructor
 · rw [e1]; split <;> omega
 · rw [e2]; split <;> omega
theorem fr_neg {r : Rat} : fr (-r.num) (r.den : Int) = frq (-r) := by unfold frq; rw [Rat.neg_num]; rfl
end Go.Proofs.YtihdbjilolmfiaaGreatDoor
