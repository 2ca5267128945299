import Derived.Test.YtihdbjilolmfiaaGreatDoorD21
import Derived.Test.YtihdbjilolmfiaaGreatDoorD01
namespace Go.Proofs.YtihdbjilolmfiaaGreatDoor
open Go.RowKit Go.WM Go.WR
theorem gcd_cast (a : Int) (b : Nat) : Int.gcd a (b : Int) = Nat.gcd a.natAbs b := by simp [Int.gcd]
theorem maybe_num (n : Int) (d g : Nat) (h1 h2 h3 h4) : (Rat.maybeNormalize n d g h1 h2 h3 h4).num = n / g := by
 unfold Rat.maybeNormalize; split
 · rename_i h; simp [h]
 · simp [Int.divExact_eq_ediv]
theorem maybe_den (n : Int) (d g : Nat) (h1 h2 h3 h4) : (Rat.maybeNormalize n d g h1 h2 h3 h4).den = d / g := by
 unfold Rat.maybeNormalize; split
 · rename_i h; simp [h]
 · simp [Nat.divExact_eq_div]
theorem add_num' (r s : Rat) (g h : Nat) (n : Int) (hg : g = Nat.gcd r.den s.den) (hn : n = r.num * ((s.den : Int) / g) + s.num * ((r.den : Int) / g)) (hh : h = Int.gcd n g) : (r + s).num = n / (h : Int) := by
 show (Rat.add r s).num = _
 unfold Rat.add
 simp only
 subst hh hn
 split
 · rename_i h
   have hg1 : g = 1 := hg.trans h
   simp [hg1]
 · rw [maybe_num, hg, gcd_cast]; simp
theorem add_den' (r s : Rat) (g h : Nat) (n : Int) (hg : g = Nat.gcd r.den s.den) (hn : n = r.num * ((s.den : Int) / g) + s.num * ((r.den : Int) / g)) (hh : h = Int.gcd n g) : ((r + s).den : Int) = ((r.den : Int) / g) * ((s.den : Int) / h) := by
 show ((Rat.add r s).den : Int) = _
 unfold Rat.add
 simp only
 have hd : h ∣ s.den := by rw [hh, gcd_cast]; exact Nat.dvd_trans (Nat.gcd_dvd_right _ _) (hg ▸ Nat.gcd_dvd_right _ _)
 subst hh hn
 split
 · rename_i h
   have hg1 : g = 1 := hg.trans h
   simp [hg1]
 · rw [maybe_den, hg, gcd_cast]
   subst hg
   rw [gcd_cast] at hd
   simp only [← Int.natCast_ediv, ← Int.natCast_mul]
   congr 1
   have e : ∀ (a b c : Nat), c ∣ b → a * b / c = a * (b / c) := fun a b c hc => Nat.mul_div_assoc a hc
   exact e _ _ _ (by simpa using hd)
theorem rat_pos (q : Rat) : 0 < (q.den : Int) := by have := q.den_pos; omega
theorem rat_gcd (q : Rat) : ((Int.gcd q.num (q.den : Int) : Nat) : Int) = 1 := by rw [gcd_cast]; exact congrArg Nat.cast q.reduced
theorem inv_parts (q : Rat) (h : q ≠ 0) : q⁻¹.num = (if q.num < 0 then -(q.den : Int) else q.den) ∧ (q⁻¹.den : Int) = (if q.num < 0 then -q.num else q.num) := by
 have hn : q.num ≠ 0 := fun e => h (Rat.num_eq_zero.1 e)
 rw [Rat.num_inv, Rat.den_inv, if_neg hn]
 split
 · rename_i h1
   rw [Int.sign_eq_neg_one_of_neg h1]; omega
 · rename_i h1
   rw [Int.sign_eq_one_of_pos (by omega)]; omega
def Fs (q : Rat) : Prop := (q.num.natAbs : Int) < CapF ∧ ((q.den : Int).natAbs : Int) < CapF
instance (q : Rat) : Decidable (Fs q) := by unfold Fs; infer_instance
theorem Fs.true {q : Rat} (h : Fs q) : (decide ((q.num.natAbs : Int) < CapF) && decide (((q.den : Int).natAbs : Int) < CapF)) = true := by rw [decide_eq_true h.1, decide_eq_true h.2]; rfl
theorem capF_pos : 0 < CapF := by rw [CapF.eq]; exact pow_pos' 256
theorem capF_sq : 2 * (CapF * CapF) ≤ Cap := by
 rw [CapF.eq, Cap.eq, ← Int.pow_add]
 have h1 : (65536 : Int) ^ (256 + 256 + 1) ≤ 65536 ^ 1024 := pow_le_pow' (by decide)
 rw [Int.pow_succ (n := 256 + 256)] at h1
 have h2 := pow_pos' (256 + 256)
 omega
theorem mul_cap {a b : Int} (ha : (a.natAbs : Int) < CapF) (hb : (b.natAbs : Int) < CapF) : 2 * ((a * b).natAbs : Int) < Cap := by
 have h := capF_sq
 rw [Int.natAbs_mul, Int.natCast_mul]
 have h1 : (a.natAbs : Int) * b.natAbs < CapF * CapF := by
  refine Int.lt_of_le_of_lt (Int.mul_le_mul_of_nonneg_left (Int.le_of_lt hb) (by omega)) ?_
  exact Int.mul_lt_mul_of_pos_right ha capF_pos
 omega
theorem ediv_abs {a b : Int} {M : Int} (h : (a.natAbs : Int) < M) : ((a / b).natAbs : Int) < M := by
 have := Int.natAbs_ediv_le_natAbs a b
 omega
theorem floor_pos {x y : Int} (hy : 0 < y) : Floor x y (x / y) (x % y) := by
 have h1 := Int.emod_nonneg x (show y ≠ 0 by omega)
 have h2 := Int.emod_lt_of_pos x hy
 have h3 := Int.mul_ediv_add_emod x y
 exact ⟨by rw [Int.mul_comm]; omega, by omega, by omega⟩
theorem floor_exact {x y : Int} (hy : 0 < y) (hd : y ∣ x) : Floor x y (x / y) 0 := by
 have := floor_pos (x := x) hy
 rwa [Int.emod_eq_zero_of_dvd hd] at this
theorem gcd_pos_of {a b : Int} (hb : 0 < b) : 0 < ((Int.gcd a b : Nat) : Int) := by
 have := Int.gcd_pos_of_ne_zero_right a (show b ≠ 0 by omega)
 omega
theorem gcd_l (a b : Int) : ((Int.gcd a b : Nat) : Int) ∣ a := Int.gcd_dvd_left ..
theorem gcd_r (a b : Int) : ((Int.gcd a b : Nat) : Int) ∣ b := Int.gcd_dvd_right ..
abbrev frq (q : Rat) : SK48 := fr q.num (q.den : Int)
theorem c44_ok {q : Rat} {v0 : Value} {w : World} (hs : Fs q) (h0 : Is (frq q) v0 w) : Calls Tryz.prog 44 #[v0] w (Ret (.val (.bool true)) w) :=
 c44n (rat_pos q) hs.true (decide_eq_true (rat_gcd q)) h0
theorem c89q {r s : Rat} {v0 v1 : Value} {w : World} (hr : Fs r) (hs : Fs s) (h0 : Is (frq r) v0 w) (h1 : Is (frq s) v1 w) : Calls Tryz.prog 89 #[v0, v1] w (Ret (.k (frq (r + s))) w) := by
 obtain ⟨g, hg⟩ : ∃ g : Nat, g = Nat.gcd r.den s.den := ⟨_, rfl⟩
 obtain ⟨n, hn⟩ : ∃ n : Int, n = r.num * ((s.den : Int) / g) + s.num * ((r.den : Int) / g) := ⟨_, rfl⟩
 obtain ⟨h, hh⟩ : ∃ h : Nat, h = Int.gcd n g := ⟨_, rfl⟩
 unfold frq
 rw [add_num' r s g h n hg hn hh, add_den' r s g h n hg hn hh]
 have hgp : 0 < (g : Int) := by rw [hg]; have := Nat.gcd_pos_of_pos_left s.den r.den_pos; omega
 have hhp : 0 < (h : Int) := by rw [hh]; exact gcd_pos_of hgp
 have hgi : ((Int.gcd (r.den : Int) (s.den : Int) : Nat) : Int) = g := by rw [hg]; rfl
 have d1 : (g : Int) ∣ r.den := by rw [← hgi]; exact gcd_l _ _
 have d2 : (g : Int) ∣ s.den := by rw [← hgi]; exact gcd_r _ _
 have d3 : (h : Int) ∣ n := by rw [hh]; exact gcd_l _ _
 have d4 : (h : Int) ∣ s.den := by rw [hh]; exact Int.dvd_trans (gcd_r _ _) d2
 have b1 := mul_cap hr.1 (ediv_abs (b := (g : Int)) hs.2)
 have b2 := mul_cap hs.1 (ediv_abs (b := (g : Int)) hr.2)
 have b3 := mul_cap (ediv_abs (b := (g : Int)) hr.2) (ediv_abs (b := (h : Int)) hs.2)
 refine c89 hgi (by omega) (floor_exact hgp d1) (floor_exact hgp d2) rfl rfl hn.symm (by rw [hh]) (by omega) (floor_exact hhp d3) (floor_exact hhp d4) rfl (by omega) (by omega) ?_ (by omega) h0 h1
 have := Int.natAbs_add_le (r.num * ((s.den : Int) / g)) (s.num * ((r.den : Int) / g))
 rw [← hn] at this
 omega
theorem c85q {r : Rat} {v0 : Value} {w : World} (hr : r ≠ 0) (h0 : Is (frq r) v0 w) : Calls Tryz.prog 85 #[v0] w (Ret (.k (frq r⁻¹)) w) := by
 obtain ⟨e1, e2⟩ := inv_parts r hr
 have hp := rat_pos r
 unfold frq
 by_cases hx : r.num < 0
 · rw [e1, e2, if_pos hx, if_pos hx]
   exact c85a hx (by omega) h0
 · rw [e1, e2, if_neg hx, if_neg hx]
   exact c85b hx h0
theorem c75q {r : Rat} {v0 : Value} {w : World} (hr : Fs r) (h0 : Is (frq r) v0 w) : Calls Tryz.prog 75 #[v0] w (Ret (.k (tup2 (.k (frq r)) (.val (.int .i64 0)))) w) := c75fit hr.true h0
theorem Fs.neg {r : Rat} (h : Fs r) : Fs (-r) := ⟨by rw [Rat.neg_num, Int.natAbs_neg]; exact h.1, h.2⟩
end Go.Proofs.YtihdbjilolmfiaaGreatDoor
