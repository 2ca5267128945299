import Derived.Test.YtihdbjilolmfiaaGreatDoorD01
import Derived.WalkKit
import Derived.WalkLawsBesides
import Derived.Lib.BitFns
namespace Go.WB
open Go
theorem wrap_uns {k : IntKind} (hk : k.signed = false) {n : Nat} (h : n < 2 ^ k.bits) : k.wrap (n : Int) = n := by
 unfold IntKind.wrap
 simp only [hk, Bool.false_and, Bool.false_eq_true, if_false]
 exact_mod_cast Nat.mod_eq_of_lt h
theorem or_nat {k : IntKind} {a b : Nat} (hk : k.signed = false) (ha : a < 2 ^ k.bits) (hb : b < 2 ^ k.bits) : bits BinOp.or k (a : Int) (b : Int) = ((a ||| b : Nat) : Int) := by
 unfold bits
 show k.wrap ((BitVec.ofInt k.bits (a : Int) ||| BitVec.ofInt k.bits (b : Int)).toNat : Int) = _
 rw [BitVec.ofInt_natCast, BitVec.ofInt_natCast, BitVec.toNat_or, BitVec.toNat_ofNat, BitVec.toNat_ofNat, Nat.mod_eq_of_lt ha, Nat.mod_eq_of_lt hb]
 exact wrap_uns hk (Nat.or_lt_two_pow ha hb)
theorem and_nat {k : IntKind} {a b : Nat} (hk : k.signed = false) (ha : a < 2 ^ k.bits) (hb : b < 2 ^ k.bits) : bits BinOp.and k (a : Int) (b : Int) = ((a &&& b : Nat) : Int) := by
 unfold bits
 show k.wrap ((BitVec.ofInt k.bits (a : Int) &&& BitVec.ofInt k.bits (b : Int)).toNat : Int) = _
 rw [BitVec.ofInt_natCast, BitVec.ofInt_natCast, BitVec.toNat_and, BitVec.toNat_ofNat, BitVec.toNat_ofNat, Nat.mod_eq_of_lt ha, Nat.mod_eq_of_lt hb]
 exact wrap_uns hk (Nat.and_lt_two_pow _ hb)
theorem or_16 {k : IntKind} {r x : Int} (hk : k.signed = false) (hr : 0 ≤ r) (hx : 0 ≤ x) (hx' : x < 65536) (h : r * 65536 + x < 2 ^ k.bits) : bits BinOp.or k (r * 65536) x = r * 65536 + x := by
 obtain ⟨a, rfl⟩ := Int.eq_ofNat_of_zero_le hr
 obtain ⟨b, rfl⟩ := Int.eq_ofNat_of_zero_le hx
 have h' : a * 65536 + b < 2 ^ k.bits := by
  have h2 : ((a * 65536 + b : Nat) : Int) < ((2 ^ k.bits : Nat) : Int) := by rw [Int.natCast_pow, Int.natCast_add, Int.natCast_mul]; exact h
  exact Int.ofNat_lt.1 h2
 have e : ((a : Int) * 65536) = ((a * 65536 : Nat) : Int) := by rw [Int.natCast_mul]; rfl
 have h2 := Nat.two_pow_add_eq_or_of_lt (i := 16) (b := b) (by omega) a
 rw [show (2 : Nat) ^ 16 = 65536 from rfl, Nat.mul_comm] at h2
 rw [e, or_nat hk (Nat.lt_of_le_of_lt (Nat.le_add_right _ _) h') (Nat.lt_of_le_of_lt (Nat.le_add_left _ _) h'), ← h2, Int.natCast_add]
end Go.WB
namespace Go.WB
open Go Go.WM
theorem pow_split {sh : Nat} (h : sh ≤ 16) : (65536 : Int) = 2 ^ sh * 2 ^ (16 - sh) := by
 rw [← Int.pow_add, Nat.add_sub_cancel' h]; rfl
theorem pow2_pos (n : Nat) : (0 : Int) < 2 ^ n := Int.pow_pos (by decide)
theorem shl_lo {sh : Nat} {x : Int} (h : sh ≤ 16) : (x * 2 ^ sh) % 65536 = 2 ^ sh * (x % 2 ^ (16 - sh)) := by
 rw [pow_split h, Int.mul_comm x, Int.mul_emod_mul_of_pos _ _ (pow2_pos sh)]
theorem shl_bd {sh : Nat} {x : Int} (h : sh ≤ 15) (hx0 : 0 ≤ x) (hx : x < 65536) : 0 ≤ x * 2 ^ sh ∧ x * 2 ^ sh < 65536 * 2 ^ sh ∧ (2 : Int) ^ sh ≤ 32768 := by
 have h2 : (2 : Int) ^ sh ≤ 2 ^ 15 := by
  obtain ⟨c, hc⟩ := Nat.exists_eq_add_of_le h
  rw [hc, Int.pow_add]
  have := pow2_pos sh; have := pow2_pos c
  have : (2 : Int) ^ sh * 1 ≤ 2 ^ sh * 2 ^ c := Int.mul_le_mul_of_nonneg_left (by omega) (by omega)
  omega
 have hp := pow2_pos sh
 exact ⟨Int.mul_nonneg hx0 (by omega), Int.mul_lt_mul_of_pos_right hx hp, h2⟩
theorem shl_facts {sh : Nat} {x c : Int} (h : sh ≤ 15) (hx0 : 0 ≤ x) (hx : x < 65536) (hc0 : 0 ≤ c) (hc : c < 2 ^ sh) :
 x * 2 ^ sh % 4294967296 = x * 2 ^ sh ∧ bits BinOp.or IntKind.u16 c (IntKind.u16.wrap (x * 2 ^ sh)) = c + (x * 2 ^ sh) % 65536 ∧ c + (x * 2 ^ sh) % 65536 < 65536 ∧ 0 ≤ x * 2 ^ sh / 65536 ∧ x * 2 ^ sh / 65536 < 2 ^ sh := by
 obtain ⟨b1, b2, b3⟩ := shl_bd h hx0 hx
 have hq0 : 0 ≤ x % 2 ^ (16 - sh) := Int.emod_nonneg _ (by have := pow2_pos (16 - sh); omega)
 have hq1 : x % 2 ^ (16 - sh) < 2 ^ (16 - sh) := Int.emod_lt_of_pos _ (pow2_pos _)
 have hlo := shl_lo (sh := sh) (x := x) (by omega)
 have hlt : c + 2 ^ sh * (x % 2 ^ (16 - sh)) < 65536 := by
  have h1 : 2 ^ sh * (x % 2 ^ (16 - sh)) ≤ 2 ^ sh * (2 ^ (16 - sh) - 1) := Int.mul_le_mul_of_nonneg_left (by omega) (by have := pow2_pos sh; omega)
  have h2 : (2 : Int) ^ sh * (2 ^ (16 - sh) - 1) = 65536 - 2 ^ sh := by rw [Int.mul_sub, ← pow_split (by omega)]; omega
  omega
 have hnn : 0 ≤ 2 ^ sh * (x % 2 ^ (16 - sh)) := Int.mul_nonneg (by have := pow2_pos sh; omega) hq0
 refine ⟨Int.emod_eq_of_lt b1 (by omega), ?_, by rw [hlo]; exact hlt, Int.ediv_nonneg b1 (by omega), ?_⟩
 · rw [IntKind.wrap_u16, hlo]
   obtain ⟨a, rfl⟩ := Int.eq_ofNat_of_zero_le hc0
   generalize hq : x % 2 ^ (16 - sh) = q at *
   obtain ⟨q', rfl⟩ := Int.eq_ofNat_of_zero_le hq0
   have e : (2 : Int) ^ sh * (q' : Int) = ((2 ^ sh * q' : Nat) : Int) := by rw [Int.natCast_mul, Int.natCast_pow]; rfl
   have ha : a < 2 ^ sh := by
    have : ((a : Nat) : Int) < ((2 ^ sh : Nat) : Int) := by rw [Int.natCast_pow]; exact hc
    exact Int.ofNat_lt.1 this
   rw [e] at hlt ⊢
   have hlt' : a + 2 ^ sh * q' < 65536 := by
    have : ((a + 2 ^ sh * q' : Nat) : Int) < ((65536 : Nat) : Int) := by rw [Int.natCast_add]; exact hlt
    exact Int.ofNat_lt.1 this
   have h2 := Nat.two_pow_add_eq_or_of_lt ha q'
   rw [or_nat (k := .u16) rfl (Nat.lt_of_le_of_lt (Nat.le_add_right _ _) hlt') (Nat.lt_of_le_of_lt (Nat.le_add_left _ _) hlt'), Nat.or_comm, ← h2, Int.natCast_add, Int.add_comm]
 · exact Int.ediv_lt_of_lt_mul (by decide) (by rw [Int.mul_comm (2 ^ sh) 65536]; exact b2)
end Go.WB
namespace Go.WB
theorem bitLenAux_lt : ∀ (f x : Nat), x < 2 ^ f → x < 2 ^ Lib.bitLenAux f x
 | 0, x, h => by simpa [Lib.bitLenAux] using h
 | f + 1, x, h => by
  unfold Lib.bitLenAux
  by_cases h0 : x = 0
  · rw [if_pos h0, h0]; decide
  · rw [if_neg h0]
    have := bitLenAux_lt f (x / 2) (by rw [Nat.pow_succ] at h; omega)
    rw [Nat.add_comm, Nat.pow_succ]; omega
theorem bitLenAux_ge : ∀ (f x : Nat), x < 2 ^ f → x ≠ 0 → 1 ≤ Lib.bitLenAux f x ∧ 2 ^ (Lib.bitLenAux f x - 1) ≤ x
 | 0, x, h, h0 => by simp at h; exact absurd h h0
 | f + 1, x, h, h0 => by
  unfold Lib.bitLenAux
  rw [if_neg h0]
  refine ⟨by omega, ?_⟩
  rw [Nat.add_sub_cancel_left]
  by_cases h1 : x / 2 = 0
  · cases f with
    | zero => simp [Lib.bitLenAux]; omega
    | succ f => simp [Lib.bitLenAux, h1]; omega
  · obtain ⟨a, b⟩ := bitLenAux_ge f (x / 2) (by rw [Nat.pow_succ] at h; omega) h1
    obtain ⟨c, hc⟩ : ∃ c, Lib.bitLenAux f (x / 2) = c + 1 := ⟨_, (Nat.succ_pred_eq_of_pos a).symm⟩
    rw [hc] at b ⊢
    rw [Nat.add_sub_cancel] at b
    rw [Nat.pow_succ]; omega
theorem lead_shift {y : Int} (h0 : 1 ≤ y) (h1 : y < 65536) : ∃ sh : Nat, sh ≤ 15 ∧ (16 - (Lib.bitLen y.toNat : Int)) = sh ∧ 32768 ≤ y * 2 ^ sh ∧ y * 2 ^ sh < 65536 := by
 obtain ⟨x, rfl⟩ := Int.eq_ofNat_of_zero_le (show 0 ≤ y by omega)
 rw [Int.toNat_natCast]
 have hx0 : x ≠ 0 := by omega
 have hx1 : x < 65536 := by omega
 have hx64 : x < 2 ^ 64 := Nat.lt_trans hx1 (by decide)
 have hlt := bitLenAux_lt 64 x hx64
 obtain ⟨hg1, hg2⟩ := bitLenAux_ge 64 x hx64 hx0
 unfold Lib.bitLen
 generalize Lib.bitLenAux 64 x = b at *
 have hb : b ≤ 16 := by
  apply Nat.le_of_not_lt; intro hb
  have : 2 ^ 16 ≤ 2 ^ (b - 1) := Nat.pow_le_pow_right (by decide) (by omega)
  have e : (2 : Nat) ^ 16 = 65536 := rfl
  omega
 refine ⟨16 - b, by omega, by omega, ?_, ?_⟩
 · have e : 2 ^ (b - 1) * 2 ^ (16 - b) = 32768 := by rw [← Nat.pow_add, show b - 1 + (16 - b) = 15 by omega]
   have : 2 ^ (b - 1) * 2 ^ (16 - b) ≤ x * 2 ^ (16 - b) := Nat.mul_le_mul_right _ hg2
   rw [e] at this
   have h : ((32768 : Nat) : Int) ≤ ((x * 2 ^ (16 - b) : Nat) : Int) := Int.ofNat_le.2 this
   rw [Int.natCast_mul, Int.natCast_pow] at h
   exact h
 · have e : 2 ^ b * 2 ^ (16 - b) = 65536 := by rw [← Nat.pow_add, show b + (16 - b) = 16 by omega]
   have : x * 2 ^ (16 - b) < 2 ^ b * 2 ^ (16 - b) := Nat.mul_lt_mul_of_pos_right hlt (Nat.pow_pos (by decide))
   rw [e] at this
   have h : ((x * 2 ^ (16 - b) : Nat) : Int) < ((65536 : Nat) : Int) := Int.ofNat_lt.2 this
   rw [Int.natCast_mul, Int.natCast_pow] at h
   exact h
end Go.WB
