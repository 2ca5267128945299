import Derived.Test.YtihdbjilolmfiaaGreatDoorD31
import Derived.Test.YtihdbjilolmfiaaGreatDoorD26
import Derived.Test.YtihdbjilolmfiaaGreatDoorD24
import Derived.Test.YtihdbjilolmfiaaGreatDoorD01
import Derived.Lib.IndexBytes
namespace Go.Proofs.YtihdbjilolmfiaaGreatDoor
open Go.RowKit Go.WM Go.WR
def cutS : List UInt8 → List UInt8 × List UInt8 × Bool
 | [] => ([], [], false)
 | c :: l => if c = 47 then ([], l, true) else (c :: (cutS l).1, (cutS l).2.1, (cutS l).2.2)
theorem cutS_cons {c : UInt8} (l : List UInt8) (h : c ≠ 47) : cutS (c :: l) = (c :: (cutS l).1, (cutS l).2.1, (cutS l).2.2) := if_neg h
theorem cutS_miss : ∀ {l : List UInt8}, Lib.indexByte l 47 = -1 → cutS l = (l, [], false)
 | [], _ => rfl
 | c :: l, h => by
  unfold Lib.indexByte at h
  split at h
  · cases h
  · rename_i hc
    have hne : c ≠ 47 := fun e => hc (by rw [e]; rfl)
    split at h
    · rename_i h2
      have ih := cutS_miss (l := l) (by simpa using h2)
      rw [cutS_cons l hne, ih]
    · have := Lib.indexByte_ge l 47
      omega
theorem cutS_hit : ∀ {l : List UInt8} {i : Nat}, Lib.indexByte l 47 = i → i < l.length ∧ cutS l = (l.take i, l.drop (i + 1), true)
 | [], i, h => by unfold Lib.indexByte at h; omega
 | c :: l, i, h => by
  unfold Lib.indexByte at h
  split at h
  · rename_i hc
    obtain rfl : c = 47 := by simpa using hc
    obtain rfl : i = 0 := by omega
    exact ⟨by simp, rfl⟩
  · rename_i hc
    have hne : c ≠ 47 := fun e => hc (by rw [e]; rfl)
    split at h
    · omega
    · have hge := Lib.indexByte_ge l 47
      rename_i h2
      have h2' : Lib.indexByte l 47 ≠ -1 := by simpa using h2
      obtain ⟨j, rfl⟩ : ∃ j, i = j + 1 := ⟨i - 1, by omega⟩
      obtain ⟨hj, ih⟩ := cutS_hit (l := l) (i := j) (by omega)
      refine ⟨by simp; omega, ?_⟩
      rw [cutS_cons l hne, ih]
      rfl
def parseA (T : List UInt8) : Int × Int := if parseOK T = true then (if (parseZ T).natAbs < Cap then (parseZ T, 0) else (0, 3)) else (0, 10)
theorem capF_lt : CapF < Cap := by
 have h1 := capF_sq
 have h2 := capF_pos
 have h3 : CapF * 1 ≤ CapF * CapF := Int.mul_le_mul_of_nonneg_left (by omega) (by omega)
 omega
end Go.Proofs.YtihdbjilolmfiaaGreatDoor
