import Derived.Test.YtbaiohjladddlaaDoorW25
import Derived.Test.YtbaiohjladddlaaDoorM1
/- whole: decimal. -/
namespace Go.Proofs.YtbaiohjladddlaaDoor
open Go.RowKit Go.WM Go.WR
attribute [local go_sem] Oper.semAt_some

theorem ret_bool {a b : Bool} (h : a = b) : Ending.returned (.bool a) = .returned (.bool b) := by rw [h]

theorem byte_at {s : ByteArray} {k : Nat} (h : k < s.size) : ∃ h' : k < s.data.toList.length, s.data.toList[k] = s[k] := ⟨by simpa using h, rfl⟩

set_option maxRecDepth 100000 in
set_option maxHeartbeats 1000000 in
theorem decimal_any (s : ByteArray) (w : World) (hs : s.size ≤ 9223372036854775806) : Calls Tryd.prog 50 #[.string s] w fun e w' => e = .returned (.bool (decOK s.data.toList)) ∧ w = w' := by
  go_enter Tryd.func50, Tryd.ntmps50
  go_wp2
  go_loop [6] (fun i => ∃ k : Nat, k ≤ s.size ∧ i = .int .i64 k ∧ ((s.data.toList.take k).all isDig) = true) (fun i => s.size - (intOf i).toNat)
  case atStart => exact ⟨0, Nat.zero_le _, rfl, by simp⟩
  case round =>
    obtain ⟨k, hk, rfl, hall⟩ := hrel
    have HALL := Lib.hid hall
    clear hall
    by_cases hlt : k < s.size
    · go_wp2
      · have h : (s[k].toNat : Int) < 48 ∨ 57 < (s[k].toNat : Int) := by assumption
        go_ret
        obtain ⟨h', e⟩ := byte_at hlt
        have hd : isDig s.data.toList[k] = false := by
          rw [e]; unfold isDig
          rcases h with h | h
          · rw [decide_eq_false (by omega), Bool.false_and]
          · rw [decide_eq_false (p := s[k].toNat ≤ 57) (by omega), Bool.and_false]
        exact ⟨ret_bool (decOK_bad h' hd).symm, rfl⟩
      · have h : 48 ≤ (s[k].toNat : Int) ∧ (s[k].toNat : Int) ≤ 57 := by assumption
        obtain ⟨h', e⟩ := byte_at hlt
        have hd : isDig s.data.toList[k] = true := by
          rw [e]; unfold isDig
          rw [decide_eq_true (by omega), decide_eq_true (by omega)]; rfl
        go_round
        case rel => exact ⟨k + 1, by omega, by go_num, all_snoc h' HALL.out hd⟩
        case measure => simp [intOf]; omega
      · have h : (s[k].toNat : Int) < 48 := by assumption
        go_ret
        obtain ⟨h', e⟩ := byte_at hlt
        have hd : isDig s.data.toList[k] = false := by
          rw [e]; unfold isDig
          rw [decide_eq_false (by omega), Bool.false_and]
        exact ⟨ret_bool (decOK_bad h' hd).symm, rfl⟩
    · have HALL' : Hid (s.data.toList.all isDig = true) := by
        have := HALL.out
        rw [List.take_of_length_le (by simp; omega)] at this
        exact Lib.hid this
      go_wp2
      · have h : s.toList = [48] := by assumption
        go_ret
        refine ⟨ret_bool ?_, rfl⟩
        rw [ByteArray.toList_eq] at h
        rw [decOK_all HALL'.out, decide_eq_true h]; rfl
      · have h : s.toList = [] := by assumption
        go_ret
        refine ⟨ret_bool ?_, rfl⟩
        rw [ByteArray.toList_eq] at h
        rw [h]; rfl
      · have h1 : ¬ s.toList = [48] := by assumption
        have h2 : ¬ s.toList = [] := by assumption
        have h0 : 0 < s.size := by assumption
        go_ret
        refine ⟨ret_bool ?_, rfl⟩
        rw [ByteArray.toList_eq] at h1 h2 ⊢
        rw [decOK_all HALL'.out, decide_eq_false h1]
        obtain ⟨h', e⟩ := byte_at h0
        have hb : (s.data.toList == [48]) = false := beq_eq_false_iff_ne.2 h1
        rw [hb]
        have hh : s.data.toList.head? = some s[0] := by
          rw [List.head?_eq_getElem?, List.getElem?_eq_getElem h', e]
        rw [hh]
        have e3 : ((s[0].toNat : Int) != 48) = !decide (some s[0] = some (48 : UInt8)) := by
          by_cases hc : s[0] = 48
          · rw [hc]; rfl
          · have : s[0].toNat ≠ 48 := fun h => hc (UInt8.toNat_inj.1 (by simpa using h))
            rw [decide_eq_false (by simpa using hc)]
            simp; omega
        rw [e3]
      · have h2 : ¬ s.toList = [] := by assumption
        have h0 : ¬ 0 < s.size := by assumption
        rw [ByteArray.toList_eq] at h2
        have hl : s.data.toList.length = s.size := by simp
        exact absurd (List.length_eq_zero_iff.1 (show s.data.toList.length = 0 by omega)) h2

end Go.Proofs.YtbaiohjladddlaaDoor
