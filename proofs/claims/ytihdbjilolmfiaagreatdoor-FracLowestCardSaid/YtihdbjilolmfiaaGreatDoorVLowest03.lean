import Derived.Test.YtihdbjilolmfiaaGreatDoorVLowest02
set_option maxRecDepth 100000
set_option maxHeartbeats 4000000
namespace Go.Proofs.YtihdbjilolmfiaaGreatDoor
open Go.RowKit Go.WM Go.WR
attribute [local go_sem] Oper.semAt_some
theorem equal16_any (va vb : Value) (A B : List Int) (w : World) (hla : A.length ≤ 140737488355328) (_ : B.length ≤ 140737488355328) (hA : Lims w.heap.size w va A) (hB : Lims w.heap.size w vb B) :
 Calls Tryz.prog 98 #[va, vb] w fun e w' => e = .returned (.bool (decide (A = B))) ∧ Below w.heap.size w w' := by
 obtain ⟨pa, la, ca, rfl⟩ := hA.form
 obtain ⟨pb, lb, cb, rfl⟩ := hB.form
 obtain ⟨hl, hcA⟩ := hA.cells
 obtain ⟨hl2, hcB⟩ := hB.cells
 have hla' : la ≤ 140737488355328 := by omega
 by_cases hne : la = lb
 · subst hne
   have HLA := Lib.hid hl
   have HLB := Lib.hid hl2
   clear hl hl2
   go_enter Tryz.func98, Tryz.ntmps98
   go_wp2
   go_loopw [13] (fun kv wr => ∃ k : Nat, k ≤ la ∧ kv = .int .i64 k ∧ Below w.heap.size w wr ∧ ∀ j, j < k → A[j]?.getD 0 = B[j]?.getD 0) (fun kv _ => la - (intOf kv).toNat)
   case atStart => exact ⟨0, Nat.zero_le _, rfl, Below.refl _ _, fun j hj => absurd hj (by omega)⟩
   case round =>
    obtain ⟨k, hk, rfl, hBw, hag⟩ := hrel
    by_cases hlt : k < la
    · obtain ⟨ba, oa, rfl, hba, hca, hcc⟩ := hcA (by omega)
      obtain ⟨bb, ob, rfl, hbb, hcb, hdd⟩ := hcB (by omega)
      have c0 := (hBw.cell (p := ⟨ba, oa + k, none⟩) hba).trans (hcc k hlt)
      have c1 := (hBw.cell (p := ⟨bb, ob + k, none⟩) hbb).trans (hdd k hlt)
      by_cases he : A[k]?.getD 0 = B[k]?.getD 0
      · have hag2 : ∀ j, j < k + 1 → A[j]?.getD 0 = B[j]?.getD 0 := fun j hj => by rcases (show j < k ∨ j = k by omega) with h | rfl; exact hag j h; exact he
        have HAG := Lib.hid hag2
        rw [he] at c0
        clear hag he hag2
        go_wp2
        go_quiet (fail)
        go_wp2
        go_roundw
        case rel => exact ⟨k + 1, by omega, rfl, below_drewN hBw nq, HAG.out⟩
        case measure => simp [intOf]; omega
      · have hneq : A ≠ B := fun e => he (by rw [e])
        have HNE := Lib.hid hneq
        clear hneq hag
        go_wp2
        go_quiet (fail)
        go_wp2
        go_ret
        exact ⟨congrArg (fun b => Ending.returned (Value.bool b)) (decide_eq_false HNE.out).symm, below_drewN hBw nq⟩
    · obtain rfl : k = la := by omega
      have heq : A = B := List.ext_getElem? fun j => by
       rcases (show j < k ∨ k ≤ j by omega) with h | h
       · have := hag j h
         have e1 := HLA.out
         have e2 := HLB.out
         rw [List.getElem?_eq_getElem (by omega), List.getElem?_eq_getElem (by omega)] at this ⊢
         exact congrArg some this
       · have e1 := HLA.out
         have e2 := HLB.out
         rw [List.getElem?_eq_none (by omega), List.getElem?_eq_none (by omega)]
      have HEQ := Lib.hid heq
      clear heq hag
      go_wp2
      go_ret
      exact ⟨congrArg (fun b => Ending.returned (Value.bool b)) (decide_eq_true HEQ.out).symm, hBw⟩
 · have hneq : A ≠ B := fun e => hne (by rw [hl, hl2, e])
   rw [decide_eq_false hneq]
   have hne' : ¬ ((la : Int) = lb) := by omega
   clear hl hl2 hneq
   go_enter Tryz.func98, Tryz.ntmps98
   go_wp2
   go_ret
   exact ⟨rfl, Below.refl _ _⟩
theorem Same_any (va vb : Value) (na nb : Bool) (A B : List Int) (w : World) (hla : A.length ≤ 140737488355328) (hlb : B.length ≤ 140737488355328) (hA : Wr w.heap.size w va na A) (hB : Wr w.heap.size w vb nb B) :
 Calls Tryz.prog 50 #[va, vb] w fun e w' => e = .returned (.bool (na == nb && decide (A = B))) ∧ Below w.heap.size w w' := by
 obtain ⟨sa, rfl, hLa⟩ := hA
 obtain ⟨sb, rfl, hLb⟩ := hB
 have hB2 : Below w.heap.size w ((w.alloc (.cells #[.bool na, sa] 24)).alloc (.cells #[.bool nb, sb] 24)) := ((Below.refl _ w).alloc (Nat.le_refl _) _).alloc (by simp) _
 go_enter Tryz.func50, Tryz.ntmps50
 by_cases hn : na = nb
 · subst hn
   go_wp2_with (go_at_call 98; refine (equal16_any sa sb A B _ hla hlb ((hLa.below hB2).mono hB2.size) ((hLb.below hB2).mono hB2.size)).mono ?_; rintro e w1 ⟨rfl, hb1⟩)
   go_ret
   exact ⟨by simp, hB2.trans (hb1.mono hB2.size)⟩
 · have hf : (na == nb) = false := by simpa using hn
   go_wp2
   go_ret
   exact ⟨by simp [hn], hB2⟩
end Go.Proofs.YtihdbjilolmfiaaGreatDoor
