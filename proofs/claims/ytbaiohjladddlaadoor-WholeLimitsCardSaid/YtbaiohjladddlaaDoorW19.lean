import Derived.Test.YtbaiohjladddlaaDoorW16
/- the reference: Same. -/
namespace Go.Proofs.YtbaiohjladddlaaDoor
open Go.RowKit Go.WM Go.WR
attribute [local go_sem] Oper.semAt_some

set_option maxRecDepth 100000 in
set_option maxHeartbeats 1000000 in
theorem refSame_any (va vb : Value) (na nb : Bool) (A B : List Int) (w : World) (hla : A.length ≤ 140737488355328) (hlb : B.length ≤ 140737488355328) (hA : Wr w.heap.size w va na A) (hB : Wr w.heap.size w vb nb B) :
    Calls Tryd.prog 41 #[va, vb] w fun e w' => e = .returned (.bool (na == nb && decide (A = B))) ∧ Below w.heap.size w w' := by
  obtain ⟨sa, rfl, hLa⟩ := hA
  obtain ⟨sb, rfl, hLb⟩ := hB
  obtain ⟨pa, la, ca, rfl⟩ := hLa.form
  obtain ⟨pb, lb, cb, rfl⟩ := hLb.form
  obtain ⟨hl, hcA⟩ := hLa.cells
  obtain ⟨hl2, hcB⟩ := hLb.cells
  obtain ⟨w2, hw2⟩ : ∃ w2, w2 = (w.alloc (.cells #[.bool na, .slice pa la ca] 24)).alloc (.cells #[.bool nb, .slice pb lb cb] 24) := ⟨_, rfl⟩
  have hB2 : Below w.heap.size w w2 := by rw [hw2]; exact ((Below.refl _ w).alloc (Nat.le_refl _) _).alloc (by simp) _
  have hs2 : w2.heap.size = w.heap.size + 2 := by rw [hw2]; simp
  have q0 : w2.heap[w.heap.size]? = some (.cells #[.bool na, .slice pa la ca] 24) := by rw [hw2]; exact alloc_old _ _ (alloc_new _ _ rfl)
  have q1 : w2.heap[w.heap.size + 1]? = some (.cells #[.bool nb, .slice pb lb cb] 24) := by rw [hw2]; exact alloc_new _ _ (by rw [World.size_alloc])
  have hla' : la ≤ 140737488355328 := by omega
  have hlb' : lb ≤ 140737488355328 := by omega
  go_enter Tryd.func41, Tryd.ntmps41
  by_cases hn : na = nb
  · subst hn
    by_cases hne : la = lb
    · subst hne
      have HLA := Lib.hid hl
      have HLB := Lib.hid hl2
      clear hl hl2
      go_wp2
      rw [← hw2]
      go_loopw [5] (fun kv wr => ∃ k : Nat, k ≤ la ∧ kv = .int .i64 k ∧ Below w2.heap.size w2 wr ∧ ∀ j, j < k → A[j]?.getD 0 = B[j]?.getD 0) (fun kv _ => la - (intOf kv).toNat)
      case atStart => exact ⟨0, Nat.zero_le _, rfl, Below.refl _ _, fun j hj => absurd hj (by omega)⟩
      case round =>
        obtain ⟨k, hk, rfl, hBw, hag⟩ := hrel
        have z1 := cell_of ((hBw.block _ (by omega)).trans q0) 1 rfl
        have z3 := cell_of ((hBw.block _ (by omega)).trans q1) 1 rfl
        by_cases hlt : k < la
        · obtain ⟨ba, oa, rfl, hba, hca, hcc⟩ := hcA (by omega)
          obtain ⟨bb, ob, rfl, hbb, hcb, hdd⟩ := hcB (by omega)
          have c0 := (hBw.cell (p := ⟨ba, oa + k, none⟩) (by show ba < _; omega)).trans ((hB2.cell (p := ⟨ba, oa + k, none⟩) hba).trans (hcc k hlt))
          have c1 := (hBw.cell (p := ⟨bb, ob + k, none⟩) (by show bb < _; omega)).trans ((hB2.cell (p := ⟨bb, ob + k, none⟩) hbb).trans (hdd k hlt))
          by_cases he : A[k]?.getD 0 = B[k]?.getD 0
          · have hag2 : ∀ j, j < k + 1 → A[j]?.getD 0 = B[j]?.getD 0 := fun j hj => by rcases (show j < k ∨ j = k by omega) with h | rfl; exact hag j h; exact he
            have HAG := Lib.hid hag2
            rw [he] at c0
            clear hag he hag2
            go_wp2
            go_quiet (fail)
            go_wp2
            go_roundw
            case rel => exact ⟨k + 1, by omega, rfl, below_drewN hBw nq, HAG.out⟩
            case measure => simp [intOf]; omega
          · have hneq : A ≠ B := fun e => he (by rw [e])
            have HNE := Lib.hid hneq
            clear hneq hag
            go_wp2
            go_quiet (fail)
            go_wp2
            go_ret
            exact ⟨by simp [HNE.out], hB2.trans (below_drewN (hBw.mono hB2.size) nq)⟩
        · obtain rfl : k = la := by omega
          have heq : A = B := List.ext_getElem? fun j => by
            rcases (show j < k ∨ k ≤ j by omega) with h | h
            · have := hag j h
              have e1 := HLA.out
              have e2 := HLB.out
              rw [List.getElem?_eq_getElem (by omega), List.getElem?_eq_getElem (by omega)] at this ⊢
              exact congrArg some this
            · have e1 := HLA.out
              have e2 := HLB.out
              rw [List.getElem?_eq_none (by omega), List.getElem?_eq_none (by omega)]
          have HEQ := Lib.hid heq
          clear heq hag
          go_wp2
          go_ret
          exact ⟨by simp [HEQ.out], hB2.trans (hBw.mono hB2.size)⟩
    · have hneq : A ≠ B := fun e => hne (by rw [hl, hl2, e])
      have hne' : ¬ ((la : Int) = lb) := by omega
      have HNE := Lib.hid hneq
      clear hl hl2 hneq
      go_wp2
      go_ret
      exact ⟨by simp [HNE.out], by rw [← hw2]; exact hB2⟩
  · clear hl hl2
    go_wp2
    go_ret
    exact ⟨by simp [hn], by rw [← hw2]; exact hB2⟩

end Go.Proofs.YtbaiohjladddlaaDoor
