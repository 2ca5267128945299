import Derived.Test.YtbaiohjladddlaaDoorL3
/- The laws' helper 'is'. -/
namespace Go.Proofs.YtbaiohjladddlaaDoor
open Go.RowKit Go.WM Go.WR
attribute [local go_sem] Oper.semAt_some

set_option maxRecDepth 100000 in
set_option maxHeartbeats 1000000 in
theorem is_ok (va : Value) (z k : Int) (w : World) (hA : Wn w.heap.size w va z) (h0 : -9223372036854775808 ≤ k) (h1 : k < 9223372036854775808) : Calls Tryd.prog 36 #[va, .int .i64 0, .int .i64 k] w (BoolP (decide (z = k)) w) := by
  obtain ⟨na, pa, la, ca, rfl⟩ := hA.form
  obtain ⟨w1, hw1⟩ : ∃ w1, w1 = w.alloc (.cells #[.bool na, .slice pa la ca] 24) := ⟨_, rfl⟩
  have hB1 : Below w.heap.size w w1 := by rw [hw1]; exact (Below.refl _ w).alloc (Nat.le_refl _) _
  have hs1 : w1.heap.size = w.heap.size + 1 := by rw [hw1]; simp
  have q0 : w1.heap[w.heap.size]? = some (.cells #[.bool na, .slice pa la ca] 24) := by rw [hw1]; exact alloc_new _ _ rfl
  have hA1 := hA.later hB1
  have hcall : ∀ W, Calls Tryd.prog 66 #[.int .i64 k] W fun e w' => ∃ v, e = .returned v ∧ KV (.num k) v w' ∧ Below W.heap.size W w' := fun W => (refFromInt_any k W h0 h1).mono fun _ _ ⟨_, he, hO, hb⟩ => ⟨_, he, hO.num, hb⟩
  have HW := Lib.hid hw1
  clear hw1 h0 h1
  go_enter Tryd.func36, Tryd.ntmps36
  go_wp2
  rw [← HW.out]
  refine region_kinds (n := 9) [.val (.int .i64 0), .val (.bool true), .val (.bool true), .num z, .val (.int .i64 k), .num k, .val (.bool (decide (z = k))), .val (.bool (decide (z = k))), .val (.bool (decide (z = k)))] [(0, 7), (1, 8), (2, 9), (3, 10), (4, 11), (5, 12), (6, 13), (7, 14), (8, 6)] (by kernel_rfl) (by kernel_rfl) (by kernel_rfl) ?hstep ?hend
  case hstep =>
    intro i o ho a' W hI hM
    match i, ho with
    | 0, ho =>
      cases ho
      refine stepK_of (wanted_none rfl) ?_
      exact opMove rfl (hM.old 1 rfl) ⟨rfl, Below.refl _ _⟩
    | 1, ho =>
      cases ho
      refine stepK_of (wanted_none rfl) ?_
      exact opEql27 rfl (hM.dep ⟨0, .data⟩ (by simp) rfl 7 rfl) rfl ⟨rfl, Below.refl _ _⟩
    | 2, ho =>
      cases ho
      refine stepK_of (wanted_none rfl) ?_
      exact opMove rfl (hM.dep ⟨1, .data⟩ (by simp) rfl 8 rfl) ⟨rfl, Below.refl _ _⟩
    | 3, ho =>
      cases ho
      refine stepK_of (wantedK hM rfl rfl (hM.dep ⟨2, .guard⟩ (by simp) rfl 9 rfl) rfl (show 9 < 15 by decide)) ?_
      exact opLoad rfl (hM.old 3 rfl) ((hI.block _ (show w.heap.size < w1.heap.size by omega)).trans q0) ⟨hA1.later hI, Below.refl _ _⟩
    | 4, ho =>
      cases ho
      refine stepK_of (wantedK hM rfl rfl (hM.dep ⟨2, .guard⟩ (by simp) rfl 9 rfl) rfl (show 9 < 15 by decide)) ?_
      exact opMove rfl (hM.old 2 rfl) ⟨rfl, Below.refl _ _⟩
    | 5, ho =>
      cases ho
      refine stepK_of (wantedK hM rfl rfl (hM.dep ⟨2, .chain⟩ (by simp) rfl 9 rfl) rfl (show 9 < 15 by decide)) ?_
      exact opCall1 rfl may66 (hM.dep ⟨4, .data⟩ (by simp) rfl 11 rfl) (hcall W)
    | 6, ho =>
      cases ho
      refine stepK_of (wantedK hM rfl rfl (hM.dep ⟨2, .guard⟩ (by simp) rfl 9 rfl) rfl (show 9 < 15 by decide)) ?_
      exact opCall2 rfl may41 rfl rfl (boolK (refSame_num _ _ z k W (hM.dep ⟨3, .data⟩ (by simp) rfl 10 rfl) (hM.dep ⟨5, .data⟩ (by simp) rfl 12 rfl)))
    | 7, ho =>
      cases ho
      refine stepK_of (wanted_none rfl) ?_
      exact opPick rfl (hM.dep ⟨2, .data⟩ (by simp) rfl 9 rfl) (hM.dep ⟨6, .data⟩ (by simp) rfl 13 rfl) ⟨rfl, Below.refl _ _⟩
    | 8, ho =>
      cases ho
      refine stepK_of (wanted_none rfl) ?_
      exact opAssign rfl (hM.dep ⟨7, .data⟩ (by simp) rfl 14 rfl) ⟨rfl, Below.refl _ _⟩
    | k + 9, ho => simp at ho
  case hend =>
    intro u W hI hV
    have e : u 8 = .bool (decide (z = k)) := hV 8 6 rfl
    simp only [putAll, List.foldl_cons, List.foldl_nil, List.setIfInBounds_toArray, List.set_cons_zero, List.set_cons_succ, e]
    go_wp2
    go_ret
    exact ⟨rfl, hB1.trans (hI.mono hB1.size)⟩

end Go.Proofs.YtbaiohjladddlaaDoor
