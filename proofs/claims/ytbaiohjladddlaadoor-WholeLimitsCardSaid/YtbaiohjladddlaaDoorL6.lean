import Derived.Test.YtbaiohjladddlaaDoorL5
/- The laws' function usable. -/
namespace Go.Proofs.YtbaiohjladddlaaDoor
open Go.RowKit Go.WM Go.WR
attribute [local go_sem] Oper.semAt_some

set_option maxRecDepth 100000 in
set_option maxHeartbeats 1000000 in
theorem usable_any (g N most : Nat) (ng : Nat → Bool) (sv : Nat → Value) (Z : Nat → List Int) (w : World) (hg : g < w.heap.size) (hN : N ≤ 4294967296) (hmost : most ≤ 4294967296) (hlen : ∀ j, j < N → (Z j).length ≤ 140737488355328)
    (h0 : ∀ j, j < N → w.cell? ⟨g, j * 2, none⟩ = some (.bool (ng j))) (h1 : ∀ j, j < N → w.cell? ⟨g, j * 2 + 1, none⟩ = some (sv j)) (hL : ∀ j, j < N → Lims w.heap.size w (sv j) (Z j)) (ok : Bool)
    (hok : ok = true ↔ ∀ j, j < N → (Z j).length ≤ most ∧ okB (ng j) (Z j) = true) :
    Calls Tryd.prog 13 #[.int .i64 most, .slice (some ⟨g, 0, none⟩) N N] w (BoolP ok w) := by
  have HOKK := Lib.hid hok
  clear hok
  go_enter Tryd.func13, Tryd.ntmps13
  go_wp2
  go_loopw [5] (fun kv wr => ∃ k : Nat, k ≤ N ∧ kv = .int .i64 k ∧ Below w.heap.size w wr ∧ ∀ j, j < k → (Z j).length ≤ most ∧ okB (ng j) (Z j) = true) (fun kv _ => N - (intOf kv).toNat)
  case atStart => exact ⟨0, Nat.zero_le _, rfl, Below.refl _ _, fun j hj => absurd hj (by omega)⟩
  case round =>
    obtain ⟨k, hk, rfl, hB, hall⟩ := hrel
    by_cases hlt : k < N
    · have c0 := (hB.cell (p := ⟨g, k * 2, none⟩) hg).trans (h0 k hlt)
      have c1 := (hB.cell (p := ⟨g, k * 2 + 1, none⟩) hg).trans (h1 k hlt)
      have hLk := (hL k hlt).below hB
      have hlk := hlen k hlt
      have HALL := Lib.hid hall
      clear hall
      generalize hnk : ng k = nk at *
      generalize hsk : sv k = sk at *
      generalize hzk : Z k = zk at *
      obtain ⟨p, l, c, rfl⟩ := hLk.form
      have hl := hLk.cells.1
      have hl2 : l ≤ 140737488355328 := by omega
      have HNK := Lib.hid hnk
      have HZK := Lib.hid hzk
      have HL := Lib.hid hl
      clear hnk hsk hzk hl
      by_cases hm : l ≤ most
      · by_cases ho : okB nk zk = true
        · have HO := Lib.hid ho
          clear ho
          go_wp2_with (go_at_call 15; refine (Valid_any (.agg #[.bool nk, .slice p l c]) nk zk _ ⟨_, rfl, hLk.mono hB.size⟩ hlk).mono ?_; rintro e w1 ⟨rfl, hb1⟩; rw [HO.out])
          go_roundw
          case rel => exact ⟨k + 1, by omega, rfl, hB.trans (hb1.mono hB.size), fun j hj => by
            rcases (show j < k ∨ j = k by omega) with h | rfl
            · exact HALL.out j h
            · rw [HNK.out, HZK.out]; exact ⟨by have := HL.out; omega, HO.out⟩⟩
          case measure => simp [intOf]; omega
        · have HO := Lib.hid (Bool.eq_false_iff.2 ho)
          clear ho
          go_wp2_with (go_at_call 15; refine (Valid_any (.agg #[.bool nk, .slice p l c]) nk zk _ ⟨_, rfl, hLk.mono hB.size⟩ hlk).mono ?_; rintro e w1 ⟨rfl, hb1⟩; rw [HO.out])
          go_ret
          refine ⟨?_, hB.trans (hb1.mono hB.size)⟩
          cases ok with
          | false => rfl
          | true => have := (HOKK.out.1 rfl k hlt).2; rw [HNK.out, HZK.out, HO.out] at this; cases this
      · go_wp2
        go_ret
        refine ⟨?_, hB⟩
        cases ok with
        | false => rfl
        | true => have := (HOKK.out.1 rfl k hlt).1; rw [HZK.out, ← HL.out] at this; omega
    · obtain rfl : k = N := by omega
      have HALL := Lib.hid hall
      clear hall
      go_wp2
      go_ret
      exact ⟨by rw [HOKK.out.2 HALL.out]; rfl, hB⟩

end Go.Proofs.YtbaiohjladddlaaDoor
