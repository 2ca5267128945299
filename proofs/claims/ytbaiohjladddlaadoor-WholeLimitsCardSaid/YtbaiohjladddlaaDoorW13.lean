import Derived.Test.YtbaiohjladddlaaDoorW12
/- whole: Valid, valid. -/
namespace Go.Proofs.YtbaiohjladddlaaDoor
open Go.RowKit Go.WM Go.WR

attribute [local go_sem] Oper.semAt_some

/-- what Valid answers -/
def okB (neg : Bool) (zs : List Int) : Bool := decide (zs.length ≤ 1024) && (decide (zs.length = 0) && !neg || decide (0 < zs.length) && !decide (zs[zs.length - 1]?.getD 0 = 0))

theorem okB_true {neg : Bool} {zs : List Int} (h : okB neg zs = true) : zs.length ≤ 1024 ∧ Nz zs ∧ (zs = [] → neg = false) := by
  simp only [okB, Bool.and_eq_true, Bool.or_eq_true, decide_eq_true_eq, Bool.not_eq_true', decide_eq_false_iff_not] at h
  obtain ⟨h1, h2⟩ := h
  refine ⟨h1, ?_, ?_⟩
  · rcases h2 with ⟨h2, _⟩ | ⟨_, h2⟩
    · rw [List.eq_nil_of_length_eq_zero h2]; exact Nz.nil
    · exact Nz.of_last h2
  · rintro rfl
    rcases h2 with ⟨_, h2⟩ | ⟨h2, _⟩
    · exact h2
    · simp at h2
theorem okB_of {neg : Bool} {zs : List Int} (h1 : zs.length ≤ 1024) (h2 : Nz zs) (h3 : zs = [] → neg = false) : okB neg zs = true := by
  simp only [okB, Bool.and_eq_true, Bool.or_eq_true, decide_eq_true_eq, Bool.not_eq_true', decide_eq_false_iff_not]
  refine ⟨h1, ?_⟩
  rcases (show zs.length = 0 ∨ 0 < zs.length by omega) with h | h
  · exact .inl ⟨h, h3 (List.eq_nil_of_length_eq_zero h)⟩
  · exact .inr ⟨h, h2.last (by intro e; simp [e] at h)⟩

set_option maxRecDepth 100000 in
set_option maxHeartbeats 1000000 in
theorem Valid_any (v : Value) (neg : Bool) (zs : List Int) (w : World) (hv : Wr w.heap.size w v neg zs) (hlen : zs.length ≤ 140737488355328) :
    Calls Tryd.prog 15 #[v] w fun e w' => e = .returned (.bool (okB neg zs)) ∧ Below w.heap.size w w' := by
  obtain ⟨sv, rfl, hL⟩ := hv
  obtain ⟨p, l, c, rfl⟩ := hL.form
  obtain ⟨hl, hc⟩ := hL.cells
  have hB1 : Below w.heap.size w (w.alloc (.cells #[.bool neg, .slice p l c] 24)) := (Below.refl _ w).alloc (Nat.le_refl _) _
  by_cases h1 : l ≤ 1024
  · rcases (show l = 0 ∨ 0 < l by omega) with h | h
    · have e : okB neg zs = !neg := by
        simp only [okB]; rw [← hl, h]; simp
      rw [e]
      subst h
      have HL := Lib.hid hl
      clear hl hc e
      go_enter Tryd.func15, Tryd.ntmps15
      go_wp2
      all_goals
        go_ret
        exact ⟨by simp_all, (Below.refl _ w).alloc (Nat.le_refl _) _⟩
    · obtain ⟨b, off, rfl, hb, hcap, hcell⟩ := hc h
      have e : okB neg zs = !decide (zs[l - 1]?.getD 0 = 0) := by
        simp only [okB]; rw [← hl]; simp [h1, h, show ¬ l = 0 by omega]
      rw [e]
      obtain ⟨k, rfl⟩ : ∃ k, l = k + 1 := ⟨l - 1, by omega⟩
      have hk := (hB1.cell (p := ⟨b, off + k, none⟩) hb).trans (hcell k (by omega))
      have HL := Lib.hid hl
      clear hl hc e hcell
      go_enter Tryd.func15, Tryd.ntmps15
      go_wp2
      go_ret
      exact ⟨rfl, hB1⟩
  · have e : okB neg zs = false := by simp only [okB]; rw [← hl]; simp; omega
    rw [e]
    have HL := Lib.hid hl
    clear hl hc e
    go_enter Tryd.func15, Tryd.ntmps15
    go_wp2
    go_ret
    exact ⟨rfl, hB1⟩

theorem validx_any (v : Value) (neg : Bool) (zs : List Int) (w : World) (hv : Wr w.heap.size w v neg zs) (hlen : zs.length ≤ 140737488355328) :
    Calls Tryd.prog 69 #[v] w fun e w' => e = .returned (.bool (!okB neg zs)) ∧ Below w.heap.size w w' := by
  obtain ⟨sv, rfl, hL⟩ := hv
  have hB1 : Below w.heap.size w (w.alloc (.cells #[.bool neg, sv] 24)) := (Below.refl _ w).alloc (Nat.le_refl _) _
  go_enter Tryd.func69, Tryd.ntmps69
  go_wp2_with (go_at_call 15; refine (Valid_any (.agg #[.bool neg, sv]) neg zs _ ⟨sv, rfl, (hL.below hB1).mono hB1.size⟩ hlen).mono ?_; rintro e w1 ⟨rfl, hb1⟩)
  go_ret
  exact ⟨rfl, hB1.trans (hb1.mono hB1.size)⟩

theorem Wr.below {n₀ : Nat} {W W' : World} {v : Value} {neg : Bool} {zs : List Int} (hb : Below n₀ W W') : Wr n₀ W v neg zs → Wr n₀ W' v neg zs
  | ⟨sv, e, h⟩ => ⟨sv, e, h.below hb⟩
theorem Wr.mono {n₀ n₁ : Nat} {W : World} {v : Value} {neg : Bool} {zs : List Int} (hn : n₀ ≤ n₁) : Wr n₀ W v neg zs → Wr n₁ W v neg zs
  | ⟨sv, e, h⟩ => ⟨sv, e, h.mono hn⟩

set_option maxRecDepth 100000 in
set_option maxHeartbeats 1000000 in
theorem index_any (g N : Nat) (ng : Nat → Bool) (sv : Nat → Value) (Z : Nat → List Int) (w : World) (hg : g < w.heap.size) (hN : N ≤ 4294967296) (hlen : ∀ j, j < N → (Z j).length ≤ 140737488355328)
    (h0 : ∀ j, j < N → w.cell? ⟨g, j * 2, none⟩ = some (.bool (ng j))) (h1 : ∀ j, j < N → w.cell? ⟨g, j * 2 + 1, none⟩ = some (sv j)) (hL : ∀ j, j < N → Lims w.heap.size w (sv j) (Z j)) :
    Calls Tryd.prog 87 #[.slice (some ⟨g, 0, none⟩) N N, .func (.func 69) #[] #[]] w fun e w' => ∃ r : Int, e = .returned (.int .i64 r) ∧ Below w.heap.size w w' ∧ ((r = -1 ∧ ∀ j, j < N → okB (ng j) (Z j) = true) ∨ (0 ≤ r ∧ ∃ j, j < N ∧ okB (ng j) (Z j) = false)) := by
  go_enter Tryd.func87, Tryd.ntmps87
  go_wp2
  go_loopw [8] (fun kv wr => ∃ k : Nat, k ≤ N ∧ kv = .int .i64 k ∧ Below w.heap.size w wr ∧ ∀ j, j < k → okB (ng j) (Z j) = true) (fun kv _ => N - (intOf kv).toNat)
  case atStart => exact ⟨0, Nat.zero_le _, rfl, Below.refl _ _, fun j hj => absurd hj (by omega)⟩
  case round =>
    obtain ⟨k, hk, rfl, hB, hok⟩ := hrel
    by_cases hlt : k < N
    · have c0 := (hB.cell (p := ⟨g, k * 2, none⟩) hg).trans (h0 k hlt)
      have c1 := (hB.cell (p := ⟨g, k * 2 + 1, none⟩) hg).trans (h1 k hlt)
      have hLk := (hL k hlt).below hB
      have hlk := hlen k hlt
      by_cases ho : okB (ng k) (Z k) = true
      · generalize hnk : ng k = nk at *
        generalize hsk : sv k = sk at *
        have HO := Lib.hid ho
        have HNK := Lib.hid hnk
        clear hnk hsk ho
        go_wp2_with (go_at_call 69; refine (validx_any (.agg #[.bool nk, sk]) nk (Z k) _ ⟨sk, rfl, hLk.mono hB.size⟩ hlk).mono ?_; rintro e w1 ⟨rfl, hb1⟩; rw [HO.out])
        go_roundw
        case rel => exact ⟨k + 1, by omega, rfl, hB.trans (hb1.mono hB.size), fun j hj => by rcases (show j < k ∨ j = k by omega) with h | rfl; exact hok j h; rw [HNK.out]; exact HO.out⟩
        case measure => simp [intOf]; omega
      · generalize hnk : ng k = nk at *
        generalize hsk : sv k = sk at *
        have HO := Lib.hid (Bool.eq_false_iff.2 ho)
        have HNK := Lib.hid hnk
        clear hnk hsk ho
        go_wp2_with (go_at_call 69; refine (validx_any (.agg #[.bool nk, sk]) nk (Z k) _ ⟨sk, rfl, hLk.mono hB.size⟩ hlk).mono ?_; rintro e w1 ⟨rfl, hb1⟩; rw [HO.out])
        go_ret
        exact ⟨k, rfl, hB.trans (hb1.mono hB.size), .inr ⟨by omega, k, hlt, by rw [HNK.out]; exact HO.out⟩⟩
    · obtain rfl : k = N := by omega
      go_wp2
      go_ret
      exact ⟨-1, rfl, hB, .inl ⟨rfl, hok⟩⟩

theorem contains_any (g N : Nat) (ng : Nat → Bool) (sv : Nat → Value) (Z : Nat → List Int) (w : World) (hg : g < w.heap.size) (hN : N ≤ 4294967296) (hlen : ∀ j, j < N → (Z j).length ≤ 140737488355328)
    (h0 : ∀ j, j < N → w.cell? ⟨g, j * 2, none⟩ = some (.bool (ng j))) (h1 : ∀ j, j < N → w.cell? ⟨g, j * 2 + 1, none⟩ = some (sv j)) (hL : ∀ j, j < N → Lims w.heap.size w (sv j) (Z j)) (ok : Bool)
    (hok : ok = true ↔ ∀ j, j < N → okB (ng j) (Z j) = true) :
    Calls Tryd.prog 38 #[.slice (some ⟨g, 0, none⟩) N N] w fun e w' => e = .returned (.bool ok) ∧ Below w.heap.size w w' := by
  have HOK := Lib.hid hok
  clear hok
  go_enter Tryd.func38, Tryd.ntmps38
  go_wp2_with (go_at_call 68; go_enter Tryd.func68, Tryd.ntmps68; go_wp2_with (go_at_call 87; refine (index_any g N ng sv Z _ hg hN hlen h0 h1 hL).mono ?_; rintro e w1 ⟨r, rfl, hb1, hr⟩))
  go_ret
  refine ⟨?_, hb1⟩
  rcases hr with ⟨rfl, hall⟩ | ⟨hr, j, hj, hbad⟩
  · rw [HOK.out.2 hall]; rfl
  · rw [decide_eq_true hr]
    cases ok with
    | false => rfl
    | true => have := HOK.out.1 rfl j hj; rw [hbad] at this; cases this

/-- valid(a, b) -/
theorem valid_two (g : Nat) (na nb : Bool) (sa sb : Value) (A B : List Int) (w : World) (hg : g < w.heap.size) (hA : A.length ≤ 140737488355328) (hB : B.length ≤ 140737488355328)
    (c0 : w.cell? ⟨g, 0, none⟩ = some (.bool na)) (c1 : w.cell? ⟨g, 1, none⟩ = some sa) (c2 : w.cell? ⟨g, 2, none⟩ = some (.bool nb)) (c3 : w.cell? ⟨g, 3, none⟩ = some sb)
    (hLa : Lims w.heap.size w sa A) (hLb : Lims w.heap.size w sb B) :
    Calls Tryd.prog 38 #[.slice (some ⟨g, 0, none⟩) 2 2] w fun e w' => e = .returned (.bool (okB na A && okB nb B)) ∧ Below w.heap.size w w' := by
  have two : ∀ j, j < 2 → j = 0 ∨ j = 1 := fun j hj => by omega
  refine contains_any g 2 (fun j => bif j == 0 then na else nb) (fun j => bif j == 0 then sa else sb) (fun j => bif j == 0 then A else B) w hg (by omega)
    (fun j hj => by rcases two j hj with rfl | rfl <;> assumption) (fun j hj => by rcases two j hj with rfl | rfl <;> assumption) (fun j hj => by rcases two j hj with rfl | rfl <;> assumption) (fun j hj => by rcases two j hj with rfl | rfl <;> assumption) _ ?_
  rw [Bool.and_eq_true]
  exact ⟨fun ⟨h0, h1⟩ j hj => by rcases two j hj with rfl | rfl <;> assumption, fun h => ⟨h 0 (by omega), h 1 (by omega)⟩⟩

end Go.Proofs.YtbaiohjladddlaaDoor
