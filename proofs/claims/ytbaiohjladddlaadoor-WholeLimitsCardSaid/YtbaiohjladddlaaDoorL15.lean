import Derived.Test.YtbaiohjladddlaaDoorF3
/- The law's function large: a number of n words, each the greatest. -/
namespace Go.Proofs.YtbaiohjladddlaaDoor
open Go.RowKit Go.WM Go.WR
attribute [local go_sem] Oper.semAt_some

/-- a row that is filled up to k -/
def filled (k n : Nat) : List Int := List.replicate k 65535 ++ List.replicate (n - k) 0
theorem filled_len {k n : Nat} (h : k ≤ n) : (filled k n).length = n := by unfold filled; simp; omega
theorem filled_set {k n : Nat} (h : k < n) : (filled k n).set k 65535 = filled (k + 1) n := by
  unfold filled
  have e : n - k = (n - (k + 1)) + 1 := by omega
  rw [e, List.replicate_succ, List.set_append_right _ _ (by simp), List.length_replicate, Nat.sub_self, List.set_cons_zero, List.replicate_succ']
  simp
theorem filled_end (n : Nat) : filled n n = List.replicate n 65535 := by unfold filled; simp
theorem filled_start (n : Nat) : filled 0 n = List.replicate n 0 := by unfold filled; simp

set_option maxRecDepth 100000 in
set_option maxHeartbeats 2000000 in
theorem large_any (n : Nat) (w : World) (h0 : 0 < n) (hn : n ≤ 140737488355328) : Calls Tryd.prog 34 #[.int .i64 n] w fun e w' => ∃ p l c, e = .returned (.agg #[.bool false, .slice p l c]) ∧ Own16 w.heap.size w' (.slice p l c) (List.replicate n 65535) ∧ Below w.heap.size w w' := by
  obtain ⟨i0, hi, hz0, hz1, hz2⟩ := info_parts info40
  obtain ⟨w1, hw1⟩ : ∃ w1, w1 = w.alloc (.cells #[.bool false, .slice none 0 0] 24) := ⟨_, rfl⟩
  have hB1 : Below w.heap.size w w1 := by rw [hw1]; exact (Below.refl _ w).alloc (Nat.le_refl _) _
  have q0 : w1.heap[w.heap.size]? = some (.cells #[.bool false, .slice none 0 0] 24) := by rw [hw1]; exact alloc_new _ _ rfl
  have hs1 : w1.heap.size = w.heap.size + 1 := by rw [hw1]; simp
  obtain ⟨w2, hrun, hown0, hgrow0⟩ := run_make_full (P := Tryd.prog) w1 w1.heap.size 22 40 i0 (.int .u16 0) 1 Tryd.underlying22 hi hz0 hz1 .i64 .i64 n (by rw [hz2]; omega) (by unfold maxLen; omega) (Nat.le_refl _)
  rw [made16] at hown0
  have hB2 : Below w1.heap.size w1 w2 := (Below.refl _ _).grown hgrow0 (Nat.le_refl _) (fun k h => by cases h)
  have hown1 : Own16 w1.heap.size w2 (.slice (some ⟨w1.heap.size, 0, none⟩) n n) (filled 0 n) := by rw [filled_start]; unfold Own16; rw [List.length_replicate]; exact hown0
  have q2 : w2.heap[w.heap.size]? = some (.cells #[.bool false, .slice none 0 0] 24) := (hB2.block _ (by omega)).trans q0
  clear hown0 hgrow0
  rw [hs1] at hown1 hB2
  rw [hw1] at hrun
  have HW1 := Lib.hid hw1
  clear hw1
  go_enter Tryd.func34, Tryd.ntmps34
  go_wp2
  clear hrun
  go_loopw [4] (fun i wr => ∃ k : Nat, k ≤ n ∧ i = .int .i64 k ∧ Own16 (w.heap.size + 1) wr (.slice (some ⟨w.heap.size + 1, 0, none⟩) n n) (filled k n) ∧ Below (w.heap.size + 1) w1 wr) (fun i _ => n - (intOf i).toNat)
  case atStart => exact ⟨0, Nat.zero_le _, rfl, hown1, hB2⟩
  case round =>
    obtain ⟨k, hk, rfl, hown, hBr⟩ := hrel
    by_cases hkl : k < n
    · obtain ⟨hat, hfz⟩ := hown.at k (by rw [filled_len hk]; omega)
      go_wp2
      go_roundw
      case rel =>
        have hw := hown.set k (by rw [filled_len hk]; omega) 65535
        rw [filled_set hkl] at hw
        exact ⟨k + 1, by omega, by go_num, hw, hBr.setCell (p := ⟨w.heap.size + 1, k, none⟩) (Nat.le_refl _) _⟩
      case measure => simp [intOf]; omega
    · obtain rfl : k = n := by omega
      have qr := (hBr.block w.heap.size (by omega)).trans q0
      have c0 := cell_of qr 0 rfl
      have c1 := cell_of qr 1 rfl
      have f0 := frozen_of qr 0
      have f1 := frozen_of qr 1
      go_wp2
      obtain ⟨w4, hw4⟩ : ∃ x, x = put2 wr w.heap.size (.bool false) (.slice (some ⟨w.heap.size + 1, 0, none⟩) k k) := ⟨_, rfl⟩
      have hc := put2_cell qr (.bool false) (.slice (some ⟨w.heap.size + 1, 0, none⟩) k k)
      have ho2 := put2_only wr w.heap.size (.bool false) (.slice (some ⟨w.heap.size + 1, 0, none⟩) k k)
      have hO := hown.put2 qr (by decide) (.bool false) (.slice (some ⟨w.heap.size + 1, 0, none⟩) k k)
      rw [← hw4] at hc ho2 hO
      have hw4' := hw4
      unfold put2 at hw4'
      rw [← hw4']
      rw [filled_end] at hO
      clear hw4 hw4'
      obtain ⟨d0, d1⟩ := hc
      exact bodyPost_ret (v := .agg #[.bool false, .slice (some ⟨w.heap.size + 1, 0, none⟩) k k]) (by simp [results, Tryd.results34, go_sem, d0, d1]) rfl ⟨_, _, _, rfl, hO.mono (by omega), hB1.trans ((hBr.mono (by omega)).trans (ho2.below (Nat.le_refl _)))⟩

theorem val_top (n : Nat) : val (List.replicate n 65535) = 65536 ^ n - 1 := by
  induction n with
  | zero => simp [val]
  | succ n ih =>
    rw [List.replicate_succ']
    rw [val_append, ih, List.length_replicate, Int.pow_succ]
    simp only [val]
    generalize (65536 : Int) ^ n = p
    omega
theorem lm_top (n : Nat) : Lm (List.replicate n 65535) := by
  intro x hx
  have := (List.mem_replicate.1 hx).2
  subst this
  exact ⟨by decide, by decide⟩
theorem rep_top (n : Nat) : Rep (List.replicate n 65535) (65536 ^ n - 1) := by
  refine ⟨lm_top n, ?_, val_top n⟩
  intro h
  rw [List.getLast_replicate]
  decide

/-- the greatest number of n words -/
def top (n : Nat) : Int := 65536 ^ n - 1
theorem top_pos (n : Nat) : 0 ≤ top n := by
  unfold top
  have h : (0 : Int) < 65536 ^ n := Int.pow_pos (by decide)
  omega
theorem top_le {n m : Nat} (h : n ≤ m) : top n ≤ top m := by
  unfold top
  have h1 : (65536 : Nat) ^ n ≤ 65536 ^ m := Nat.pow_le_pow_right (by decide) h
  have h2 : ((65536 ^ n : Nat) : Int) ≤ ((65536 ^ m : Nat) : Int) := Int.ofNat_le.2 h1
  rw [Int.natCast_pow, Int.natCast_pow] at h2
  have h3 : (65536 : Int) ^ n ≤ (65536 : Int) ^ m := h2
  omega
theorem top_cap {n : Nat} (h : n ≤ 1024) : (top n).natAbs < Cap := by
  have h1 := top_le h
  have h2 := top_pos n
  have h3 : top 1024 = Cap - 1 := by unfold top; rw [← Cap.eq]
  omega
theorem large_num (n : Nat) (w : World) (h0 : 0 < n) (hn : n ≤ 1024) : Calls Tryd.prog 34 #[.int .i64 n] w (NumP (top n) w) := by
  refine (large_any n w h0 (by omega)).mono ?_
  rintro e w' ⟨p, l, c, he, hO, hb⟩
  have hr : Rep (List.replicate n 65535) ((top n).natAbs : Int) := by
    have := top_pos n
    rw [show ((top n).natAbs : Int) = top n by omega]
    exact rep_top n
  refine ⟨false, p, l, c, he, ⟨_, _, ?_, hO, hr, top_cap hn⟩, hb⟩
  rw [decide_eq_false (by have := top_pos n; omega)]
theorem large_raw (w : World) : Calls Tryd.prog 34 #[.int .i64 1025] w fun e w' => ∃ p l c zs, e = .returned (.agg #[.bool false, .slice p l c]) ∧ Wr w'.heap.size w' (.agg #[.bool false, .slice p l c]) false zs ∧ zs.length ≤ 140737488355328 ∧ okB false zs = false ∧ Below w.heap.size w w' := by
  refine (large_any 1025 w (by decide) (by decide)).mono ?_
  rintro e w' ⟨p, l, c, he, hO, hb⟩
  refine ⟨p, l, c, _, he, ⟨_, rfl, hO.lims⟩, ?_, ?_, hb⟩
  · rw [List.length_replicate]; decide
  · unfold okB; rw [List.length_replicate]; rfl

/-- a number that does not fit -/
def OverP (w : World) (e : Ending) (w' : World) : Prop := e = .returned (.tuple #[.agg #[.bool false, .slice none 0 0], .int .i64 3]) ∧ Below w.heap.size w w'
theorem over_fit {f : Nat} {vs : Array Value} {w : World} {z : Int} (h : Calls Tryd.prog f vs w (FitPost w.heap.size z w)) (hz : Cap ≤ z.natAbs) : Calls Tryd.prog f vs w (OverP w) := by
  refine h.mono ?_
  rintro e w' ⟨b, p, l, c, er, rfl, hF, hb⟩
  rcases hF with ⟨h1, _⟩ | ⟨_, rfl, h2⟩
  · exact absurd hz (by omega)
  · rw [h2]; exact ⟨rfl, hb⟩
theorem overK {f : Nat} {vs : Array Value} {w : World} (h : Calls Tryd.prog f vs w (OverP w)) : Calls Tryd.prog f vs w fun e w' => ∃ v, e = .returned v ∧ KV (.pair 0 3) v w' ∧ Below w.heap.size w w' :=
  h.mono fun _ w' ⟨he, hb⟩ => ⟨_, he, ⟨_, rfl, ⟨_, [], rfl, .inl ⟨rfl, rfl⟩, Rep.nil, (Sz.lit (z := 0) (by decide)).cap (by decide) (by decide)⟩⟩, hb⟩

theorem Wn.minus {n₀ : Nat} {W : World} {b : Bool} {x : Value} {z : Int} (h : Wn n₀ W (.agg #[.bool b, x]) z) (hz : 0 < z) : Wn n₀ W (.agg #[.bool true, x]) (-z) := by
  obtain ⟨sv, zs, e, hL, hR, hc⟩ := h
  simp only [Value.agg.injEq, Array.mk.injEq, List.cons.injEq, Value.bool.injEq, and_true] at e
  obtain ⟨_, rfl⟩ := e
  exact ⟨x, zs, by rw [decide_eq_true (by omega)], hL, by rw [Int.natAbs_neg]; exact hR, by rw [Int.natAbs_neg]; exact hc⟩

/-- the limbs of the square of the greatest number of k + 1 words -/
def sqr (k : Nat) : List Int := (1 :: List.replicate k 0) ++ (65534 :: List.replicate k 65535)
theorem sqr_len (k : Nat) : (sqr k).length = (k + 1) + (k + 1) := by unfold sqr; simp; omega
theorem sqr_rep (k : Nat) : Rep (sqr k) (top (k + 1) * top (k + 1)) := by
  refine ⟨?_, ?_, ?_⟩
  · exact (Lm.cons (by decide) (Lm.replicate k)).append (Lm.cons (by decide) (lm_top k))
  · refine Nz.of_last ?_
    rw [sqr_len]
    unfold sqr
    rw [List.getElem?_append_right (by simp), List.length_cons, List.length_replicate, show k + 1 + (k + 1) - 1 - (k + 1) = k by omega]
    cases k with
    | zero => decide
    | succ k => rw [List.getElem?_cons_succ, List.getElem?_replicate, if_pos (by omega)]; decide
  · unfold sqr
    rw [val_append]
    simp only [val, val_replicate, val_top, List.length_cons, List.length_replicate, top, Int.pow_succ]
    generalize (65536 : Int) ^ k = p
    have e : (p * 65536 - 1) * (p * 65536 - 1) = p * 65536 * (p * 65536) - 2 * (p * 65536) + 1 := by
      rw [Int.sub_mul, Int.mul_sub, Int.mul_sub]; omega
    rw [e]
    have e2 : p * 65536 * (65534 + 65536 * (p - 1)) = p * 65536 * (p * 65536) - 2 * (p * 65536) := by
      rw [show (65534 : Int) + 65536 * (p - 1) = p * 65536 - 2 by omega, Int.mul_sub]; omega
    omega
theorem sqr_at0 (k : Nat) : (sqr k)[0]?.getD 0 = 1 := by unfold sqr; simp
theorem sqr_mid (k : Nat) : (sqr k)[k + 1]?.getD 0 = 65534 := by
  unfold sqr
  rw [List.getElem?_append_right (by simp)]
  simp
theorem wn_sqr {n₀ : Nat} {W : World} {b : Bool} {p : Option Addr} {l c k : Nat} (h : Wn n₀ W (.agg #[.bool b, .slice p l c]) (top (k + 1) * top (k + 1))) :
    l = (k + 1) + (k + 1) ∧ ∃ g off, p = some ⟨g, off, none⟩ ∧ g < n₀ ∧ W.cell? ⟨g, off, none⟩ = some (.int .u16 1) ∧ W.cell? ⟨g, off + (k + 1), none⟩ = some (.int .u16 65534) := by
  obtain ⟨sv, zs, e, hL, hR, hc⟩ := h
  simp only [Value.agg.injEq, Array.mk.injEq, List.cons.injEq, Value.bool.injEq, and_true] at e
  obtain ⟨_, rfl⟩ := e
  have hp : 0 ≤ top (k + 1) * top (k + 1) := Int.mul_nonneg (top_pos _) (top_pos _)
  rw [show ((top (k + 1) * top (k + 1)).natAbs : Int) = top (k + 1) * top (k + 1) by omega] at hR
  have hz := hR.unique (sqr_rep k)
  subst hz
  obtain ⟨h1, h2⟩ := hL.cells
  rw [sqr_len] at h1
  subst h1
  obtain ⟨g, off, rfl, hg, _, hcl⟩ := h2 (by omega)
  refine ⟨rfl, g, off, rfl, hg, ?_, ?_⟩
  · have := hcl 0 (by omega); rw [sqr_at0] at this; exact this
  · have := hcl (k + 1) (by omega); rw [sqr_mid] at this; exact this

end Go.Proofs.YtbaiohjladddlaaDoor
