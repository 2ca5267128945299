import Derived.Test.YtbaiohjladddlaaDoorW32
import Derived.Test.YtbaiohjladddlaaDoorW21
import Derived.Test.YtbaiohjladddlaaDoorW19
import Derived.Test.YtbaiohjladddlaaDoorW18
import Derived.Test.YtbaiohjladddlaaDoorW17
import Derived.Test.YtbaiohjladddlaaDoorR1
/- The laws' helpers: num, equal, sum, product, less. -/
namespace Go.Proofs.YtbaiohjladddlaaDoor
open Go.RowKit Go.WM Go.WR
attribute [local go_sem] Oper.semAt_some

/-- a number is answered -/
def NumP (z : Int) (w : World) (e : Ending) (w' : World) : Prop := ∃ (b : Bool) (p : Option Addr) (l c : Nat), e = .returned (.agg #[.bool b, .slice p l c]) ∧ Wo w.heap.size w' (.agg #[.bool b, .slice p l c]) z ∧ Below w.heap.size w w'
/-- a number and no error -/
def NumE (z : Int) (w : World) (e : Ending) (w' : World) : Prop := ∃ (b : Bool) (p : Option Addr) (l c : Nat), e = .returned (.tuple #[.agg #[.bool b, .slice p l c], .int .i64 0]) ∧ Wo w.heap.size w' (.agg #[.bool b, .slice p l c]) z ∧ Below w.heap.size w w'
/-- two numbers and no error -/
def NumE2 (y z : Int) (w : World) (e : Ending) (w' : World) : Prop := ∃ (b : Bool) (p : Option Addr) (l c : Nat) (b2 : Bool) (p2 : Option Addr) (l2 c2 : Nat), e = .returned (.tuple #[.agg #[.bool b, .slice p l c], .agg #[.bool b2, .slice p2 l2 c2], .int .i64 0]) ∧ Wo w.heap.size w' (.agg #[.bool b, .slice p l c]) y ∧ Wo w.heap.size w' (.agg #[.bool b2, .slice p2 l2 c2]) z ∧ Below w.heap.size w w'
/-- a truth is answered -/
def BoolP (t : Bool) (w : World) (e : Ending) (w' : World) : Prop := e = .returned (.bool t) ∧ Below w.heap.size w w'

theorem Wn.form {n₀ : Nat} {W : World} {v : Value} {z : Int} (h : Wn n₀ W v z) : ∃ b p l c, v = .agg #[.bool b, .slice p l c] := by
  obtain ⟨sv, zs, rfl, hL, _⟩ := h
  obtain ⟨p, l, c, rfl⟩ := hL.form
  exact ⟨_, _, _, _, rfl⟩

/-- a number that stood, in a later world -/
theorem Wn.later {W W' : World} {v : Value} {z : Int} (h : Wn W.heap.size W v z) (hb : Below W.heap.size W W') : Wn W'.heap.size W' v z := (h.below hb).mono hb.size

theorem fit_num {a : Int} {w : World} {e : Ending} {w' : World} (hz : a.natAbs < Cap) (h : FitPost w.heap.size a w e w') : NumE a w e w' := by
  obtain ⟨b, p, l, c, er, rfl, hf, hb⟩ := h
  rcases hf with ⟨_, rfl, hO⟩ | ⟨h2, _⟩
  · exact ⟨b, p, l, c, rfl, hO, hb⟩
  · omega

theorem Add_fit (va vb : Value) (a b : Int) (w : World) (hA : Wn w.heap.size w va a) (hB : Wn w.heap.size w vb b) (hz : (a + b).natAbs < Cap) : Calls Tryd.prog 24 #[va, vb] w (NumE (a + b) w) :=
  (Add_ok va vb a b w hA hB).mono fun _ _ h => fit_num hz h
theorem Sub_fit (va vb : Value) (a b : Int) (w : World) (hA : Wn w.heap.size w va a) (hB : Wn w.heap.size w vb b) (hz : (a - b).natAbs < Cap) : Calls Tryd.prog 25 #[va, vb] w (NumE (a - b) w) :=
  (Sub_ok va vb a b w hA hB).mono fun _ _ h => fit_num hz h
theorem Mul_fit (va vb : Value) (a b : Int) (w : World) (hA : Wn w.heap.size w va a) (hB : Wn w.heap.size w vb b) (hz : (a * b).natAbs < Cap) : Calls Tryd.prog 26 #[va, vb] w (NumE (a * b) w) :=
  (Mul_ok va vb a b w hA hB).mono fun _ _ h => fit_num hz h

theorem DivMod_fit (va vb : Value) (a b q r : Int) (w : World) (hA : Wn w.heap.size w va a) (hB : Wn w.heap.size w vb b) (hb : b ≠ 0) (hf : Floor a b q r) : Calls Tryd.prog 32 #[va, vb] w (NumE2 q r w) := by
  refine (DivMod_ok va vb a b w hA hB hb).mono ?_
  rintro e w' ⟨b1, b2, p1, l1, c1, p2, l2, c2, q', r', rfl, hf', hq, hr, hb2⟩
  obtain ⟨rfl, rfl⟩ := hf.unique hb hf'
  exact ⟨b1, p1, l1, c1, b2, p2, l2, c2, rfl, hq, hr, hb2⟩

theorem Gcd_fit (va vb : Value) (a b : Int) (w : World) (hA : Wn w.heap.size w va a) (hB : Wn w.heap.size w vb b) : Calls Tryd.prog 14 #[va, vb] w (NumE (Int.gcd a b) w) := by
  refine (Gcd_ok va vb a b w hA hB).mono ?_
  rintro e w' ⟨b2, p, l, c, rfl, hO, hb⟩
  exact ⟨b2, p, l, c, rfl, hO, hb⟩

theorem Valid_num (va : Value) (a : Int) (w : World) (hA : Wn w.heap.size w va a) : Calls Tryd.prog 15 #[va] w (BoolP true w) := by
  obtain ⟨zs, hr, hR, hc, hlen, hok⟩ := hA.raw
  refine (Valid_any va _ zs w hr (by omega)).mono ?_
  rintro e w' ⟨rfl, hb⟩
  exact ⟨by rw [hok], hb⟩

theorem same_num {a b : Int} {A B : List Int} (hA : Rep A a.natAbs) (hB : Rep B b.natAbs) : (decide (a < 0) == decide (b < 0) && decide (A = B)) = decide (a = b) := by
  by_cases h : a = b
  · subst h
    have : A = B := hA.unique hB
    subst this
    simp
  · rw [decide_eq_false h]
    by_cases h1 : A = B
    · subst h1
      have e : (a.natAbs : Int) = b.natAbs := by rw [← hA.eq, ← hB.eq]
      have h2 : decide (a < 0) ≠ decide (b < 0) := by
        intro h3
        by_cases ha : a < 0
        · rw [decide_eq_true ha] at h3
          have := of_decide_eq_true h3.symm
          omega
        · rw [decide_eq_false ha] at h3
          have := of_decide_eq_false h3.symm
          omega
      rw [beq_eq_false_iff_ne.2 h2, Bool.false_and]
    · rw [decide_eq_false h1, Bool.and_false]

theorem refSame_num (va vb : Value) (a b : Int) (w : World) (hA : Wn w.heap.size w va a) (hB : Wn w.heap.size w vb b) : Calls Tryd.prog 41 #[va, vb] w (BoolP (decide (a = b)) w) := by
  obtain ⟨A, ha, hRa, _, hla, _⟩ := hA.raw
  obtain ⟨B, hb, hRb, _, hlb, _⟩ := hB.raw
  refine (refSame_any va vb _ _ A B w (by omega) (by omega) ha hb).mono ?_
  rintro e w' ⟨rfl, hbl⟩
  exact ⟨by rw [same_num hRa hRb], hbl⟩
theorem Same_num (va vb : Value) (a b : Int) (w : World) (hA : Wn w.heap.size w va a) (hB : Wn w.heap.size w vb b) : Calls Tryd.prog 37 #[va, vb] w (BoolP (decide (a = b)) w) := by
  obtain ⟨A, ha, hRa, _, hla, _⟩ := hA.raw
  obtain ⟨B, hb, hRb, _, hlb, _⟩ := hB.raw
  refine (Same_any va vb _ _ A B w (by omega) (by omega) ha hb).mono ?_
  rintro e w' ⟨rfl, hbl⟩
  exact ⟨by rw [same_num hRa hRb], hbl⟩

set_option maxRecDepth 100000 in
set_option maxHeartbeats 1000000 in
theorem num_ok (k : Int) (w : World) (h0 : -9223372036854775808 ≤ k) (h1 : k < 9223372036854775808) : Calls Tryd.prog 20 #[.int .i64 k] w (NumP k w) := by
  obtain ⟨w1, hw1⟩ : ∃ w1, w1 = w.alloc (.cells #[.bool false, .slice none 0 0] 24) := ⟨_, rfl⟩
  have hB1 : Below w.heap.size w w1 := by rw [hw1]; exact (Below.refl _ w).alloc (Nat.le_refl _) _
  have hs1 : w1.heap.size = w.heap.size + 1 := by rw [hw1]; simp
  have q0 : w1.heap[w.heap.size]? = some (.cells #[.bool false, .slice none 0 0] 24) := by rw [hw1]; exact alloc_new _ _ rfl
  have hcall := FromInt_any k w1 h0 h1
  have HW := Lib.hid hw1
  clear hw1 h0 h1
  go_enter Tryd.func20, Tryd.ntmps20
  go_wp2_with (go_at_call 42; rw [← HW.out]; refine hcall.mono ?_; rintro e w2 ⟨b, p, l, c, rfl, hO, hb2⟩; have p0 := (hb2.block _ (show w.heap.size < w1.heap.size by omega)).trans q0; have c0 := cell_of p0 0 rfl; have c1 := cell_of p0 1 rfl; have f0 := frozen_of p0 0; have f1 := frozen_of p0 1)
  obtain ⟨t0, t1⟩ := put2_cell p0 (.bool b) (.slice p l c)
  have hO2 := hO.put2 p0 (by decide) (.bool b) (.slice p l c)
  exact bodyPost_ret (v := .agg #[.bool b, .slice p l c]) (by simp [results, Tryd.results20, go_sem, show (w2.setCell ⟨w.heap.size, 0, none⟩ (.bool b)).setCell ⟨w.heap.size, 1, none⟩ (.slice p l c) = put2 w2 w.heap.size (.bool b) (.slice p l c) from rfl, t0, t1]) rfl ⟨b, p, l, c, rfl, hO2.mono hB1.size, (hB1.trans (hb2.mono hB1.size)).trans ((put2_only _ _ _ _).below (Nat.le_refl _))⟩

end Go.Proofs.YtbaiohjladddlaaDoor
