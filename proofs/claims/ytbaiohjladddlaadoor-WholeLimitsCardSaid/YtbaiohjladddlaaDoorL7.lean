import Derived.Test.YtbaiohjladddlaaDoorL6
/- The laws: how long numbers are; usable at one, two and three numbers; equal where they are. -/
namespace Go.Proofs.YtbaiohjladddlaaDoor
open Go.RowKit Go.WM Go.WR
attribute [local go_sem] Oper.semAt_some

/-- at most so long: 100 limbs are one measure -/
def Msr : Nat := 65536 ^ 100
def Sz (j k : Nat) (z : Int) : Prop := z.natAbs < 2 ^ j * Msr ^ k

theorem Msr.pos : 0 < Msr := Nat.pow_pos (by decide)
theorem Sz.up {j k j' k' : Nat} {z : Int} (h : Sz j k z) (hj : j ≤ j') (hk : k ≤ k') : Sz j' k' z :=
  Nat.lt_of_lt_of_le h (Nat.mul_le_mul (Nat.pow_le_pow_right (by decide) hj) (Nat.pow_le_pow_right Msr.pos hk))
theorem Sz.add {j k : Nat} {x y : Int} (hx : Sz j k x) (hy : Sz j k y) : Sz (j + 1) k (x + y) := by
  unfold Sz at *
  have h := Int.natAbs_add_le x y
  rw [Nat.pow_succ, Nat.mul_comm (2 ^ j) 2, Nat.mul_assoc]
  omega
theorem Sz.sub {j k : Nat} {x y : Int} (hx : Sz j k x) (hy : Sz j k y) : Sz (j + 1) k (x - y) := by
  unfold Sz at *
  have h := Int.natAbs_sub_le x y
  rw [Nat.pow_succ, Nat.mul_comm (2 ^ j) 2, Nat.mul_assoc]
  omega
theorem Sz.mul {j k j' k' : Nat} {x y : Int} (hx : Sz j k x) (hy : Sz j' k' y) : Sz (j + j') (k + k') (x * y) := by
  unfold Sz at *
  rw [Int.natAbs_mul, Nat.pow_add, Nat.pow_add]
  have := Nat.mul_lt_mul'' hx hy
  have e : 2 ^ j * Msr ^ k * (2 ^ j' * Msr ^ k') = 2 ^ j * 2 ^ j' * (Msr ^ k * Msr ^ k') := by
    rw [Nat.mul_assoc, Nat.mul_assoc, Nat.mul_left_comm (Msr ^ k)]
  omega
theorem Sz.lit {z : Int} (h : z.natAbs ≤ 1) : Sz 1 0 z := by unfold Sz; simp; omega
theorem msr_gen (k m : Nat) : 2 ^ 16 * (65536 ^ k) ^ m = 65536 ^ (k * m + 1) := by
  rw [← Nat.pow_mul, Nat.pow_add, Nat.pow_one, Nat.mul_comm]
theorem cap_gen {z k m c : Nat} (h : z < 2 ^ 16 * (65536 ^ k) ^ m) (hc : k * m + 1 ≤ c) : z < 65536 ^ c := by
  rw [msr_gen] at h
  exact Nat.lt_of_lt_of_le h (Nat.pow_le_pow_right (by decide) hc)
theorem Sz.cap {j k : Nat} {z : Int} (h : Sz j k z) (hj : j ≤ 16) (hk : k ≤ 10) : z.natAbs < Cap := by
  have h1 := h.up hj hk
  have h2 := cap_gen (c := 1024) h1 (by decide)
  rw [Cap.eq, ← np65]
  exact Int.ofNat_lt.2 h2

/-- a number that is known to be valid and not too long -/
theorem num_of_ok {n₀ : Nat} {W : World} {v : Value} {ng : Bool} {zs : List Int} (m : Nat) (h : Wr n₀ W v ng zs) (hl : zs.length ≤ 100 * m) (hok : okB ng zs = true) (hlm : Lm zs) : ∃ z : Int, Wn n₀ W v z ∧ Sz 0 m z := by
  obtain ⟨sv, rfl, hL⟩ := h
  obtain ⟨h1, h2, h3⟩ := okB_true hok
  have hR : Rep zs (val zs) := ⟨hlm, h2, rfl⟩
  have hp := hR.pos
  have hn := hR.nonneg
  refine ⟨sgn ng (val zs), ⟨sv, zs, ?_, hL, ?_, ?_⟩, ?_⟩
  · rw [sgn_neg ng hR]
    congr 2
    cases ng with
    | false => rfl
    | true =>
      have : 0 < zs.length := by
        rcases Nat.eq_zero_or_pos zs.length with e | e
        · have := h3 (List.length_eq_zero_iff.1 e); cases this
        · exact e
      rw [decide_eq_true this]; rfl
  · rw [sgn_abs ng hR]; exact hR
  · rw [sgn_abs ng hR]; exact hR.cap.1 h1
  · unfold Sz
    have h4 : val zs < 65536 ^ (100 * m) := (hR.len_le_iff _).1 hl
    have e := sgn_abs ng hR
    have e2 := np65 (100 * m)
    rw [← e2] at h4
    rw [Nat.pow_zero, Nat.one_mul]
    unfold Msr
    rw [← Nat.pow_mul]
    generalize 65536 ^ (100 * m) = q at *
    omega

/-- usable at one number -/
theorem usable1 (g most : Nat) (na : Bool) (sa : Value) (A : List Int) (w : World) (hg : g < w.heap.size) (hmost : most ≤ 4294967296) (hA : A.length ≤ 140737488355328)
    (c : w.heap[g]? = some (.cells #[.bool na, sa] 24)) (hLa : Lims w.heap.size w sa A) (ok : Bool) (hok : ok = true ↔ A.length ≤ most ∧ okB na A = true) :
    Calls Tryd.prog 13 #[.int .i64 most, .slice (some ⟨g, 0, none⟩) 1 1] w (BoolP ok w) :=
  usable_any g 1 most (fun _ => na) (fun _ => sa) (fun _ => A) w hg (by omega) hmost (fun _ _ => hA)
    (fun j hj => by obtain rfl : j = 0 := by omega
                    exact cell_of c 0 rfl) (fun j hj => by obtain rfl : j = 0 := by omega
                                                           exact cell_of c 1 rfl) (fun _ _ => hLa) ok (hok.trans ⟨fun h _ _ => h, fun h => h 0 (by omega)⟩)

/-- usable at two numbers -/
theorem usable2 (g most : Nat) (na nb : Bool) (sa sb : Value) (A B : List Int) (w : World) (hg : g < w.heap.size) (hmost : most ≤ 4294967296) (hA : A.length ≤ 140737488355328) (hB : B.length ≤ 140737488355328)
    (c : w.heap[g]? = some (.cells #[.bool na, sa, .bool nb, sb] 24)) (hLa : Lims w.heap.size w sa A) (hLb : Lims w.heap.size w sb B) (ok : Bool) (hok : ok = true ↔ (A.length ≤ most ∧ okB na A = true) ∧ (B.length ≤ most ∧ okB nb B = true)) :
    Calls Tryd.prog 13 #[.int .i64 most, .slice (some ⟨g, 0, none⟩) 2 2] w (BoolP ok w) := by
  have two : ∀ j, j < 2 → j = 0 ∨ j = 1 := fun j hj => by omega
  refine usable_any g 2 most (fun j => bif j == 0 then na else nb) (fun j => bif j == 0 then sa else sb) (fun j => bif j == 0 then A else B) w hg (by omega) hmost
    (fun j hj => by rcases two j hj with rfl | rfl <;> assumption) (fun j hj => by
      rcases two j hj with rfl | rfl
      · exact cell_of c 0 rfl
      · exact cell_of c 2 rfl) (fun j hj => by
      rcases two j hj with rfl | rfl
      · exact cell_of c 1 rfl
      · exact cell_of c 3 rfl) (fun j hj => by rcases two j hj with rfl | rfl <;> assumption) ok (hok.trans ?_)
  exact ⟨fun ⟨h0, h1⟩ j hj => by rcases two j hj with rfl | rfl <;> assumption, fun h => ⟨h 0 (by omega), h 1 (by omega)⟩⟩

/-- usable at three numbers -/
theorem usable3 (g most : Nat) (na nb nc : Bool) (sa sb sc : Value) (A B C : List Int) (w : World) (hg : g < w.heap.size) (hmost : most ≤ 4294967296) (hA : A.length ≤ 140737488355328) (hB : B.length ≤ 140737488355328) (hC : C.length ≤ 140737488355328)
    (c : w.heap[g]? = some (.cells #[.bool na, sa, .bool nb, sb, .bool nc, sc] 24)) (hLa : Lims w.heap.size w sa A) (hLb : Lims w.heap.size w sb B) (hLc : Lims w.heap.size w sc C) (ok : Bool)
    (hok : ok = true ↔ (A.length ≤ most ∧ okB na A = true) ∧ (B.length ≤ most ∧ okB nb B = true) ∧ (C.length ≤ most ∧ okB nc C = true)) :
    Calls Tryd.prog 13 #[.int .i64 most, .slice (some ⟨g, 0, none⟩) 3 3] w (BoolP ok w) := by
  have three : ∀ j, j < 3 → j = 0 ∨ j = 1 ∨ j = 2 := fun j hj => by omega
  refine usable_any g 3 most (fun j => bif j == 0 then na else bif j == 1 then nb else nc) (fun j => bif j == 0 then sa else bif j == 1 then sb else sc) (fun j => bif j == 0 then A else bif j == 1 then B else C) w hg (by omega) hmost
    (fun j hj => by rcases three j hj with rfl | rfl | rfl <;> assumption) (fun j hj => by
      rcases three j hj with rfl | rfl | rfl
      · exact cell_of c 0 rfl
      · exact cell_of c 2 rfl
      · exact cell_of c 4 rfl) (fun j hj => by
      rcases three j hj with rfl | rfl | rfl
      · exact cell_of c 1 rfl
      · exact cell_of c 3 rfl
      · exact cell_of c 5 rfl) (fun j hj => by rcases three j hj with rfl | rfl | rfl <;> assumption) ok (hok.trans ?_)
  exact ⟨fun ⟨h0, h1, h2⟩ j hj => by rcases three j hj with rfl | rfl | rfl <;> assumption, fun h => ⟨h 0 (by omega), h 1 (by omega), h 2 (by omega)⟩⟩

theorem equal_true (va vb : Value) (a b : Int) (w : World) (hA : Wn w.heap.size w va a) (hB : Wn w.heap.size w vb b) (h : a = b) : Calls Tryd.prog 18 #[va, vb] w (BoolP true w) :=
  (equal_ok va vb a b w hA hB).mono fun _ _ ⟨he, hb⟩ => ⟨by rw [he, decide_eq_true h], hb⟩

end Go.Proofs.YtbaiohjladddlaaDoor
