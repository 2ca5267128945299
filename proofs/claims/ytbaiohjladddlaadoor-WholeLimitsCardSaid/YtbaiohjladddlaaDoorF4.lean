import Derived.Test.YtbaiohjladddlaaDoorF3
import Derived.Test.YtbaiohjladddlaaDoorW32
import Derived.Test.YtbaiohjladddlaaDoorW30
/- Operations on strings, in a region that draws its order. -/
namespace Go.Proofs.YtbaiohjladddlaaDoor
open Go.RowKit Go.WM Go.WR
attribute [local go_sem] Oper.semAt_some
variable {n : Nat}




theorem opLenS {o : Oper} {a : Act} {w : World} {R : Value → World → Prop} {x : Operand} {s : ByteArray} (ho : o.op = .call { callee := .builtin .len, args := #[x], argTypes := #[9] }) (hx : a.eval x = .string s) (hr : R (.int .i64 s.size) w) : Op1 n Tryd.prog o a w R := by
  refine Op1.of_run ?_ hr
  unfold execOp
  rw [ho]
  cases x <;> simp only [Act.eval] at hx <;> simp [go_sem, hx]
theorem opIndexS {o : Oper} {a : Act} {w : World} {R : Value → World → Prop} {x : Operand} {s : ByteArray} {c : UInt8} (ho : o.op = .index 9 x (.const (.int .i64 0))) (hx : a.eval x = .string s) (hc : s.data.toList.head? = some c) (hr : R (.int .u8 c.toNat) w) : Op1 n Tryd.prog o a w R := by
  refine Op1.of_run ?_ hr
  unfold execOp
  rw [ho]
  obtain ⟨⟨l⟩⟩ := s
  cases l with
  | nil => cases hc
  | cons b l =>
    cases hc
    have hp : 0 < (ByteArray.mk ⟨c :: l⟩).size := by rw [Lib.size_eq]; simp
    simp only [hx]
    simp [go_sem, hp]
    rfl
theorem opEql5 {o : Oper} {a : Act} {w : World} {R : Value → World → Prop} {x y : Operand} {p q : Int} (ho : o.op = .binOp .eql 5 x y 5) (hx : a.eval x = .int .u8 p) (hy : a.eval y = .int .u8 q) (hr : R (.bool (p == q)) w) : Op1 n Tryd.prog o a w R := by
  refine Op1.of_run (v := .bool (p == q)) ?_ hr
  unfold execOp
  rw [ho]
  simp only [hx, hy]
  simp [go_sem]

theorem digs_ne {l : List UInt8} (h : l.all isDig = true) : pneg l = false ∧ pbody l = l := by
  cases l with
  | nil => exact ⟨rfl, rfl⟩
  | cons c l =>
    have hd : isDig c = true := by
      simp only [List.all_cons, Bool.and_eq_true] at h
      exact h.1
    have hc : c ≠ 45 := by
      intro e
      rw [e] at hd
      exact absurd hd (by decide)
    have e : ((45 : UInt8) == c) = false := beq_eq_false_iff_ne.2 (fun h => hc h.symm)
    constructor
    · show ((45 : UInt8) == c && List.isPrefixOf [] l) = false
      rw [e]; rfl
    · show (if ((45 : UInt8) == c && List.isPrefixOf [] l) = true then (c :: l).drop 1 else c :: l) = c :: l
      rw [e]; rfl
theorem minus_ne (l : List UInt8) : pneg (45 :: l) = true ∧ pbody (45 :: l) = l := by
  constructor
  · unfold pneg Lib.hasPrefix; simp
  · unfold pbody Lib.trimPrefix Lib.hasPrefix; simp

theorem parse_sd (neg : Bool) (l : List UInt8) (h : decOK l = true) (hn : neg = true → l ≠ [48]) : parseOK ((if neg = true then [45] else []) ++ l) = true ∧ parseZ ((if neg = true then [45] else []) ++ l) = sgn neg (dv l) := by
  unfold parseOK parseZ
  cases neg with
  | false =>
    obtain ⟨h1, h2⟩ := digs_ne (dec_all h)
    have e0 : (if false = true then ([45] : List UInt8) else []) ++ l = l := by simp
    rw [e0, h1, h2, h]
    exact ⟨rfl, rfl⟩
  | true =>
    obtain ⟨h1, h2⟩ := minus_ne l
    have e0 : (if true = true then ([45] : List UInt8) else []) ++ l = 45 :: l := by simp
    rw [e0, h1, h2, h]
    exact ⟨by simp [hn rfl], rfl⟩

theorem dd_pos {n : Nat} (h : 0 < n) : Lib.decDigits n ≠ [48] := fun e => decDigits_head n h (by rw [e]; rfl)

theorem parse_itoa (z : Int) : parseOK (Lib.itoa z) = true ∧ parseZ (Lib.itoa z) = z := by
  rw [itoa_sign]
  obtain ⟨h1, h2⟩ := parse_sd (decide (z < 0)) (Lib.decDigits z.natAbs) (decOK_digits _) (fun h => dd_pos (by have := of_decide_eq_true h; omega))
  refine ⟨h1, h2.trans ?_⟩
  rw [dv_decDigits]
  by_cases h : z < 0
  · rw [decide_eq_true h, sgn_true]; omega
  · rw [decide_eq_false h, sgn_false]; omega

theorem parse_more {z : Int} (h0 : z ≠ 0) {c : UInt8} {d : Nat} (hd : d < 10) (hc : c.toNat = 48 + d) : parseOK (Lib.itoa z ++ [c]) = true ∧ parseZ (Lib.itoa z ++ [c]) = z * 10 + sgn (decide (z < 0)) d := by
  rw [itoa_sign, List.append_assoc]
  have hne := decDigits_ne z.natAbs
  have hh : decOK (Lib.decDigits z.natAbs ++ [c]) = true := by
    have h1 : (Lib.decDigits z.natAbs ++ [c]).all isDig = true := by
      rw [List.all_append, decDigits_all]
      have : isDig c = true := by unfold isDig; simp [UInt8.le_iff_toNat_le, hc]; omega
      simp [this]
    rw [decOK_all h1]
    have h2 : (Lib.decDigits z.natAbs ++ [c]).head? ≠ some 48 := by
      have := decDigits_head z.natAbs (by omega)
      cases hl : Lib.decDigits z.natAbs with
      | nil => exact absurd hl hne
      | cons b l => rw [hl] at this; simpa using this
    have h3 : (Lib.decDigits z.natAbs ++ [c]).isEmpty = false := by simp
    rw [h3, decide_eq_false h2]; simp
  obtain ⟨h1, h2⟩ := parse_sd (decide (z < 0)) (Lib.decDigits z.natAbs ++ [c]) hh (fun _ e => by
    have h3 : (Lib.decDigits z.natAbs ++ [c]).length = 1 := by rw [e]; rfl
    rw [List.length_append, List.length_singleton] at h3
    have h4 := List.length_pos_iff.2 hne
    omega)
  refine ⟨h1, h2.trans ?_⟩
  rw [dv_snoc, dv_decDigits, hc]
  by_cases h : z < 0
  · rw [decide_eq_true h, sgn_true, sgn_true]; omega
  · rw [decide_eq_false h, sgn_false, sgn_false]; omega

theorem itoa_parse {T : List UInt8} (h : parseOK T = true) : Lib.itoa (parseZ T) = T := by
  unfold parseOK at h
  rw [Bool.and_eq_true] at h
  obtain ⟨h1, h2⟩ := h
  have hu := decOK_unique _ h1
  unfold parseZ
  by_cases hn : pneg T = true
  · have e : T = 45 :: pbody T := by
      unfold pneg Lib.hasPrefix at hn
      cases T with
      | nil => simp at hn
      | cons c l =>
        have : 45 = c := by simpa using hn
        subst this
        rw [(minus_ne l).2]
    have h0 : 0 < dv (pbody T) := by
      rcases Nat.eq_zero_or_pos (dv (pbody T)) with e0 | e0
      · rw [e0, Lib.decDigits_one (by decide)] at hu
        have : pbody T = [48] := hu.symm
        rw [hn, this] at h2
        simp at h2
      · exact e0
    rw [hn, sgn_true, itoa_sign, decide_eq_true (by omega), if_pos rfl, show (-(dv (pbody T) : Int)).natAbs = dv (pbody T) by omega, hu]
    exact e.symm
  · have hn' : pneg T = false := by simpa using hn
    have e : pbody T = T := by
      unfold pbody Lib.trimPrefix
      rw [if_neg (by unfold pneg at hn; exact hn)]
    rw [hn', sgn_false, itoa_sign, decide_eq_false (by omega), if_neg (by decide), Int.natAbs_natCast, hu, List.nil_append, e]

theorem itoa_len {z : Int} (h : Sz 0 1 z) : (Lib.itoa z).length ≤ 502 := by
  rw [itoa_sign, List.length_append, Lib.decDigits_length]
  have h1 : (if decide (z < 0) = true then ([45] : List UInt8) else []).length ≤ 1 := by split <;> simp
  have h2 : Lib.nDigits z.natAbs ≤ 501 := by
    rcases Nat.eq_zero_or_pos z.natAbs with e | e
    · rw [e, Lib.nDigits_small (by decide)]; decide
    · have h3 := pow_nDigits z.natAbs e
      have h4 : z.natAbs < 65536 ^ 100 := by unfold Sz Msr at h; simpa using h
      have h5 : (65536 : Nat) ^ 100 ≤ (10 ^ 5) ^ 100 := Nat.pow_le_pow_left (by decide) 100
      rw [← Nat.pow_mul] at h5
      have h6 : 10 ^ (Lib.nDigits z.natAbs - 1) < 10 ^ (5 * 100) := Nat.lt_of_le_of_lt h3 (Nat.lt_of_lt_of_le h4 h5)
      have := (Nat.pow_lt_pow_iff_right (by decide : 1 < 10)).1 h6
      omega
  omega

theorem itoa_head (z : Int) : ∃ c, (Lib.itoa z).head? = some c ∧ ((c.toNat : Int) == 45) = decide (z < 0) := by
  rw [itoa_sign]
  by_cases h : z < 0
  · rw [decide_eq_true h, if_pos rfl]
    exact ⟨45, rfl, rfl⟩
  · rw [decide_eq_false h, if_neg (by decide), List.nil_append]
    have h1 := decDigits_all z.natAbs
    cases hl : Lib.decDigits z.natAbs with
    | nil => exact absurd hl (decDigits_ne _)
    | cons c l =>
      refine ⟨c, rfl, ?_⟩
      rw [hl] at h1
      simp only [List.all_cons, Bool.and_eq_true] at h1
      have h2 := h1.1
      unfold isDig at h2
      simp [UInt8.le_iff_toNat_le] at h2
      rw [beq_eq_false_iff_ne]
      omega

theorem small_gen {n l k m : Nat} (h : n < 10 ^ l) (hl : l ≤ k * m) : n < (65536 ^ k) ^ m := by
  rw [← Nat.pow_mul]
  exact Nat.lt_of_lt_of_le h (Nat.le_trans (pow10_le _) (Nat.pow_le_pow_right (by decide) hl))

theorem parse_small {T : List UInt8} (h : parseOK T = true) (hl : T.length ≤ 400) : Sz 0 4 (parseZ T) := by
  have h1 : decOK (pbody T) = true := by unfold parseOK at h; rw [Bool.and_eq_true] at h; exact h.1
  have h3 := pbody_len T
  have h5 : (pbody T).length ≤ 100 * 4 := by omega
  have h4 := small_gen (dv_lt _ (dec_all h1)) h5
  unfold Sz Msr parseZ
  rw [Nat.pow_zero, Nat.one_mul]
  cases pneg T
  · rw [sgn_false, Int.natAbs_natCast]; exact h4
  · rw [sgn_true, Int.natAbs_neg, Int.natAbs_natCast]; exact h4

theorem Parse_fit (tx : ByteArray) (z : Int) (w : World) (ht : tx.size ≤ 9223372036854775806) (hok : parseOK tx.data.toList = true) (hz : parseZ tx.data.toList = z) (hc : z.natAbs < Cap) : Calls Tryd.prog 22 #[.string tx] w (NumE z w) := by
  refine (Parse_main tx w ht).mono ?_
  rintro e w' (⟨_, h⟩ | ⟨h, _⟩)
  · rw [hz] at h; exact fit_num hc h
  · rw [hok] at h; cases h

theorem Parse_no (tx : ByteArray) (w : World) (ht : tx.size ≤ 9223372036854775806) (hok : parseOK tx.data.toList = false) : Calls Tryd.prog 22 #[.string tx] w fun e w' => e = .returned (.tuple #[.agg #[.bool false, .slice none 0 0], .int .i64 10]) ∧ Below w.heap.size w w' := by
  refine (Parse_main tx w ht).mono ?_
  rintro e w' (⟨h, _⟩ | ⟨_, h⟩)
  · rw [hok] at h; cases h
  · exact h

end Go.Proofs.YtbaiohjladddlaaDoor
