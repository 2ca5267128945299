import Derived.Test.YtbaiohjladddlaaDoorL7
/- More operations of a law's region that draws its order. -/
namespace Go.Proofs.YtbaiohjladddlaaDoor
open Go.RowKit Go.WM Go.WR
attribute [local go_sem] Oper.semAt_some

variable {n : Nat}

theorem opSub3 {o : Oper} {a : Act} {w : World} {R : Value → World → Prop} {x y : Operand} {p q : Int} (ho : o.op = .binOp .sub 3 x y 3) (hx : a.eval x = .int .i64 p) (hy : a.eval y = .int .i64 q) (h0 : -9223372036854775808 ≤ p - q) (h1 : p - q ≤ 9223372036854775807) (hr : R (.int .i64 (p - q)) w) : Op1 n Tryd.prog o a w R := by
  have e : IntKind.i64.wrap (p - q) = p - q := IntWalk.i64_in _ (by omega)
  refine Op1.of_run (v := .int .i64 (p - q)) ?_ hr
  unfold execOp
  rw [ho]
  simp only [hx, hy]
  simp [go_sem, e]
theorem opQuo3 {o : Oper} {a : Act} {w : World} {R : Value → World → Prop} {x y : Operand} {p q k : Int} (ho : o.op = .binOp .quo 3 x y 3) (hx : a.eval x = .int .i64 p) (hy : a.eval y = .int .i64 q) (hq : q ≠ 0) (hk : p.tdiv q = k) (h0 : -9223372036854775808 ≤ k) (h1 : k ≤ 9223372036854775807) (hr : R (.int .i64 k) w) : Op1 n Tryd.prog o a w R := by
  have e : IntKind.i64.wrap k = k := IntWalk.i64_in _ (by omega)
  refine Op1.of_run (v := .int .i64 k) ?_ hr
  unfold execOp
  rw [ho]
  simp only [hx, hy]
  simp [go_sem, e, hq, hk]

theorem opField {o : Oper} {a : Act} {w : World} {R : Value → World → Prop} {x : Operand} {B k : Nat} (hk : k < 2) (ho : o.op = .fieldAddr 24 x k) (hx : a.eval x = .pointer (some ⟨B, 0, none⟩)) (hr : R (.pointer (some ⟨B, k, none⟩)) w) : Op1 n Tryd.prog o a w R := by
  refine Op1.of_run ?_ hr
  unfold execOp
  rw [ho]
  simp only [hx]
  match k, hk with
  | 0, _ => simp [go_sem]
  | 1, _ => simp [go_sem]
theorem opLoad22 {o : Oper} {a : Act} {w : World} {R : Value → World → Prop} {x : Operand} {B : Nat} {u v : Value} (ho : o.op = .load 22 x) (hx : a.eval x = .pointer (some ⟨B, 1, none⟩)) (hb : w.heap[B]? = some (.cells #[u, v] 24)) (hr : R v w) : Op1 n Tryd.prog o a w R := by
  refine Op1.of_run ?_ hr
  have c1 := cell_of hb 1 rfl
  unfold execOp
  rw [ho]
  simp only [hx]
  simp [go_sem, c1]
theorem opLoad4 {o : Oper} {a : Act} {w : World} {R : Value → World → Prop} {x : Operand} {B : Nat} {u v : Value} (ho : o.op = .load 4 x) (hx : a.eval x = .pointer (some ⟨B, 0, none⟩)) (hb : w.heap[B]? = some (.cells #[u, v] 24)) (hr : R u w) : Op1 n Tryd.prog o a w R := by
  refine Op1.of_run ?_ hr
  have c1 := cell_of hb 0 rfl
  unfold execOp
  rw [ho]
  simp only [hx]
  simp [go_sem, c1]
theorem opBuild1 {o : Oper} {a : Act} {w : World} {R : Value → World → Prop} {x : Operand} {p : Option Addr} {l c : Nat} (ho : o.op = .build 24 #[(1, x)]) (hx : a.eval x = .slice p l c) (hr : R (.agg #[.bool false, .slice p l c]) w) : Op1 n Tryd.prog o a w R := by
  refine Op1.of_run ?_ hr
  unfold execOp
  rw [ho]
  cases x with
  | tmp t =>
    simp only [Act.eval, Array.getD_eq_getD_getElem?] at hx
    simp [go_sem, hx]
  | const v => simp only [Act.eval] at hx; subst hx; simp [go_sem]
  | global g => simp only [Act.eval] at hx; cases hx
  | func f => simp only [Act.eval] at hx; cases hx
theorem opBuild0 {o : Oper} {a : Act} {w : World} {R : Value → World → Prop} (ho : o.op = .build 24 #[]) (hr : R (.agg #[.bool false, .slice none 0 0]) w) : Op1 n Tryd.prog o a w R := by
  refine Op1.of_run ?_ hr
  unfold execOp
  rw [ho]
  simp [go_sem]
theorem opLen {o : Oper} {a : Act} {w : World} {R : Value → World → Prop} {x : Operand} {p : Option Addr} {l c : Nat} (ho : o.op = .call { callee := .builtin .len, args := #[x], argTypes := #[22] }) (hx : a.eval x = .slice p l c) (hr : R (.int .i64 l) w) : Op1 n Tryd.prog o a w R := by
  refine Op1.of_run ?_ hr
  unfold execOp
  rw [ho]
  cases x <;> simp only [Act.eval] at hx <;> simp [go_sem, hx]

theorem Wn.sign {n₀ : Nat} {W : World} {b : Bool} {x : Value} {z : Int} (h : Wn n₀ W (.agg #[.bool b, x]) z) : b = decide (z < 0) := by
  obtain ⟨sv, zs, e, _⟩ := h
  simp only [Value.agg.injEq, Array.mk.injEq, List.cons.injEq, Value.bool.injEq] at e
  exact e.1
theorem Wn.abs {n₀ : Nat} {W : World} {b : Bool} {x : Value} {z : Int} (h : Wn n₀ W (.agg #[.bool b, x]) z) : Wn n₀ W (.agg #[.bool false, x]) (z.natAbs : Int) := by
  obtain ⟨sv, zs, e, hL, hR, hc⟩ := h
  simp only [Value.agg.injEq, Array.mk.injEq, List.cons.injEq, Value.bool.injEq, and_true] at e
  obtain ⟨_, rfl⟩ := e
  exact ⟨x, zs, by rw [decide_eq_false (by omega)], hL, by simpa using hR, by simpa using hc⟩
theorem Wn.len {n₀ : Nat} {W : World} {b : Bool} {p : Option Addr} {l c : Nat} {z : Int} (h : Wn n₀ W (.agg #[.bool b, .slice p l c]) z) : l = 0 ↔ z = 0 := by
  obtain ⟨sv, zs, e, hL, hR, hc⟩ := h
  simp only [Value.agg.injEq, Array.mk.injEq, List.cons.injEq, Value.bool.injEq, and_true] at e
  obtain ⟨_, rfl⟩ := e
  have hl := hL.cells.1
  constructor
  · intro h0
    have : zs = [] := List.eq_nil_of_length_eq_zero (by omega)
    subst this
    have := hR.zero_iff.1 rfl
    omega
  · intro h0
    subst h0
    have := hR.zero_iff.2 rfl
    subst this
    simpa using hl

end Go.Proofs.YtbaiohjladddlaaDoor
