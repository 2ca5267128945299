import Derived.Test.YtbaiohjladddlaaDoorL2
import Derived.Test.YtbaiohjladddlaaDoorF1
/- A law's region that draws its order: what each operation's slot holds, by kinds. -/
namespace Go.Proofs.YtbaiohjladddlaaDoor
open Go.RowKit Go.WM Go.WR
attribute [local go_sem] Oper.semAt_some

/-- a number of any length whose limbs are its own -/
def Wb (B : Nat) (W : World) (v : Value) (z : Int) : Prop := ∃ sv zs, v = .agg #[.bool (decide (z < 0)), sv] ∧ Own16 B W sv zs ∧ Rep zs z.natAbs

/-- what a slot holds -/
inductive Kd where
  | any
  | val (v : Value)
  | num (z : Int)
  | box (n₀ : Nat)
  | pair (z er : Int)
  | trip (y z er : Int)
  | row (B : Nat) (n : Int)
  | big (B : Nat) (z : Int)

def KV : Kd → Value → World → Prop
  | .any, _, _ => True
  | .val u, v, _ => v = u
  | .num z, v, W => Wn W.heap.size W v z
  | .box n₀, v, W => ∃ B, v = .pointer (some ⟨B, 0, none⟩) ∧ n₀ ≤ B ∧ W.heap[B]? = some (.cells #[.bool false, .slice none 0 0] 24)
  | .pair z er, v, W => ∃ x, v = .tuple #[x, .int .i64 er] ∧ Wn W.heap.size W x z
  | .trip y z er, v, W => ∃ x x', v = .tuple #[x, x', .int .i64 er] ∧ Wn W.heap.size W x y ∧ Wn W.heap.size W x' z
  | .row B n, v, W => ∃ zs, Own16 B W v zs ∧ Rep zs n
  | .big B z, v, W => Wb B W v z

theorem KV.later {k : Kd} {v : Value} {W W' : World} (hb : Below W.heap.size W W') (h : KV k v W) : KV k v W' := by
  cases k with
  | any => trivial
  | val u => exact h
  | num z => exact Wn.later h hb
  | box n₀ => exact let ⟨B, h1, h2, h3⟩ := h; ⟨B, h1, h2, (hb.block B (Array.getElem?_eq_some_iff.1 h3).1).trans h3⟩
  | pair z er => exact let ⟨x, h1, h2⟩ := h; ⟨x, h1, h2.later hb⟩
  | trip y z er => exact let ⟨x, x', h1, h2, h3⟩ := h; ⟨x, x', h1, h2.later hb, h3.later hb⟩
  | row B n => exact let ⟨zs, h1, h2⟩ := h; ⟨zs, h1.below hb, h2⟩
  | big B z => exact let ⟨sv, zs, h0, h1, h2⟩ := h; ⟨sv, zs, h0, h1.below hb, h2⟩

def kd (ks : List Kd) (i : Nat) : Kd := (ks[i]?).getD .any

theorem Tab.below' {w w' : World} (h : Tab w) (hb : Below w.heap.size w w') : Tab w' := Tab.below hb h

variable {n : Nat}

/-- what an operation meets at its turn -/
structure MeetsK (ops : Array Oper) (ks : List Kd) (ds : List (Nat × Nat)) (a a' : Act) (W : World) (o : Oper) : Prop where
  size : a'.tmps.size = a.tmps.size
  old : ∀ k, (ds.all fun p => p.2 != k) = true → a'.tmps.getD k undef = a.tmps.getD k undef
  dep : ∀ e ∈ o.after, Region.binds .any e = true → ∀ s, dstOf ops e.on = some s → KV (kd ks e.on) (a'.tmps.getD s undef) W

/-- what is owed of an operation -/
def StepK (n : Nat) (ops : Array Oper) (ks : List Kd) (i : Nat) (o : Oper) (a' : Act) (W : World) : Prop :=
  (Region.wanted o (yielded ops a'.tmps) = true ∧ Op1 n Tryd.prog o a' W (fun v W' => KV (kd ks i) v W' ∧ Below W.heap.size W W')) ∨
  (Region.wanted o (yielded ops a'.tmps) = false ∧ kd ks i = .any)

theorem region_kinds {id : Nat} {ops : Array Oper} {Q : Exit → Act → World → Prop} {a : Act} {w : World} (ks : List Kd) (ds : List (Nat × Nat))
    (hm : Tryd.prog.follows .mixedOrders = true) (hac : acyc ops = true) (hds : slotsOK ops a.tmps.size ds = true)
    (hstep : ∀ (i : Nat) (o : Oper), ops[i]? = some o → ∀ (a' : Act) (W : World), Below w.heap.size w W → MeetsK ops ks ds a a' W o → StepK n ops ks i o a' W)
    (hend : ∀ (u : Nat → Value) (W : World), Below w.heap.size w W → (∀ i s, dstOf ops i = some s → KV (kd ks i) (u i) W) → Q .normal ⟨putAll ds u a.tmps, a.defers⟩ W) :
    (Code.region id ops true).wp Tryd.prog Q a w := by
  refine (wpIn_wide (n := n)).1 ?_
  have hds' := hds
  simp only [slotsOK, Bool.and_eq_true, List.all_eq_true, decide_eq_true_eq] at hds'
  refine wpIn_region_vals ds (fun W => Below w.heap.size w W) (fun i => KV (kd ks i)) hm hac hds (Below.refl _ _).drew ?_ hend
  intro i o ho a' W hI hM
  have hM' : MeetsK ops ks ds a a' W o := ⟨hM.size, fun k hk => hM.old k (fun j hj => by
    have hi : j < ops.size := by
      apply Nat.lt_of_not_le
      intro hge
      unfold dstOf at hj
      rw [Array.getElem?_eq_none hge] at hj
      cases hj
    have h1 := hds'.1.1 j (List.mem_range.2 hi)
    rw [hj] at h1
    have h2 : (j, k) ∈ ds := by simp at h1; exact h1.1
    rw [List.all_eq_true] at hk
    have := hk _ h2
    simp at this), hM.dep⟩
  rcases hstep i o ho a' W hI hM' with ⟨h1, h2⟩ | ⟨h1, h2⟩
  · exact .inl ⟨h1, h2.mono fun v W' ⟨h3, h4⟩ => ⟨hI.trans (h4.mono hI.size), h3, fun j u hu => hu.later h4⟩⟩
  · refine .inr ⟨h1, ?_⟩
    show KV (kd ks i) undef W
    rw [h2]; trivial

/-- the same where the region ends in operations that wait for all others -/
theorem region_front {id : Nat} {ops : Array Oper} {Q : Exit → Act → World → Prop} {a : Act} {w : World} (m : Nat) (ks : List Kd) (ds : List (Nat × Nat))
    (hm : Tryd.prog.follows .mixedOrders = true) (hac : acyc ops = true) (hds : slotsOK (ops.extract 0 m) a.tmps.size ds = true) (htail : tailOK ops m = true) (hsz : m ≤ ops.size)
    (hstep : ∀ (i : Nat) (o : Oper), i < m → ops[i]? = some o → ∀ (a' : Act) (W : World), Below w.heap.size w W → MeetsK (ops.extract 0 m) ks ds a a' W o → (Region.wanted o (yielded ops a'.tmps) = true ∧ Op1 n Tryd.prog o a' W (fun v W' => KV (kd ks i) v W' ∧ Below W.heap.size W W')))
    (hend : ∀ (u : Nat → Value) (W : World), Below w.heap.size w W → (∀ i s, dstOf (ops.extract 0 m) i = some s → KV (kd ks i) (u i) W) → wpListIn Fence.wide n Tryd.prog ops Q (ops.toList.drop m) ⟨putAll ds u a.tmps, a.defers⟩ W) :
    (Code.region id ops true).wp Tryd.prog Q a w := by
  refine (wpIn_wide (n := n)).1 ?_
  have hds' := hds
  simp only [slotsOK, Bool.and_eq_true, List.all_eq_true, decide_eq_true_eq] at hds'
  refine wpIn_region_front m ds (fun W => Below w.heap.size w W) (fun i => KV (kd ks i)) hm hac hds htail hsz (Below.refl _ _).drew ?_ hend
  intro i o hi ho a' W hI hM
  have hM' : MeetsK (ops.extract 0 m) ks ds a a' W o := ⟨hM.size, fun k hk => hM.old k (fun j hj => by
    have hi : j < (ops.extract 0 m).size := by
      apply Nat.lt_of_not_le
      intro hge
      unfold dstOf at hj
      rw [Array.getElem?_eq_none hge] at hj
      cases hj
    have h1 := hds'.1.1 j (List.mem_range.2 hi)
    rw [hj] at h1
    have h2 : (j, k) ∈ ds := by simp at h1; exact h1.1
    rw [List.all_eq_true] at hk
    have := hk _ h2
    simp at this), hM.dep⟩
  obtain ⟨h1, h2⟩ := hstep i o hi ho a' W hI hM'
  exact .inl ⟨h1, h2.mono fun v W' ⟨h3, h4⟩ => ⟨hI.trans (h4.mono hI.size), h3, fun j u hu => hu.later h4⟩⟩

/-- a step that is wanted -/
theorem stepK_of {ops : Array Oper} {ks : List Kd} {i : Nat} {o : Oper} {a' : Act} {W : World} (hw : Region.wanted o (yielded ops a'.tmps) = true)
    (h : Op1 n Tryd.prog o a' W (fun v W' => KV (kd ks i) v W' ∧ Below W.heap.size W W')) : StepK n ops ks i o a' W := .inl ⟨hw, h⟩

theorem wantedK {ops : Array Oper} {ks : List Kd} {ds : List (Nat × Nat)} {a a' : Act} {W : World} {o : Oper} (hM : MeetsK ops ks ds a a' W o) {g s : Nat} {b : Bool} (ho : o.guard = some (g, b)) (hd : dstOf ops g = some s) (hk : KV (kd ks g) (a'.tmps.getD s undef) W)
    (hv : kd ks g = .val (.bool b)) (hs : s < a.tmps.size) : Region.wanted o (yielded ops a'.tmps) = true := by
  rw [hv] at hk
  rw [wanted_of ho hd hk (by rw [hM.size]; exact hs)]
  cases b <;> rfl

theorem unwantedK {ops : Array Oper} {ks : List Kd} {ds : List (Nat × Nat)} {a a' : Act} {W : World} {o : Oper} (hM : MeetsK ops ks ds a a' W o) {g s : Nat} {b c : Bool} (ho : o.guard = some (g, b)) (hd : dstOf ops g = some s) (hk : KV (kd ks g) (a'.tmps.getD s undef) W)
    (hv : kd ks g = .val (.bool c)) (hne : (c == b) = false) (hs : s < a.tmps.size) : Region.wanted o (yielded ops a'.tmps) = false := by
  rw [hv] at hk
  rw [wanted_of ho hd hk (by rw [hM.size]; exact hs)]
  exact hne

section
variable {P : Program} {o : Oper} {a : Act} {w : World} {R : Value → World → Prop}

theorem opMove {x : Operand} {v : Value} (ho : o.op = .move x) (hv : a.eval x = v) (hr : R v w) : Op1 n P o a w R :=
  Op1.of_run (by unfold execOp; rw [ho]; simp only [Sem.run_pure, hv]) hr
theorem opAssign {x : Operand} {v : Value} (ho : o.op = .assign x) (hv : a.eval x = v) (hr : R v w) : Op1 n P o a w R :=
  Op1.of_run (by unfold execOp; rw [ho]; simp only [Sem.run_pure, hv]) hr
theorem opPick {c x y : Operand} {t : Bool} {v : Value} (ho : o.op = .pick c x y) (hc : a.eval c = .bool t) (hv : (if t then a.eval x else a.eval y) = v) (hr : R v w) : Op1 n P o a w R :=
  Op1.of_run (by unfold execOp; rw [ho]; simp only [hc, asBool, Sem.run_bind, Sem.run_pure, Result.andThen_ok, hv]) hr
theorem opNot {x : Operand} {T : TypeId} {b : Bool} (ho : o.op = .unOp .not T x) (hx : a.eval x = .bool b) (hr : R (.bool (!b)) w) : Op1 n P o a w R :=
  Op1.of_run (by unfold execOp; rw [ho]; simp only [hx, Op.unary, Sem.run_bind, Sem.run_pure, Result.andThen_ok]) hr
theorem opCall {f : Nat} {fn : Func} {xs : Array Operand} {ts : Array TypeId} {vs : Array Value} (ho : o.op = .call { callee := .value (.func f), args := xs, argTypes := ts }) (hf : P.funcs[f]? = some fn) (hn : (fn.name == "runtime.NumGoroutine") = false) (hb : fn.body.isNone = false)
    (hv : xs.map a.eval = vs) (hc : Calls P f vs w fun e w' => ∃ v, e = .returned v ∧ R v w') : Op1 n P o a w R :=
  Op1.of_call (by rw [run_call ho rfl hf hn hb, hv]) hc
end

theorem cmpK {f : Nat} {vs : Array Value} {w : World} {z : Int} (h : Calls Tryd.prog f vs w fun e w' => e = .returned (.int .i64 z) ∧ Below w.heap.size w w') : Calls Tryd.prog f vs w fun e w' => ∃ v, e = .returned v ∧ KV (.val (.int .i64 z)) v w' ∧ Below w.heap.size w w' :=
  h.mono fun _ _ ⟨he, hb⟩ => ⟨_, he, rfl, hb⟩
theorem cmpK' {f : Nat} {vs : Array Value} {w : World} {z y : Int} (h : Calls Tryd.prog f vs w fun e w' => e = .returned (.int .i64 z) ∧ Below w.heap.size w w') (hy : z = y) : Calls Tryd.prog f vs w fun e w' => ∃ v, e = .returned v ∧ KV (.val (.int .i64 y)) v w' ∧ Below w.heap.size w w' :=
  h.mono fun _ _ ⟨he, hb⟩ => ⟨_, he, by rw [hy]; rfl, hb⟩
theorem boolK' {f : Nat} {vs : Array Value} {w : World} {t u : Bool} (h : Calls Tryd.prog f vs w (BoolP t w)) (hu : t = u) : Calls Tryd.prog f vs w fun e w' => ∃ v, e = .returned v ∧ KV (.val (.bool u)) v w' ∧ Below w.heap.size w w' :=
  h.mono fun _ _ ⟨he, hb⟩ => ⟨_, he, by rw [hu]; rfl, hb⟩

/-- a function that may be called -/
def MayCall (f : Nat) : Prop := ∃ fn, Tryd.prog.funcs[f]? = some fn ∧ (fn.name == "runtime.NumGoroutine") = false ∧ fn.body.isNone = false

theorem opCall0 {o : Oper} {a : Act} {w : World} {R : Value → World → Prop} {f : Nat} {ts : Array TypeId} (ho : o.op = .call { callee := .value (.func f), args := #[], argTypes := ts }) (hf : MayCall f) (hc : Calls Tryd.prog f #[] w fun e w' => ∃ v, e = .returned v ∧ R v w') : Op1 n Tryd.prog o a w R :=
  let ⟨_, h1, h2, h3⟩ := hf
  opCall ho h1 h2 h3 (by simp) hc
theorem opCall1 {o : Oper} {a : Act} {w : World} {R : Value → World → Prop} {f : Nat} {x : Operand} {u : Value} {ts : Array TypeId} (ho : o.op = .call { callee := .value (.func f), args := #[x], argTypes := ts }) (hf : MayCall f) (hx : a.eval x = u) (hc : Calls Tryd.prog f #[u] w fun e w' => ∃ v, e = .returned v ∧ R v w') : Op1 n Tryd.prog o a w R :=
  let ⟨_, h1, h2, h3⟩ := hf
  opCall ho h1 h2 h3 (by simp only [List.map_toArray, List.map_cons, List.map_nil, hx]) hc
theorem opCall2 {o : Oper} {a : Act} {w : World} {R : Value → World → Prop} {f : Nat} {x y : Operand} {u v : Value} {ts : Array TypeId} (ho : o.op = .call { callee := .value (.func f), args := #[x, y], argTypes := ts }) (hf : MayCall f) (hx : a.eval x = u) (hy : a.eval y = v) (hc : Calls Tryd.prog f #[u, v] w fun e w' => ∃ v, e = .returned v ∧ R v w') : Op1 n Tryd.prog o a w R :=
  let ⟨_, h1, h2, h3⟩ := hf
  opCall ho h1 h2 h3 (by simp only [List.map_toArray, List.map_cons, List.map_nil, hx, hy]) hc

theorem numK {f : Nat} {vs : Array Value} {w : World} {z : Int} (h : Calls Tryd.prog f vs w (NumP z w)) : Calls Tryd.prog f vs w fun e w' => ∃ v, e = .returned v ∧ KV (.num z) v w' ∧ Below w.heap.size w w' :=
  h.mono fun _ _ ⟨_, _, _, _, he, hO, hb⟩ => ⟨_, he, hO.num, hb⟩
theorem boolK {f : Nat} {vs : Array Value} {w : World} {t : Bool} (h : Calls Tryd.prog f vs w (BoolP t w)) : Calls Tryd.prog f vs w fun e w' => ∃ v, e = .returned v ∧ KV (.val (.bool t)) v w' ∧ Below w.heap.size w w' :=
  h.mono fun _ _ ⟨he, hb⟩ => ⟨_, he, rfl, hb⟩

theorem opLoad {o : Oper} {a : Act} {w : World} {R : Value → World → Prop} {x : Operand} {B : Nat} {u v : Value} (ho : o.op = .load 24 x) (hx : a.eval x = .pointer (some ⟨B, 0, none⟩)) (hb : w.heap[B]? = some (.cells #[u, v] 24)) (hr : R (.agg #[u, v]) w) : Op1 n Tryd.prog o a w R := by
  refine Op1.of_run ?_ hr
  have c0 := cell_of hb 0 rfl
  have c1 := cell_of hb 1 rfl
  unfold execOp
  rw [ho]
  simp only [hx]
  simp [go_sem, c0, c1]

theorem opEql27 {o : Oper} {a : Act} {w : World} {R : Value → World → Prop} {x y : Operand} {p q : Int} (ho : o.op = .binOp .eql 27 x y 27) (hx : a.eval x = .int .i64 p) (hy : a.eval y = .int .i64 q) (hr : R (.bool (p == q)) w) : Op1 n Tryd.prog o a w R := by
  refine Op1.of_run (v := .bool (p == q)) ?_ hr
  unfold execOp
  rw [ho]
  simp only [hx, hy]
  simp [go_sem]

theorem opAlloc {o : Oper} {a : Act} {w : World} {R : Value → World → Prop} (ho : o.op = .alloc 24) (hr : R (.pointer (some ⟨w.heap.size, 0, none⟩)) (w.alloc (.cells #[.bool false, .slice none 0 0] 24))) : Op1 n Tryd.prog o a w R := by
  refine Op1.of_run ?_ hr
  unfold execOp
  rw [ho]
  simp [go_sem]

theorem allocK {n₀ : Nat} {W : World} (h : n₀ ≤ W.heap.size) : KV (.box n₀) (.pointer (some ⟨W.heap.size, 0, none⟩)) (W.alloc (.cells #[.bool false, .slice none 0 0] 24)) ∧ Below W.heap.size W (W.alloc (.cells #[.bool false, .slice none 0 0] 24)) :=
  ⟨⟨_, rfl, h, alloc_new _ _ rfl⟩, (Below.refl _ _).alloc (Nat.le_refl _) _⟩

theorem opExtract {P : Program} {o : Oper} {a : Act} {w : World} {R : Value → World → Prop} {x : Operand} {k : Nat} {vs : Array Value} {v : Value} (ho : o.op = .extract x k) (hx : a.eval x = .tuple vs) (hv : vs[k]? = some v) (hr : R v w) : Op1 n P o a w R := by
  refine Op1.of_run (v := v) ?_ hr
  unfold execOp
  rw [ho]
  simp only [hx, Instr.extract, hv, Sem.run_bind, Sem.run_pure, Result.andThen_ok]

theorem exNum {P : Program} {o : Oper} {a : Act} {w : World} {x : Operand} {z er : Int} (ho : o.op = .extract x 0) (hx : KV (.pair z er) (a.eval x) w) : Op1 n P o a w (fun v W' => KV (.num z) v W' ∧ Below w.heap.size w W') :=
  let ⟨_, h1, h2⟩ := hx
  opExtract ho h1 rfl ⟨h2, Below.refl _ _⟩
theorem exErr {P : Program} {o : Oper} {a : Act} {w : World} {x : Operand} {z er : Int} (ho : o.op = .extract x 1) (hx : KV (.pair z er) (a.eval x) w) : Op1 n P o a w (fun v W' => KV (.val (.int .i64 er)) v W' ∧ Below w.heap.size w W') :=
  let ⟨_, h1, _⟩ := hx
  opExtract ho h1 rfl ⟨rfl, Below.refl _ _⟩
theorem exT0 {P : Program} {o : Oper} {a : Act} {w : World} {x : Operand} {y z er : Int} (ho : o.op = .extract x 0) (hx : KV (.trip y z er) (a.eval x) w) : Op1 n P o a w (fun v W' => KV (.num y) v W' ∧ Below w.heap.size w W') :=
  let ⟨_, _, h1, h2, _⟩ := hx
  opExtract ho h1 rfl ⟨h2, Below.refl _ _⟩
theorem exT1 {P : Program} {o : Oper} {a : Act} {w : World} {x : Operand} {y z er : Int} (ho : o.op = .extract x 1) (hx : KV (.trip y z er) (a.eval x) w) : Op1 n P o a w (fun v W' => KV (.num z) v W' ∧ Below w.heap.size w W') :=
  let ⟨_, _, h1, _, h2⟩ := hx
  opExtract ho h1 rfl ⟨h2, Below.refl _ _⟩
theorem exT2 {P : Program} {o : Oper} {a : Act} {w : World} {x : Operand} {y z er : Int} (ho : o.op = .extract x 2) (hx : KV (.trip y z er) (a.eval x) w) : Op1 n P o a w (fun v W' => KV (.val (.int .i64 er)) v W' ∧ Below w.heap.size w W') :=
  let ⟨_, _, h1, _, _⟩ := hx
  opExtract ho h1 rfl ⟨rfl, Below.refl _ _⟩

theorem opMoveK {k : Kd} {P : Program} {o : Oper} {a : Act} {w : World} {x : Operand} (ho : o.op = .move x) (hv : KV k (a.eval x) w) : Op1 n P o a w (fun v W' => KV k v W' ∧ Below w.heap.size w W') :=
  opMove ho rfl ⟨hv, Below.refl _ _⟩

theorem opLss3 {o : Oper} {a : Act} {w : World} {R : Value → World → Prop} {x y : Operand} {p q : Int} (ho : o.op = .binOp .lss 3 x y 3) (hx : a.eval x = .int .i64 p) (hy : a.eval y = .int .i64 q) (hr : R (.bool (decide (p < q))) w) : Op1 n Tryd.prog o a w R := by
  refine Op1.of_run (v := .bool (decide (p < q))) ?_ hr
  unfold execOp
  rw [ho]
  simp only [hx, hy]
  simp [go_sem]
theorem opGtr3 {o : Oper} {a : Act} {w : World} {R : Value → World → Prop} {x y : Operand} {p q : Int} (ho : o.op = .binOp .gtr 3 x y 3) (hx : a.eval x = .int .i64 p) (hy : a.eval y = .int .i64 q) (hr : R (.bool (decide (q < p))) w) : Op1 n Tryd.prog o a w R := by
  refine Op1.of_run (v := .bool (decide (q < p))) ?_ hr
  unfold execOp
  rw [ho]
  simp only [hx, hy]
  simp [go_sem]
theorem opEql3 {o : Oper} {a : Act} {w : World} {R : Value → World → Prop} {x y : Operand} {p q : Int} (ho : o.op = .binOp .eql 3 x y 3) (hx : a.eval x = .int .i64 p) (hy : a.eval y = .int .i64 q) (hr : R (.bool (p == q)) w) : Op1 n Tryd.prog o a w R := by
  refine Op1.of_run (v := .bool (p == q)) ?_ hr
  unfold execOp
  rw [ho]
  simp only [hx, hy]
  simp [go_sem]
theorem opNeq3 {o : Oper} {a : Act} {w : World} {R : Value → World → Prop} {x y : Operand} {p q : Int} (ho : o.op = .binOp .neq 3 x y 3) (hx : a.eval x = .int .i64 p) (hy : a.eval y = .int .i64 q) (hr : R (.bool (p != q)) w) : Op1 n Tryd.prog o a w R := by
  refine Op1.of_run (v := .bool (p != q)) ?_ hr
  unfold execOp
  rw [ho]
  simp only [hx, hy]
  simp [go_sem]
theorem opNeq27 {o : Oper} {a : Act} {w : World} {R : Value → World → Prop} {x y : Operand} {p q : Int} (ho : o.op = .binOp .neq 27 x y 27) (hx : a.eval x = .int .i64 p) (hy : a.eval y = .int .i64 q) (hr : R (.bool (p != q)) w) : Op1 n Tryd.prog o a w R := by
  refine Op1.of_run (v := .bool (p != q)) ?_ hr
  unfold execOp
  rw [ho]
  simp only [hx, hy]
  simp [go_sem]
theorem opNeqB {o : Oper} {a : Act} {w : World} {R : Value → World → Prop} {x y : Operand} {p q : Bool} (ho : o.op = .binOp .neq 4 x y 4) (hx : a.eval x = .bool p) (hy : a.eval y = .bool q) (hr : R (.bool (p != q)) w) : Op1 n Tryd.prog o a w R := by
  refine Op1.of_run (v := .bool (p != q)) ?_ hr
  unfold execOp
  rw [ho]
  simp only [hx, hy]
  cases p <;> cases q <;> simp [go_sem]
theorem opNeg3 {o : Oper} {a : Act} {w : World} {R : Value → World → Prop} {x : Operand} {p : Int} (ho : o.op = .unOp .neg 3 x) (hx : a.eval x = .int .i64 p) (h0 : -9223372036854775807 ≤ p) (h1 : p ≤ 9223372036854775807) (hr : R (.int .i64 (-p)) w) : Op1 n Tryd.prog o a w R := by
  have e : IntKind.i64.wrap (-p) = -p := IntWalk.i64_in _ (by omega)
  refine Op1.of_run (v := .int .i64 (-p)) ?_ hr
  unfold execOp
  rw [ho]
  simp only [hx, Op.unary, Sem.run_bind, Sem.run_pure, Result.andThen_ok, e]
  simp [go_sem, e]

theorem pairK {f : Nat} {vs : Array Value} {w : World} {z : Int} (h : Calls Tryd.prog f vs w (NumE z w)) : Calls Tryd.prog f vs w fun e w' => ∃ v, e = .returned v ∧ KV (.pair z 0) v w' ∧ Below w.heap.size w w' :=
  h.mono fun _ _ ⟨_, _, _, _, he, hO, hb⟩ => ⟨_, he, ⟨_, rfl, hO.num⟩, hb⟩
theorem tripK {f : Nat} {vs : Array Value} {w : World} {y z : Int} (h : Calls Tryd.prog f vs w (NumE2 y z w)) : Calls Tryd.prog f vs w fun e w' => ∃ v, e = .returned v ∧ KV (.trip y z 0) v w' ∧ Below w.heap.size w w' :=
  h.mono fun _ _ ⟨_, _, _, _, _, _, _, _, he, hO, hO', hb⟩ => ⟨_, he, ⟨_, _, rfl, hO.num, hO'.num⟩, hb⟩

theorem put2_heap {W : World} {B t : Nat} {x y : Value} (hb : W.heap[B]? = some (.cells #[x, y] t)) (a b : Value) : (put2 W B a b).heap[B]? = some (.cells #[a, b] t) := by
  unfold put2
  simp [World.setCell, Array.getElem?_modify, hb]

/-- a number outlives a store into a box -/
theorem Wn.put2 {n₀ : Nat} {W : World} {v : Value} {z : Int} {B : Nat} {x : Bool} {p : Option Addr} {l c : Nat} (hb : W.heap[B]? = some (.cells #[.bool x, .slice p l c] 24)) (a b : Value) (h : Wn n₀ W v z) : Wn n₀ (put2 W B a b) v z := by
  obtain ⟨sv, zs, rfl, hL, r⟩ := h
  refine ⟨sv, zs, rfl, ?_, r⟩
  rcases hL with h | ⟨g, off, cap, e, h1, h2, h3⟩
  · exact .inl h
  · refine .inr ⟨g, off, cap, e, h1, h2, fun j hj => ?_⟩
    have hg := h3 j hj
    by_cases e : g = B
    · subst e
      exfalso
      simp only [World.cell?, hb] at hg
      match off + j, hg with
      | 0, hg => simp at hg
      | 1, hg => simp at hg
      | k + 2, hg => simp at hg
    · rw [(put2_only W B a b).cell (p := ⟨g, off + j, none⟩) e]; exact hg

theorem may12 : MayCall 12 := ⟨_, Tryd.func12, by kernel_rfl, by kernel_rfl⟩
theorem may13 : MayCall 13 := ⟨_, Tryd.func13, by kernel_rfl, by kernel_rfl⟩
theorem may14 : MayCall 14 := ⟨_, Tryd.func14, by kernel_rfl, by kernel_rfl⟩
theorem may15 : MayCall 15 := ⟨_, Tryd.func15, by kernel_rfl, by kernel_rfl⟩
theorem may16 : MayCall 16 := ⟨_, Tryd.func16, by kernel_rfl, by kernel_rfl⟩
theorem may17 : MayCall 17 := ⟨_, Tryd.func17, by kernel_rfl, by kernel_rfl⟩
theorem may18 : MayCall 18 := ⟨_, Tryd.func18, by kernel_rfl, by kernel_rfl⟩
theorem may19 : MayCall 19 := ⟨_, Tryd.func19, by kernel_rfl, by kernel_rfl⟩
theorem may20 : MayCall 20 := ⟨_, Tryd.func20, by kernel_rfl, by kernel_rfl⟩
theorem may21 : MayCall 21 := ⟨_, Tryd.func21, by kernel_rfl, by kernel_rfl⟩
theorem may22 : MayCall 22 := ⟨_, Tryd.func22, by kernel_rfl, by kernel_rfl⟩
theorem may24 : MayCall 24 := ⟨_, Tryd.func24, by kernel_rfl, by kernel_rfl⟩
theorem may25 : MayCall 25 := ⟨_, Tryd.func25, by kernel_rfl, by kernel_rfl⟩
theorem may26 : MayCall 26 := ⟨_, Tryd.func26, by kernel_rfl, by kernel_rfl⟩
theorem may31 : MayCall 31 := ⟨_, Tryd.func31, by kernel_rfl, by kernel_rfl⟩
theorem may32 : MayCall 32 := ⟨_, Tryd.func32, by kernel_rfl, by kernel_rfl⟩
theorem may33 : MayCall 33 := ⟨_, Tryd.func33, by kernel_rfl, by kernel_rfl⟩
theorem may34 : MayCall 34 := ⟨_, Tryd.func34, by kernel_rfl, by kernel_rfl⟩
theorem may35 : MayCall 35 := ⟨_, Tryd.func35, by kernel_rfl, by kernel_rfl⟩
theorem may36 : MayCall 36 := ⟨_, Tryd.func36, by kernel_rfl, by kernel_rfl⟩
theorem may37 : MayCall 37 := ⟨_, Tryd.func37, by kernel_rfl, by kernel_rfl⟩
theorem may41 : MayCall 41 := ⟨_, Tryd.func41, by kernel_rfl, by kernel_rfl⟩
theorem may42 : MayCall 42 := ⟨_, Tryd.func42, by kernel_rfl, by kernel_rfl⟩
theorem may66 : MayCall 66 := ⟨_, Tryd.func66, by kernel_rfl, by kernel_rfl⟩

end Go.Proofs.YtbaiohjladddlaaDoor
