import Derived.Test.YtihdbjilolmfiaaGreatDoorD13
import Derived.Test.YtihdbjilolmfiaaGreatDoorD10
import Derived.Test.YtihdbjilolmfiaaGreatDoorD12
import Derived.Test.YtihdbjilolmfiaaGreatDoorD01
import Derived.Test.YtihdbjilolmfiaaGreatDoorProg
import Derived.Deep.MidRow
namespace Go.Proofs.YtihdbjilolmfiaaGreatDoor
open Go.RowKit Go.WM Go.WR
attribute [local go_sem] Oper.semAt_some
abbrev SK48 := SK 48
abbrev Kd := Kn 48
def Is (s : SK48) (v : Value) (W : World) : Prop := s.K v W
theorem Is.kept {s : SK48} {v : Value} {W W' : World} (h : Is s v W) (hk : Kept 48 W W') : Is s v W' := s.st v W W' hk h
theorem Is.at {s : SK48} {v v' : Value} {W : World} (h : Is s v W) (e : v' = v) : Is s v' W := by rw [e]; exact h
theorem notBox {W : World} {g o : Nat} {x : Int} (h : W.cell? ⟨g, o, none⟩ = some (.int .u16 x)) : ¬ BoxAt 48 W g := by
 rintro ⟨cs, T, h1, _, h3⟩
 have : cs[o]? = some (.int .u16 x) := by simpa [World.cell?, h1] using h
 exact noLimb_at h3 o x this
theorem Lims.kept {W W' : World} {sv : Value} {zs : List Int} (hk : Kept 48 W W') : Lims W.heap.size W sv zs → Lims W'.heap.size W' sv zs
 | .inl e => .inl e
 | .inr ⟨b, off, cap, e, hl, hb, hc⟩ => .inr ⟨b, off, cap, e, hl, Nat.lt_of_lt_of_le hb hk.size, fun j hj => by
  have h1 := hc j hj
  have h2 := hk.block b hb (notBox h1)
  rw [← h1]
  simp only [World.cell?, h2]⟩
theorem Own16.kept {B : Nat} {W W' : World} {v : Value} {zs : List Int} (hk : Kept 48 W W') (h : Own16 B W v zs) : Own16 B W' v zs := by
 obtain ⟨hl, h⟩ := h
 refine ⟨hl, ?_⟩
 rcases h with h | ⟨g, cap, cur, e, hB, hh, r⟩
 · exact .inl h
 · refine .inr ⟨g, cap, cur, e, hB, ?_, r⟩
   rw [hk.block g (Array.getElem?_eq_some_iff.1 hh).1 ?_]; · exact hh
   rintro ⟨cs, T, h1, h2, _⟩
   rw [hh] at h1; cases h1; exact h2 rfl
theorem Wn.kept {W W' : World} {v : Value} {z : Int} (hk : Kept 48 W W') : Wn W.heap.size W v z → Wn W'.heap.size W' v z
 | ⟨sv, zs, e, h, r⟩ => ⟨sv, zs, e, h.kept hk, r⟩
def num (z : Int) : SK48 := ⟨fun v W => Wn W.heap.size W v z, fun _ _ _ hk h => Wn.kept hk h⟩
def fr (x y : Int) : SK48 := ⟨fun v W => ∃ b1 p1 l1 c1 b2 p2 l2 c2, v = .agg #[.bool b1, .slice p1 l1 c1, .bool b2, .slice p2 l2 c2] ∧ Wn W.heap.size W (.agg #[.bool b1, .slice p1 l1 c1]) x ∧ Wn W.heap.size W (.agg #[.bool b2, .slice p2 l2 c2]) y,
 fun _ _ _ hk ⟨b1, p1, l1, c1, b2, p2, l2, c2, e, h1, h2⟩ => ⟨b1, p1, l1, c1, b2, p2, l2, c2, e, h1.kept hk, h2.kept hk⟩⟩
def tup2 (k1 k2 : Kd) : SK48 := ⟨fun v W => ∃ x y, v = .tuple #[x, y] ∧ KW k1 x W ∧ KW k2 y W, fun _ _ _ hk ⟨x, y, e, h1, h2⟩ => ⟨x, y, e, h1.kept hk, h2.kept hk⟩⟩
def tup3 (k1 k2 k3 : Kd) : SK48 := ⟨fun v W => ∃ x y z, v = .tuple #[x, y, z] ∧ KW k1 x W ∧ KW k2 y W ∧ KW k3 z W, fun _ _ _ hk ⟨x, y, z, e, h1, h2, h3⟩ => ⟨x, y, z, e, h1.kept hk, h2.kept hk, h3.kept hk⟩⟩
def rowk (n : Int) : SK48 := ⟨fun v W => ∃ zs, Lims W.heap.size W v zs ∧ Rep zs n, fun _ _ _ hk ⟨zs, h1, h2⟩ => ⟨zs, h1.kept hk, h2⟩⟩
def Ret (k : Kd) (w : World) (e : Ending) (w' : World) : Prop := ∃ v, e = .returned v ∧ KW k v w' ∧ Below w.heap.size w w'
theorem Is.form {z : Int} {v : Value} {W : World} (h : Is (num z) v W) : ∃ b p l c, v = .agg #[.bool b, .slice p l c] := by
 obtain ⟨sv, zs, rfl, hL, _⟩ := h
 obtain ⟨p, l, c, rfl⟩ := hL.form
 exact ⟨_, _, _, _, rfl⟩
theorem BxOK.nil {S : List Nat} {n₀ : Nat} {w : World} (h : n₀ ≤ w.heap.size) : BxOK 48 [] S n₀ w := ⟨fun k b h => (by simp at h), fun k b h => (by simp at h), fun k k' b b' h => (by simp at h), h⟩
theorem BxOK.fresh {bxs : List Bx} {S : List Nat} {n₀ : Nat} {w : World} (hb : (bxs.all fun b => b.al.isSome && b.T != 48) = true) (h : n₀ ≤ w.heap.size) : BxOK 48 bxs S n₀ w := by
 rw [List.all_eq_true] at hb
 have hs : ∀ (k : Nat) (b : Bx), bxs[k]? = some b → b.al.isSome = true ∧ b.T ≠ 48 := fun k b hk => by
  have := hb b (List.mem_of_getElem? hk)
  simpa using this
 exact ⟨fun k b hk => (hs k b hk).2, fun k b hk ha => (by have := (hs k b hk).1; rw [ha] at this; cases this), fun k k' b b' hk _ ha => (by have := (hs k b hk).1; rw [ha] at this; cases this), h⟩
structure Stand (b : Bx) (S : List Nat) (n₀ : Nat) (w : World) : Prop where
 ge : n₀ ≤ b.blk
 q : ∃ cs, w.heap[b.blk]? = some (.cells cs b.T) ∧ b.ini = [.c cs] ∧ cs.size = b.size ∧ noLimb cs = true
 s : b.blk ∈ S
 t : b.T ≠ 48
theorem Stand.of {b : Bx} {S : List Nat} {n₀ : Nat} {w : World} (h : Stand b S n₀ w) : b.blk < w.heap.size ∧ n₀ ≤ b.blk ∧ (∀ u, w.heap[b.blk]? = some (.cells (parts b.ini u) b.T) ∧ (parts b.ini u).size = b.size ∧ noLimb (parts b.ini u) = true) ∧ (b.put = [] ∨ b.blk ∈ S) := by
 obtain ⟨cs, h1, h2, h3, h4⟩ := h.q
 have e : ∀ u, parts b.ini u = cs := fun u => by rw [h2]; simp [parts, Part.cells]
 exact ⟨(Array.getElem?_eq_some_iff.1 h1).1, h.ge, fun u => (by rw [e u]; exact ⟨h1, h3, h4⟩), .inr h.s⟩
theorem BxOK.one {b0 : Bx} {bxs : List Bx} {S : List Nat} {n₀ : Nat} {w : World} (h0 : Stand b0 S n₀ w) (hb : (bxs.all fun b => b.al.isSome && b.T != 48) = true) (h : n₀ ≤ w.heap.size) : BxOK 48 (b0 :: bxs) S n₀ w := by
 have hf := BxOK.fresh (S := S) hb h
 rw [List.all_eq_true] at hb
 have hs : ∀ (k : Nat) (b : Bx), bxs[k]? = some b → b.al ≠ none := fun k b hk e => by
  have := hb b (List.mem_of_getElem? hk)
  rw [e] at this; simp at this
 refine ⟨fun k b hk => ?_, fun k b hk ha => ?_, fun k k' b b' hk hk' ha ha' hne => ?_, h⟩
 · cases k with
   | zero => cases hk; exact h0.t
   | succ k => exact hf.ty k b hk
 · cases k with
   | zero => cases hk; exact h0.of
   | succ k => exact absurd ha (hs k b hk)
 · cases k with
   | zero =>
    cases k' with
    | zero => exact absurd rfl hne
    | succ k' => exact absurd ha' (hs k' b' hk')
   | succ k => exact absurd ha (hs k b hk)
theorem BxOK.two {b0 b1 : Bx} {bxs : List Bx} {S : List Nat} {n₀ : Nat} {w : World} (h0 : Stand b0 S n₀ w) (h1 : Stand b1 S n₀ w) (hn : b0.blk ≠ b1.blk) (hb : (bxs.all fun b => b.al.isSome && b.T != 48) = true) (h : n₀ ≤ w.heap.size) : BxOK 48 (b0 :: b1 :: bxs) S n₀ w := by
 have hf := BxOK.one (S := S) h1 hb h
 rw [List.all_eq_true] at hb
 have hs : ∀ (k : Nat) (b : Bx), bxs[k]? = some b → b.al ≠ none := fun k b hk e => by
  have := hb b (List.mem_of_getElem? hk)
  rw [e] at this; simp at this
 refine ⟨fun k b hk => ?_, fun k b hk ha => ?_, fun k k' b b' hk hk' ha ha' hne => ?_, h⟩
 · cases k with
   | zero => cases hk; exact h0.t
   | succ k => exact hf.ty k b hk
 · cases k with
   | zero => cases hk; exact h0.of
   | succ k => exact hf.old k b hk ha
 · match k, k' with
   | 0, 0 => exact absurd rfl hne
   | 0, 1 => cases hk; cases hk'; exact hn
   | 1, 0 => cases hk; cases hk'; exact hn.symm
   | 1, 1 => exact absurd rfl hne
   | k + 2, _ => exact absurd ha (hs k b hk)
   | _, k' + 2 => exact absurd ha' (hs k' b' hk')
theorem contAll_one {b : Bx} {u : Nat → Value} {i j : Nat} {cs : Array Value} (hp : b.put = [(i, 0, j)]) (hc : (u j).cells = cs) (hs : (parts b.ini u).size = cs.size) : contAll b u = cs := by
 unfold contAll
 rw [hp]
 simp only [List.foldl_cons, List.foldl_nil, hc]
 unfold splice
 have : (parts b.ini u).toList.drop (0 + cs.size) = [] := List.drop_eq_nil_of_le (by simp; omega)
 rw [this]; simp
variable {n : Nat} {o : Oper} {a : Act} {w : World}
theorem kMove {k : Kd} {x : Operand} (ho : o.op = .move x) (h : KW k (a.eval x) w) : Op1 n Tryz.prog o a w (fun v W' => KW k v W' ∧ Below w.heap.size w W') :=
 Op1.of_run (by unfold execOp; rw [ho]; simp only [Sem.run_pure]) ⟨h, Below.refl _ _⟩
theorem kAssign {k : Kd} {x : Operand} (ho : o.op = .assign x) (h : KW k (a.eval x) w) : Op1 n Tryz.prog o a w (fun v W' => KW k v W' ∧ Below w.heap.size w W') :=
 Op1.of_run (by unfold execOp; rw [ho]; simp only [Sem.run_pure]) ⟨h, Below.refl _ _⟩
theorem kPick {k : Kd} {c x y : Operand} {t : Bool} (ho : o.op = .pick c x y) (hc : a.eval c = .bool t) (h : KW k (if t then a.eval x else a.eval y) w) : Op1 n Tryz.prog o a w (fun v W' => KW k v W' ∧ Below w.heap.size w W') :=
 Op1.of_run (by unfold execOp; rw [ho]; simp only [hc, asBool, Sem.run_bind, Sem.run_pure, Result.andThen_ok]) ⟨h, Below.refl _ _⟩
theorem kNot {x : Operand} {T : TypeId} {b t : Bool} (ho : o.op = .unOp .not T x) (hx : a.eval x = .bool b) (ht : (!b) = t) : Op1 n Tryz.prog o a w (fun v W' => KW (t16 := 48) (.val (.bool t)) v W' ∧ Below w.heap.size w W') :=
 Op1.of_run (v := .bool (!b)) (by unfold execOp; rw [ho]; simp only [hx, Op.unary, Sem.run_bind, Sem.run_pure, Result.andThen_ok]) ⟨congrArg Value.bool ht, Below.refl _ _⟩
theorem kExtract {k : Kd} {x : Operand} {j : Nat} {vs : Array Value} {v : Value} (ho : o.op = .extract x j) (hx : a.eval x = .tuple vs) (hv : vs[j]? = some v) (h : KW k v w) : Op1 n Tryz.prog o a w (fun v W' => KW k v W' ∧ Below w.heap.size w W') := by
 refine Op1.of_run (v := v) ?_ ⟨h, Below.refl _ _⟩
 unfold execOp
 rw [ho]
 simp only [hx, Instr.extract, hv, Sem.run_bind, Sem.run_pure, Result.andThen_ok]
theorem kEx20 {k1 k2 : Kd} {x : Operand} (ho : o.op = .extract x 0) (h : Is (tup2 k1 k2) (a.eval x) w) : Op1 n Tryz.prog o a w (fun v W' => KW k1 v W' ∧ Below w.heap.size w W') :=
 let ⟨_, _, e, h1, _⟩ := h; kExtract ho e rfl h1
theorem kEx21 {k1 k2 : Kd} {x : Operand} (ho : o.op = .extract x 1) (h : Is (tup2 k1 k2) (a.eval x) w) : Op1 n Tryz.prog o a w (fun v W' => KW k2 v W' ∧ Below w.heap.size w W') :=
 let ⟨_, _, e, _, h2⟩ := h; kExtract ho e rfl h2
theorem kEx30 {k1 k2 k3 : Kd} {x : Operand} (ho : o.op = .extract x 0) (h : Is (tup3 k1 k2 k3) (a.eval x) w) : Op1 n Tryz.prog o a w (fun v W' => KW k1 v W' ∧ Below w.heap.size w W') :=
 let ⟨_, _, _, e, h1, _, _⟩ := h; kExtract ho e rfl h1
theorem kEx31 {k1 k2 k3 : Kd} {x : Operand} (ho : o.op = .extract x 1) (h : Is (tup3 k1 k2 k3) (a.eval x) w) : Op1 n Tryz.prog o a w (fun v W' => KW k2 v W' ∧ Below w.heap.size w W') :=
 let ⟨_, _, _, e, _, h2, _⟩ := h; kExtract ho e rfl h2
theorem kEx32 {k1 k2 k3 : Kd} {x : Operand} (ho : o.op = .extract x 2) (h : Is (tup3 k1 k2 k3) (a.eval x) w) : Op1 n Tryz.prog o a w (fun v W' => KW k3 v W' ∧ Below w.heap.size w W') :=
 let ⟨_, _, _, e, _, _, h3⟩ := h; kExtract ho e rfl h3
def MayCall (f : Nat) : Prop := ∃ fn, Tryz.prog.funcs[f]? = some fn ∧ (fn.name == "runtime.NumGoroutine") = false ∧ fn.body.isNone = false
theorem kCall {k : Kd} {f : Nat} {xs : Array Operand} {ts : Array TypeId} {vs : Array Value} (ho : o.op = .call { callee := .value (.func f), args := xs, argTypes := ts }) (hf : MayCall f) (hv : xs.map a.eval = vs) (hc : Calls Tryz.prog f vs w (Ret k w)) : Op1 n Tryz.prog o a w (fun v W' => KW k v W' ∧ Below w.heap.size w W') :=
 let ⟨_, h1, h2, h3⟩ := hf
 Op1.of_call (by rw [run_call ho rfl h1 h2 h3, hv]) hc
theorem kCall1 {k : Kd} {f : Nat} {x : Operand} {u : Value} {ts : Array TypeId} (ho : o.op = .call { callee := .value (.func f), args := #[x], argTypes := ts }) (hf : MayCall f) (hx : a.eval x = u) (hc : Calls Tryz.prog f #[u] w (Ret k w)) : Op1 n Tryz.prog o a w (fun v W' => KW k v W' ∧ Below w.heap.size w W') :=
 kCall ho hf (by simp only [List.map_toArray, List.map_cons, List.map_nil, hx]) hc
theorem kCall2 {k : Kd} {f : Nat} {x y : Operand} {u v : Value} {ts : Array TypeId} (ho : o.op = .call { callee := .value (.func f), args := #[x, y], argTypes := ts }) (hf : MayCall f) (hx : a.eval x = u) (hy : a.eval y = v) (hc : Calls Tryz.prog f #[u, v] w (Ret k w)) : Op1 n Tryz.prog o a w (fun v W' => KW k v W' ∧ Below w.heap.size w W') :=
 kCall ho hf (by simp only [List.map_toArray, List.map_cons, List.map_nil, hx, hy]) hc
theorem kCall3 {k : Kd} {f : Nat} {x y z : Operand} {u v t : Value} {ts : Array TypeId} (ho : o.op = .call { callee := .value (.func f), args := #[x, y, z], argTypes := ts }) (hf : MayCall f) (hx : a.eval x = u) (hy : a.eval y = v) (hz : a.eval z = t) (hc : Calls Tryz.prog f #[u, v, t] w (Ret k w)) : Op1 n Tryz.prog o a w (fun v W' => KW k v W' ∧ Below w.heap.size w W') :=
 kCall ho hf (by simp only [List.map_toArray, List.map_cons, List.map_nil, hx, hy, hz]) hc
theorem kCall4 {k : Kd} {f : Nat} {x y z r : Operand} {u v t s : Value} {ts : Array TypeId} (ho : o.op = .call { callee := .value (.func f), args := #[x, y, z, r], argTypes := ts }) (hf : MayCall f) (hx : a.eval x = u) (hy : a.eval y = v) (hz : a.eval z = t) (hr : a.eval r = s) (hc : Calls Tryz.prog f #[u, v, t, s] w (Ret k w)) : Op1 n Tryz.prog o a w (fun v W' => KW k v W' ∧ Below w.heap.size w W') :=
 kCall ho hf (by simp only [List.map_toArray, List.map_cons, List.map_nil, hx, hy, hz, hr]) hc
theorem kLoad {k : Kd} {x : Operand} {ty : TypeId} {d : TypeDesc} {B off T : Nat} {cs : Array Value} {rs : List Value} (hu : Tryz.prog.underlying ty = some d) (hd : d.isRow = true) (hi : (Tryz.prog.info? ty).map (·.size) = some rs.length)
 (ho : o.op = .load ty x) (hx : a.eval x = .pointer (some ⟨B, off, none⟩)) (hb : w.heap[B]? = some (.cells cs T)) (hr : (cs.toList.drop off).take rs.length = rs) (h : KW k (.agg rs.toArray) w) : Op1 n Tryz.prog o a w (fun v W' => KW k v W' ∧ Below w.heap.size w W') := by
 refine Op1.of_run (v := .agg rs.toArray) ?_ ⟨h, Below.refl _ _⟩
 have hc : w.rangeAt B off rs := fun j v hv => by
  have h1 : ((cs.toList.drop off).take rs.length)[j]? = some v := by rw [hr]; exact hv
  rw [List.getElem?_take] at h1
  split at h1
  · rw [List.getElem?_drop] at h1
    have h2 : cs[off + j]? = some v := by simpa using h1
    simp [World.cell?, hb, h2]
  · cases h1
 unfold execOp
 simp only [ho, hx, Instr.loadAt, Instr.sureAddr, Sem.run_bind, Sem.run_pure, Result.andThen_ok, run_loadVar_mid w B off ty rs d hc hu hd hi]
theorem kLoad1 {k : Kd} {x : Operand} {ty : TypeId} {d : TypeDesc} {B off T : Nat} {cs : Array Value} {v : Value} (hu : Tryz.prog.underlying ty = some d) (hd : d.isRow = false)
 (ho : o.op = .load ty x) (hx : a.eval x = .pointer (some ⟨B, off, none⟩)) (hb : w.heap[B]? = some (.cells cs T)) (hr : cs[off]? = some v) (h : KW k v w) : Op1 n Tryz.prog o a w (fun v W' => KW k v W' ∧ Below w.heap.size w W') := by
 refine Op1.of_run (v := v) ?_ ⟨h, Below.refl _ _⟩
 have hc : w.cell? ⟨B, off, none⟩ = some v := by simp [World.cell?, hb, hr]
 unfold execOp
 rw [ho]
 simp only [hx]
 cases d <;> first | (simp [TypeDesc.isRow] at hd; done) | simp [go_sem, isAgg, underlying, hu, hc]
theorem kStore {x y : Operand} {ty : TypeId} {B off T : Nat} {c : Array Value} {v : Value} (hi : (Tryz.prog.info? ty).map (·.size) = some v.cells.size) (ho : o.op = .store ty x y) (hx : a.eval x = .pointer (some ⟨B, off, none⟩)) (hy : a.eval y = v)
 (hb : w.heap[B]? = some (.cells c T)) (hl : off + v.cells.size ≤ c.size) (h1 : v.cells.toList.all (·.oneCell') = true) : Op1 n Tryz.prog o a w (fun _ W' => W' = w.setRow B (splice c off v.cells)) := by
 refine Op1.of_skip (w' := w.setRow B (splice c off v.cells)) ?_ rfl
 have hr := run_storeCells_at (P := Tryz.prog) B off T v.cells.toList 0 c w hb (by simpa using hl) (fun u hu => (List.all_eq_true.1 h1) u hu)
 cases hq : Tryz.prog.info? ty with
 | none => simp [hq] at hi
 | some i =>
  have hs : v.cells.size = i.size := by simp [hq] at hi; omega
  have hv : (storeVar ty ⟨B, off, none⟩ v).run Tryz.prog w = .ok () (w.setRow B (splice c off v.cells)) := by
   simp [storeVar, sizeOf, typeInfo, hq, hs, hr, splice]
  unfold execOp
  simp only [ho, hx, hy, Instr.storeAt, Instr.sureAddr, Sem.run_bind, Sem.run_pure, Result.andThen_ok, hv]
theorem kAlloc24 (ho : o.op = .alloc 24) : Op1 n Tryz.prog o a w (fun v W' => v = .pointer (some ⟨w.heap.size, 0, none⟩) ∧ W' = w.alloc (.cells #[.bool false, .slice none 0 0] 24)) := by
 refine Op1.of_run (v := .pointer (some ⟨w.heap.size, 0, none⟩)) (w' := w.alloc (.cells #[.bool false, .slice none 0 0] 24)) ?_ ⟨rfl, rfl⟩
 unfold execOp
 rw [ho]
 simp [go_sem]
theorem kAlloc73 (ho : o.op = .alloc 73) : Op1 n Tryz.prog o a w (fun v W' => v = .pointer (some ⟨w.heap.size, 0, none⟩) ∧ W' = w.alloc (.cells #[.bool false, .slice none 0 0, .bool false, .slice none 0 0] 73)) := by
 refine Op1.of_run (v := .pointer (some ⟨w.heap.size, 0, none⟩)) (w' := w.alloc (.cells #[.bool false, .slice none 0 0, .bool false, .slice none 0 0] 73)) ?_ ⟨rfl, rfl⟩
 unfold execOp
 rw [ho]
 simp [go_sem]
theorem kBox {x : Operand} {T : TypeId} {cs : Array Value} (ho : o.op = .box T x) (hx : a.eval x = .agg cs) : Op1 n Tryz.prog o a w (fun v W' => v = .pointer (some ⟨w.heap.size, 0, none⟩) ∧ W' = w.alloc (.cells cs T)) := by
 refine Op1.of_run (v := .pointer (some ⟨w.heap.size, 0, none⟩)) (w' := w.alloc (.cells cs T)) ?_ ⟨rfl, rfl⟩
 unfold execOp
 rw [ho]
 simp only [hx]
 simp [go_sem, Value.cells]
theorem kField24_0 {x : Operand} {B off : Nat} (ho : o.op = .fieldAddr 24 x 0) (hx : a.eval x = .pointer (some ⟨B, off, none⟩)) : Op1 n Tryz.prog o a w (fun v W' => KW (t16 := 48) (.val (.pointer (some ⟨B, off, none⟩))) v W' ∧ Below w.heap.size w W') := by
 refine Op1.of_run (v := .pointer (some ⟨B, off, none⟩)) ?_ ⟨rfl, Below.refl _ _⟩
 unfold execOp
 rw [ho]
 simp only [hx]
 simp [go_sem]
theorem kField24_1 {x : Operand} {B off : Nat} (ho : o.op = .fieldAddr 24 x 1) (hx : a.eval x = .pointer (some ⟨B, off, none⟩)) : Op1 n Tryz.prog o a w (fun v W' => KW (t16 := 48) (.val (.pointer (some ⟨B, off + 1, none⟩))) v W' ∧ Below w.heap.size w W') := by
 refine Op1.of_run (v := .pointer (some ⟨B, off + 1, none⟩)) ?_ ⟨rfl, Below.refl _ _⟩
 unfold execOp
 rw [ho]
 simp only [hx]
 simp [go_sem]
theorem kField26_0 {x : Operand} {B off : Nat} (ho : o.op = .fieldAddr 26 x 0) (hx : a.eval x = .pointer (some ⟨B, off, none⟩)) : Op1 n Tryz.prog o a w (fun v W' => KW (t16 := 48) (.val (.pointer (some ⟨B, off, none⟩))) v W' ∧ Below w.heap.size w W') := by
 refine Op1.of_run (v := .pointer (some ⟨B, off, none⟩)) ?_ ⟨rfl, Below.refl _ _⟩
 unfold execOp
 rw [ho]
 simp only [hx]
 simp [go_sem]
theorem kField26_1 {x : Operand} {B off : Nat} (ho : o.op = .fieldAddr 26 x 1) (hx : a.eval x = .pointer (some ⟨B, off, none⟩)) : Op1 n Tryz.prog o a w (fun v W' => KW (t16 := 48) (.val (.pointer (some ⟨B, off + 2, none⟩))) v W' ∧ Below w.heap.size w W') := by
 refine Op1.of_run (v := .pointer (some ⟨B, off + 2, none⟩)) ?_ ⟨rfl, Below.refl _ _⟩
 unfold execOp
 rw [ho]
 simp only [hx]
 simp [go_sem]
theorem kField73_0 {x : Operand} {B off : Nat} (ho : o.op = .fieldAddr 73 x 0) (hx : a.eval x = .pointer (some ⟨B, off, none⟩)) : Op1 n Tryz.prog o a w (fun v W' => KW (t16 := 48) (.val (.pointer (some ⟨B, off, none⟩))) v W' ∧ Below w.heap.size w W') := by
 refine Op1.of_run (v := .pointer (some ⟨B, off, none⟩)) ?_ ⟨rfl, Below.refl _ _⟩
 unfold execOp
 rw [ho]
 simp only [hx]
 simp [go_sem]
theorem kBuild26 {k : Kd} {x y : Nat} {b1 b2 s1 s2 : Value} (ho : o.op = .build 26 #[(0, .tmp x), (1, .tmp y)]) (hx : a.tmps.getD x undef = .agg #[b1, s1]) (hy : a.tmps.getD y undef = .agg #[b2, s2]) (h : KW k (.agg #[b1, s1, b2, s2]) w) : Op1 n Tryz.prog o a w (fun v W' => KW k v W' ∧ Below w.heap.size w W') := by
 refine Op1.of_run (v := .agg #[b1, s1, b2, s2]) ?_ ⟨h, Below.refl _ _⟩
 unfold execOp
 rw [ho]
 simp only [Array.getD_eq_getD_getElem?] at hx hy
 simp [go_sem, hx, hy]
theorem kBuild73 {k : Kd} {x : Nat} {b1 b2 s1 s2 : Value} (ho : o.op = .build 73 #[(0, .tmp x)]) (hx : a.tmps.getD x undef = .agg #[b1, s1, b2, s2]) (h : KW k (.agg #[b1, s1, b2, s2]) w) : Op1 n Tryz.prog o a w (fun v W' => KW k v W' ∧ Below w.heap.size w W') := by
 refine Op1.of_run (v := .agg #[b1, s1, b2, s2]) ?_ ⟨h, Below.refl _ _⟩
 unfold execOp
 rw [ho]
 simp only [Array.getD_eq_getD_getElem?] at hx
 simp [go_sem, hx]
theorem kBuild24 {k : Kd} {x y : Nat} {b : Bool} {p : Option Addr} {l c : Nat} (ho : o.op = .build 24 #[(0, .tmp x), (1, .tmp y)]) (hx : a.tmps.getD x undef = .bool b) (hy : a.tmps.getD y undef = .slice p l c) (h : KW k (.agg #[.bool b, .slice p l c]) w) : Op1 n Tryz.prog o a w (fun v W' => KW k v W' ∧ Below w.heap.size w W') := by
 refine Op1.of_run (v := .agg #[.bool b, .slice p l c]) ?_ ⟨h, Below.refl _ _⟩
 unfold execOp
 rw [ho]
 simp only [Array.getD_eq_getD_getElem?] at hx hy
 simp [go_sem, hx, hy]
theorem kBuild260 {k : Kd} (ho : o.op = .build 26 #[]) (h : KW k (.agg #[.bool false, .slice none 0 0, .bool false, .slice none 0 0]) w) : Op1 n Tryz.prog o a w (fun v W' => KW k v W' ∧ Below w.heap.size w W') := by
 refine Op1.of_run (v := .agg #[.bool false, .slice none 0 0, .bool false, .slice none 0 0]) ?_ ⟨h, Below.refl _ _⟩
 unfold execOp
 rw [ho]
 simp [go_sem]
theorem kLen {x : Operand} {p : Option Addr} {l c : Nat} (ho : o.op = .call { callee := .builtin .len, args := #[x], argTypes := #[22] }) (hx : a.eval x = .slice p l c) : Op1 n Tryz.prog o a w (fun v W' => KW (t16 := 48) (.val (.int .i64 l)) v W' ∧ Below w.heap.size w W') := by
 refine Op1.of_run ?_ ⟨rfl, Below.refl _ _⟩
 unfold execOp
 rw [ho]
 cases x <;> simp only [Act.eval] at hx <;> simp [go_sem, hx]
theorem kEql3 {x y : Operand} {p q : Int} {t : Bool} (ho : o.op = .binOp .eql 3 x y 3) (hx : a.eval x = .int .i64 p) (hy : a.eval y = .int .i64 q) (ht : decide (p = q) = t) : Op1 n Tryz.prog o a w (fun v W' => KW (t16 := 48) (.val (.bool t)) v W' ∧ Below w.heap.size w W') := by
 refine Op1.of_run (v := .bool (p == q)) ?_ ⟨congrArg Value.bool (by rw [← ht]; rfl), Below.refl _ _⟩
 unfold execOp
 rw [ho]
 simp only [hx, hy]
 simp [go_sem]
theorem kGtr3 {x y : Operand} {p q : Int} {t : Bool} (ho : o.op = .binOp .gtr 3 x y 3) (hx : a.eval x = .int .i64 p) (hy : a.eval y = .int .i64 q) (ht : decide (q < p) = t) : Op1 n Tryz.prog o a w (fun v W' => KW (t16 := 48) (.val (.bool t)) v W' ∧ Below w.heap.size w W') := by
 refine Op1.of_run (v := .bool (decide (q < p))) ?_ ⟨congrArg Value.bool ht, Below.refl _ _⟩
 unfold execOp
 rw [ho]
 simp only [hx, hy]
 simp [go_sem]
theorem kLss3 {x y : Operand} {p q : Int} {t : Bool} (ho : o.op = .binOp .lss 3 x y 3) (hx : a.eval x = .int .i64 p) (hy : a.eval y = .int .i64 q) (ht : decide (p < q) = t) : Op1 n Tryz.prog o a w (fun v W' => KW (t16 := 48) (.val (.bool t)) v W' ∧ Below w.heap.size w W') := by
 refine Op1.of_run (v := .bool (decide (p < q))) ?_ ⟨congrArg Value.bool ht, Below.refl _ _⟩
 unfold execOp
 rw [ho]
 simp only [hx, hy]
 simp [go_sem]
theorem kEql29 {x y : Operand} {p q : Int} {t : Bool} (ho : o.op = .binOp .eql 29 x y 29) (hx : a.eval x = .int .i64 p) (hy : a.eval y = .int .i64 q) (ht : decide (p = q) = t) : Op1 n Tryz.prog o a w (fun v W' => KW (t16 := 48) (.val (.bool t)) v W' ∧ Below w.heap.size w W') := by
 refine Op1.of_run (v := .bool (p == q)) ?_ ⟨congrArg Value.bool (by rw [← ht]; rfl), Below.refl _ _⟩
 unfold execOp
 rw [ho]
 simp only [hx, hy]
 simp [go_sem]
theorem kNeq29 {x y : Operand} {p q : Int} {t : Bool} (ho : o.op = .binOp .neq 29 x y 29) (hx : a.eval x = .int .i64 p) (hy : a.eval y = .int .i64 q) (ht : decide (p ≠ q) = t) : Op1 n Tryz.prog o a w (fun v W' => KW (t16 := 48) (.val (.bool t)) v W' ∧ Below w.heap.size w W') := by
 refine Op1.of_run (v := .bool (p != q)) ?_ ⟨congrArg Value.bool (by rw [← ht]; by_cases h : p = q <;> simp [h]), Below.refl _ _⟩
 unfold execOp
 rw [ho]
 simp only [hx, hy]
 simp [go_sem]
theorem kAlloc26 (ho : o.op = .alloc 26) : Op1 n Tryz.prog o a w (fun v W' => v = .pointer (some ⟨w.heap.size, 0, none⟩) ∧ W' = w.alloc (.cells #[.bool false, .slice none 0 0, .bool false, .slice none 0 0] 26)) := by
 refine Op1.of_run (v := .pointer (some ⟨w.heap.size, 0, none⟩)) (w' := w.alloc (.cells #[.bool false, .slice none 0 0, .bool false, .slice none 0 0] 26)) ?_ ⟨rfl, rfl⟩
 unfold execOp
 rw [ho]
 simp [go_sem]
theorem kSlice2 {x y : Nat} {b1 s1 b2 s2 b3 s3 b4 s4 : Value} (ho : o.op = .buildSlice 38 2 #[(0, .tmp x), (1, .tmp y)]) (hx : a.tmps.getD x undef = .agg #[b1, s1, b2, s2]) (hy : a.tmps.getD y undef = .agg #[b3, s3, b4, s4]) :
 Op1 n Tryz.prog o a w (fun v W' => v = .slice (some ⟨w.heap.size, 0, none⟩) 2 2 ∧ W' = w.alloc (.cells #[b1, s1, b2, s2, b3, s3, b4, s4] 26)) := by
 refine Op1.of_run (v := .slice (some ⟨w.heap.size, 0, none⟩) 2 2) (w' := w.alloc (.cells #[b1, s1, b2, s2, b3, s3, b4, s4] 26)) ?_ ⟨rfl, rfl⟩
 unfold execOp
 rw [ho]
 simp only [Array.getD_eq_getD_getElem?] at hx hy
 simp [go_sem, hx, hy]
def raw (ng : Bool) (zs : List Int) : SK48 := ⟨fun v W => ∃ p l c, v = .agg #[.bool ng, .slice p l c] ∧ Lims W.heap.size W (.slice p l c) zs, fun _ _ _ hk ⟨p, l, c, e, h⟩ => ⟨p, l, c, e, h.kept hk⟩⟩
def frw (n1 : Bool) (z1 : List Int) (n2 : Bool) (z2 : List Int) : SK48 := ⟨fun v W => ∃ p1 l1 c1 p2 l2 c2, v = .agg #[.bool n1, .slice p1 l1 c1, .bool n2, .slice p2 l2 c2] ∧ Lims W.heap.size W (.slice p1 l1 c1) z1 ∧ Lims W.heap.size W (.slice p2 l2 c2) z2,
 fun _ _ _ hk ⟨p1, l1, c1, p2, l2, c2, e, h1, h2⟩ => ⟨p1, l1, c1, p2, l2, c2, e, h1.kept hk, h2.kept hk⟩⟩
end Go.Proofs.YtihdbjilolmfiaaGreatDoor
namespace Go.Proofs.YtihdbjilolmfiaaGreatDoor
open Go.RowKit Go.WM Go.WR
abbrev vT : Kd := .val (.bool true)
abbrev vF : Kd := .val (.bool false)
abbrev vZ : Kd := .val (.int .i64 0)
theorem kk {k : Kd} {s : SK48} {x : Value} {W : World} (h : KW k x W) (e : k = .k s) : Is s x W := by subst e; exact h
theorem kPut {n : Nat} {o : Oper} {a : Act} {W : World} {k : Kd} {x y : Operand} {ty : TypeId} {B off T z : Nat} {c : Array Value} {q v : Value} (ho : o.op = .store ty x y) (e : q = v) (hx : a.eval x = .pointer (some ⟨B, off, none⟩)) (hy : a.eval y = q) (hc : W.heap[B]? = some (.cells c T)) (hcs : c.size = z) (hi : (Tryz.prog.info? ty).map (·.size) = some v.cells.size) (hk : k = .any := by rfl) (hg : o.guard = none := by rfl) (h1 : Nat.ble (off + v.cells.size) z = true := by rfl) (h2 : noLimb v.cells = true := by rfl) (h3 : v.cells.toList.all (·.oneCell') = true := by rfl) :
    k = .any ∧ o.guard = none ∧ off + q.cells.size ≤ z ∧ noLimb q.cells = true ∧ Op1 n Tryz.prog o a W (fun _ W' => W' = W.setRow B (splice c off q.cells)) := by
  subst e
  exact ⟨hk, hg, Nat.le_of_ble_eq_true h1, h2, kStore hi ho hx hy hc (by rw [hcs]; exact Nat.le_of_ble_eq_true h1) h3⟩
theorem kL24 {n : Nat} {o : Oper} {a : Act} {w : World} {x : Operand} {B off T : Nat} {cs : Array Value} {c0 c1 : Value} (ho : o.op = .load 24 x) (hx : a.eval x = .pointer (some ⟨B, off, none⟩)) (hb : w.heap[B]? = some (.cells cs T)) (hr : (cs.toList.drop off).take 2 = [c0, c1]) : Op1 n Tryz.prog o a w (fun v W' => KW (t16 := 48) (.val (.agg #[c0, c1])) v W' ∧ Below w.heap.size w W') :=
  kLoad (rs := [c0, c1]) Tryz.underlying24 rfl (by kernel_rfl) ho hx hb hr rfl
theorem kL26 {n : Nat} {o : Oper} {a : Act} {w : World} {x : Operand} {B T : Nat} {c0 c1 c2 c3 : Value} (ho : o.op = .load 26 x) (hx : a.eval x = .pointer (some ⟨B, 0, none⟩)) (hb : w.heap[B]? = some (.cells #[c0, c1, c2, c3] T)) : Op1 n Tryz.prog o a w (fun v W' => KW (t16 := 48) (.val (.agg #[c0, c1, c2, c3])) v W' ∧ Below w.heap.size w W') :=
  kLoad (rs := [c0, c1, c2, c3]) Tryz.underlying26 rfl (by kernel_rfl) ho hx hb rfl rfl
end Go.Proofs.YtihdbjilolmfiaaGreatDoor
namespace Go.Proofs.YtihdbjilolmfiaaGreatDoor
open Go.RowKit Go.WM Go.WR
attribute [local go_sem] Oper.semAt_some
theorem alloc5 (w : World) (a b c d e : Obj) : (((((w.alloc a).alloc b).alloc c).alloc d).alloc e).heap[w.heap.size]? = some a ∧ (((((w.alloc a).alloc b).alloc c).alloc d).alloc e).heap[w.heap.size + 1]? = some b ∧ (((((w.alloc a).alloc b).alloc c).alloc d).alloc e).heap[w.heap.size + 1 + 1]? = some c ∧ (((((w.alloc a).alloc b).alloc c).alloc d).alloc e).heap[w.heap.size + 1 + 1 + 1]? = some d ∧ (((((w.alloc a).alloc b).alloc c).alloc d).alloc e).heap[w.heap.size + 1 + 1 + 1 + 1]? = some e :=
 ⟨alloc_old _ _ (alloc4 w a b c d).1, alloc_old _ _ (alloc4 w a b c d).2.1, alloc_old _ _ (alloc4 w a b c d).2.2.1, alloc_old _ _ (alloc4 w a b c d).2.2.2, alloc_new _ _ (by rw [World.size_alloc, World.size_alloc, World.size_alloc, World.size_alloc])⟩
structure Floor (a b q r : Int) : Prop where
 eq : a = q * b + r
 pos : 0 < b → 0 ≤ r ∧ r < b
 neg : b < 0 → b < r ∧ r ≤ 0
theorem Floor.unique {a b q r q' r' : Int} (hb : b ≠ 0) (h : Floor a b q r) (h' : Floor a b q' r') : q = q' ∧ r = r' := by
 have e : (q - q') * b = r' - r := by rw [Int.sub_mul]; have := h.eq; have := h'.eq; omega
 have hq : q - q' = 0 := by
  rcases (show 0 < b ∨ b < 0 by omega) with hp | hn
  · obtain ⟨h1, h2⟩ := h.pos hp
    obtain ⟨h3, h4⟩ := h'.pos hp
    rcases (show q - q' = 0 ∨ 1 ≤ q - q' ∨ q - q' ≤ -1 by omega) with k | k | k
    · exact k
    · have := Int.mul_le_mul_of_nonneg_right k (show 0 ≤ b by omega); omega
    · have := Int.mul_le_mul_of_nonneg_right k (show 0 ≤ b by omega); omega
  · obtain ⟨h1, h2⟩ := h.neg hn
    obtain ⟨h3, h4⟩ := h'.neg hn
    rcases (show q - q' = 0 ∨ 1 ≤ q - q' ∨ q - q' ≤ -1 by omega) with k | k | k
    · exact k
    · have := Int.mul_le_mul_of_nonpos_right k (show b ≤ 0 by omega); omega
    · have := Int.mul_le_mul_of_nonpos_right k (show b ≤ 0 by omega); omega
 rw [hq, Int.zero_mul] at e
 omega
theorem floor_same {a b : Int} (hb : b ≠ 0) (h : decide (a < 0) = decide (b < 0)) : Floor a b ((a.natAbs : Int) / b.natAbs) (sgn (decide (b < 0)) ((a.natAbs : Int) % b.natAbs)) := by
 have h1 := Int.mul_ediv_add_emod (a.natAbs : Int) b.natAbs
 have h2 := Int.emod_nonneg (a.natAbs : Int) (show (b.natAbs : Int) ≠ 0 by omega)
 have h3 := Int.emod_lt_of_pos (a.natAbs : Int) (show (0 : Int) < b.natAbs by omega)
 generalize (a.natAbs : Int) / b.natAbs = q at *
 generalize (a.natAbs : Int) % b.natAbs = r at *
 rcases (show b < 0 ∨ 0 < b by omega) with hn | hp
 · have ha : a < 0 := by rw [decide_eq_true hn] at h; exact of_decide_eq_true h
   rw [decide_eq_true hn, sgn_true]
   rw [show (b.natAbs : Int) = -b by omega, Int.neg_mul, Int.mul_comm] at h1
   exact ⟨by omega, fun _ => by omega, fun _ => by omega⟩
 · have ha : ¬ a < 0 := by rw [decide_eq_false (show ¬ b < 0 by omega)] at h; exact of_decide_eq_false h
   rw [decide_eq_false (show ¬ b < 0 by omega), sgn_false]
   rw [show (b.natAbs : Int) = b by omega, Int.mul_comm] at h1
   exact ⟨by omega, fun _ => by omega, fun _ => by omega⟩
theorem floor_zero {a b : Int} (hb : b ≠ 0) (h : decide (a < 0) ≠ decide (b < 0)) (hr : (a.natAbs : Int) % b.natAbs = 0) : Floor a b (-((a.natAbs : Int) / b.natAbs)) 0 := by
 have h1 := Int.mul_ediv_add_emod (a.natAbs : Int) b.natAbs
 generalize (a.natAbs : Int) / b.natAbs = q at *
 rw [hr] at h1
 rcases (show b < 0 ∨ 0 < b by omega) with hn | hp
 · have ha : ¬ a < 0 := fun ha => h (by rw [decide_eq_true ha, decide_eq_true hn])
   rw [show (b.natAbs : Int) = -b by omega, Int.neg_mul, Int.mul_comm] at h1
   exact ⟨by rw [Int.neg_mul]; omega, fun _ => by omega, fun _ => by omega⟩
 · have ha : a < 0 := by
    rcases (show a < 0 ∨ ¬ a < 0 by omega) with h' | h'
    · exact h'
    · exact absurd (by rw [decide_eq_false h', decide_eq_false (show ¬ b < 0 by omega)]) h
   rw [show (b.natAbs : Int) = b by omega, Int.mul_comm] at h1
   exact ⟨by rw [Int.neg_mul]; omega, fun _ => by omega, fun _ => by omega⟩
theorem floor_diff {a b : Int} (hb : b ≠ 0) (h : decide (a < 0) ≠ decide (b < 0)) (hr : 0 < (a.natAbs : Int) % b.natAbs) : Floor a b (-((a.natAbs : Int) / b.natAbs + 1)) (sgn (decide (b < 0)) (b.natAbs - (a.natAbs : Int) % b.natAbs)) := by
 have h1 := Int.mul_ediv_add_emod (a.natAbs : Int) b.natAbs
 have h3 := Int.emod_lt_of_pos (a.natAbs : Int) (show (0 : Int) < b.natAbs by omega)
 generalize (a.natAbs : Int) / b.natAbs = q at *
 generalize (a.natAbs : Int) % b.natAbs = r at *
 rcases (show b < 0 ∨ 0 < b by omega) with hn | hp
 · have ha : ¬ a < 0 := fun ha => h (by rw [decide_eq_true ha, decide_eq_true hn])
   rw [decide_eq_true hn, sgn_true]
   rw [show (b.natAbs : Int) = -b by omega, Int.neg_mul, Int.mul_comm] at h1
   exact ⟨by rw [Int.neg_mul, Int.add_mul]; omega, fun _ => by omega, fun _ => by omega⟩
 · have ha : a < 0 := by
    rcases (show a < 0 ∨ ¬ a < 0 by omega) with h' | h'
    · exact h'
    · exact absurd (by rw [decide_eq_false h', decide_eq_false (show ¬ b < 0 by omega)]) h
   rw [decide_eq_false (show ¬ b < 0 by omega), sgn_false]
   rw [show (b.natAbs : Int) = b by omega, Int.mul_comm] at h1
   exact ⟨by rw [Int.neg_mul, Int.add_mul]; omega, fun _ => by omega, fun _ => by omega⟩
theorem quo_le {x y : Int} (hx : 0 ≤ x) (hy : 0 < y) : x / y ≤ x ∧ (0 < x % y → x / y + 1 ≤ x) := by
 have h1 := Int.mul_ediv_add_emod x y
 have h2 := Int.emod_nonneg x (show y ≠ 0 by omega)
 have h3 := Int.ediv_nonneg hx (show 0 ≤ y by omega)
 have h4 := Int.mul_le_mul_of_nonneg_right (show 1 ≤ y by omega) h3
 omega
def DivModPost (a b : Int) (w : World) (e : Ending) (w' : World) : Prop :=
 ∃ (b1 b2 : Bool) (p1 : Option Addr) (l1 c1 : Nat) (p2 : Option Addr) (l2 c2 : Nat) (q r : Int), e = .returned (.tuple #[.agg #[.bool b1, .slice p1 l1 c1], .agg #[.bool b2, .slice p2 l2 c2], .int .i64 0]) ∧
  Floor a b q r ∧ Wo w.heap.size w' (.agg #[.bool b1, .slice p1 l1 c1]) q ∧ Wo w.heap.size w' (.agg #[.bool b2, .slice p2 l2 c2]) r ∧ Below w.heap.size w w'
theorem put22 {W : World} {x y : Nat} (hne : x ≠ y) {a0 a1 b0 b1 : Value} (hx : W.heap[x]? = some (.cells #[a0, a1] 24)) (hy : W.heap[y]? = some (.cells #[b0, b1] 24)) (a b c d : Value) :
 (put2 (put2 W x a b) y c d).cell? ⟨x, 0, none⟩ = some a ∧ (put2 (put2 W x a b) y c d).cell? ⟨x, 1, none⟩ = some b ∧ (put2 (put2 W x a b) y c d).cell? ⟨y, 0, none⟩ = some c ∧ (put2 (put2 W x a b) y c d).cell? ⟨y, 1, none⟩ = some d := by
 have hy2 : (put2 W x a b).heap[y]? = some (.cells #[b0, b1] 24) := ((put2_only W x a b).block y (Ne.symm hne)).trans hy
 obtain ⟨h0, h1⟩ := put2_cell hx a b
 obtain ⟨h2, h3⟩ := put2_cell hy2 c d
 exact ⟨((put2_only _ y c d).cell (p := ⟨x, 0, none⟩) hne).trans h0, ((put2_only _ y c d).cell (p := ⟨x, 1, none⟩) hne).trans h1, h2, h3⟩
end Go.Proofs.YtihdbjilolmfiaaGreatDoor
