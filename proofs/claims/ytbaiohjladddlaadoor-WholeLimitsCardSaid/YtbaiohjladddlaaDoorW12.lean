import Derived.Test.YtbaiohjladddlaaDoorW10
/- whole: numbers; made. -/
namespace Go.Proofs.YtbaiohjladddlaaDoor
open Go.RowKit Go.WM Go.WR

attribute [local go_sem] Oper.semAt_some

/-- the first number that is too long -/
def Cap : Int := 65536 ^ 1024
theorem Cap.eq : Cap = 65536 ^ 1024 := rfl
attribute [irreducible] Cap

def sgn (neg : Bool) (n : Int) : Int := bif neg then -n else n
theorem sgn_true (n : Int) : sgn true n = -n := rfl
theorem sgn_false (n : Int) : sgn false n = n := rfl

/-- a number as it is handed in: its sign and its limbs can be read below n₀ -/
def Wr (n₀ : Nat) (W : World) (v : Value) (neg : Bool) (zs : List Int) : Prop := ∃ sv, v = .agg #[.bool neg, sv] ∧ Lims n₀ W sv zs
/-- a number whose limbs are its own: in blocks from B on -/
def Wo (B : Nat) (W : World) (v : Value) (z : Int) : Prop := ∃ sv zs, v = .agg #[.bool (decide (z < 0)), sv] ∧ Own16 B W sv zs ∧ Rep zs z.natAbs ∧ z.natAbs < Cap
/-- a valid number: it can be read below n₀ -/
def Wn (n₀ : Nat) (W : World) (v : Value) (z : Int) : Prop := ∃ sv zs, v = .agg #[.bool (decide (z < 0)), sv] ∧ Lims n₀ W sv zs ∧ Rep zs z.natAbs ∧ z.natAbs < Cap

theorem Wo.num {B : Nat} {W : World} {v : Value} {z : Int} : Wo B W v z → Wn W.heap.size W v z
  | ⟨sv, zs, e, h, r⟩ => ⟨sv, zs, e, h.lims, r⟩
theorem Wn.below {n₀ : Nat} {W W' : World} {v : Value} {z : Int} (hb : Below n₀ W W') : Wn n₀ W v z → Wn n₀ W' v z
  | ⟨sv, zs, e, h, r⟩ => ⟨sv, zs, e, h.below hb, r⟩
theorem Wn.mono {n₀ n₁ : Nat} {W : World} {v : Value} {z : Int} (hn : n₀ ≤ n₁) : Wn n₀ W v z → Wn n₁ W v z
  | ⟨sv, zs, e, h, r⟩ => ⟨sv, zs, e, h.mono hn, r⟩
theorem Wo.mono {B B' : Nat} {W : World} {v : Value} {z : Int} (hn : B' ≤ B) : Wo B W v z → Wo B' W v z
  | ⟨sv, zs, e, h, r⟩ => ⟨sv, zs, e, h.mono hn, r⟩
theorem Wo.below {B : Nat} {W W' : World} {v : Value} {z : Int} (hb : Below W.heap.size W W') : Wo B W v z → Wo B W' v z
  | ⟨sv, zs, e, h, r⟩ => ⟨sv, zs, e, h.below hb, r⟩

theorem cell_of {W : World} {B t : Nat} {cs : Array Value} (h : W.heap[B]? = some (.cells cs t)) (o : Nat) {v : Value} (hv : cs[o]? = some v) : W.cell? ⟨B, o, none⟩ = some v := by
  simp [World.cell?, h, hv]
theorem frozen_of {W : World} {B t : Nat} {cs : Array Value} (h : W.heap[B]? = some (.cells cs t)) (o : Nat) : W.frozen? ⟨B, o, none⟩ = false := by
  simp [World.frozen?, h]

theorem alloc_new (w : World) (a : Obj) {k : Nat} (hk : k = w.heap.size) : (w.alloc a).heap[k]? = some a := by rw [hk]; exact World.alloc_heap_new w a
theorem alloc_old (w : World) (a : Obj) {k : Nat} {o : Obj} (h : w.heap[k]? = some o) : (w.alloc a).heap[k]? = some o := (Below.heap_alloc _ _ _ (Array.getElem?_eq_some_iff.1 h).1).trans h
theorem alloc3 (w : World) (a b c : Obj) : (((w.alloc a).alloc b).alloc c).heap[w.heap.size]? = some a ∧ (((w.alloc a).alloc b).alloc c).heap[w.heap.size + 1]? = some b ∧ (((w.alloc a).alloc b).alloc c).heap[w.heap.size + 1 + 1]? = some c :=
  ⟨alloc_old _ _ (alloc_old _ _ (alloc_new _ _ rfl)), alloc_old _ _ (alloc_new _ _ (by rw [World.size_alloc])), alloc_new _ _ (by rw [World.size_alloc, World.size_alloc])⟩
theorem alloc4 (w : World) (a b c d : Obj) : ((((w.alloc a).alloc b).alloc c).alloc d).heap[w.heap.size]? = some a ∧ ((((w.alloc a).alloc b).alloc c).alloc d).heap[w.heap.size + 1]? = some b ∧ ((((w.alloc a).alloc b).alloc c).alloc d).heap[w.heap.size + 1 + 1]? = some c ∧ ((((w.alloc a).alloc b).alloc c).alloc d).heap[w.heap.size + 1 + 1 + 1]? = some d :=
  ⟨alloc_old _ _ (alloc3 w a b c).1, alloc_old _ _ (alloc3 w a b c).2.1, alloc_old _ _ (alloc3 w a b c).2.2, alloc_new _ _ (by rw [World.size_alloc, World.size_alloc, World.size_alloc])⟩

theorem Own16.len' {B : Nat} {W : World} {p : Option Addr} {l c : Nat} {zs : List Int} (h : Own16 B W (.slice p l c) zs) : l = zs.length := h.lims.cells.1

/-- the zero value of a number -/
def zeroW : Value := .agg #[.bool false, .slice none 0 0]

/-- a number and an error number, for an answer z: the number, where it is short enough; else the zero value and ErrLong -/
def FitW (B : Nat) (W : World) (v : Value) (er z : Int) : Prop := (z.natAbs < Cap ∧ er = 0 ∧ Wo B W v z) ∨ (Cap ≤ z.natAbs ∧ er = 3 ∧ v = zeroW)
theorem FitW.below {B : Nat} {W W' : World} {v : Value} {er z : Int} (hb : Below W.heap.size W W') : FitW B W v er z → FitW B W' v er z
  | .inl ⟨h1, h2, h3⟩ => .inl ⟨h1, h2, h3.below hb⟩
  | .inr h => .inr h
theorem FitW.mono {B B' : Nat} {W : World} {v : Value} {er z : Int} (hb : B' ≤ B) : FitW B W v er z → FitW B' W v er z
  | .inl ⟨h1, h2, h3⟩ => .inl ⟨h1, h2, h3.mono hb⟩
  | .inr h => .inr h
theorem FitW.len {B : Nat} {W : World} {b : Bool} {sv : Value} {er z : Int} (h : FitW B W (.agg #[.bool b, sv]) er z) : ∃ p l c, sv = .slice p l c := by
  rcases h with ⟨_, _, sv', zs, e, h, _⟩ | ⟨_, _, e⟩
  · cases e; exact h.shape
  · cases e; exact ⟨_, _, _, rfl⟩

/-- what made(neg, l) answers -/
def FitPost (B : Nat) (z : Int) (w : World) (e : Ending) (w' : World) : Prop :=
  ∃ (b : Bool) (p : Option Addr) (l c : Nat) (er : Int), e = .returned (.tuple #[.agg #[.bool b, .slice p l c], .int .i64 er]) ∧ FitW B w' (.agg #[.bool b, .slice p l c]) er z ∧ Below w.heap.size w w'

/-- a row of limbs of one's own, for a value -/
def OwnR (B : Nat) (W : World) (v : Value) (zs : List Int) (n : Int) : Prop := Own16 B W v zs ∧ Rep zs n
theorem OwnR.below {B : Nat} {W W' : World} {v : Value} {zs : List Int} {n : Int} (hb : Below W.heap.size W W') (h : OwnR B W v zs n) : OwnR B W' v zs n := ⟨h.1.below hb, h.2⟩

/-- a store into a box of another type leaves a row of limbs -/
theorem Own16.cellsBox {B : Nat} {W : World} {v : Value} {zs : List Int} (h : Own16 B W v zs) {Bx t : Nat} {cs : Array Value} (hb : W.heap[Bx]? = some (.cells cs t)) (ht : t ≠ 40) (o : Nat) (x : Value) : Own16 B (W.setCell ⟨Bx, o, none⟩ x) v zs := by
  refine World.ownsRow.kept h (row := some Bx) ((Only.refl Bx W).setCell o x).grown ?_
  rcases h.2 with ⟨rfl, _⟩ | ⟨g, cap, cur, rfl, _, hh, _⟩
  · exact .inl rfl
  · refine .inr fun e => ht ?_
    obtain rfl : g = Bx := by cases e; rfl
    rw [hh] at hb
    cases hb; rfl
theorem Wo.cellsBox {B : Nat} {W : World} {v : Value} {z : Int} {Bx t : Nat} {cs : Array Value} (hb : W.heap[Bx]? = some (.cells cs t)) (ht : t ≠ 40) (o : Nat) (x : Value) : Wo B W v z → Wo B (W.setCell ⟨Bx, o, none⟩ x) v z
  | ⟨sv, zs, e, h, r⟩ => ⟨sv, zs, e, h.cellsBox hb ht o x, r⟩
theorem FitW.cellsBox {B : Nat} {W : World} {v : Value} {er z : Int} {Bx t : Nat} {cs : Array Value} (hb : W.heap[Bx]? = some (.cells cs t)) (ht : t ≠ 40) (o : Nat) (x : Value) : FitW B W v er z → FitW B (W.setCell ⟨Bx, o, none⟩ x) v er z
  | .inl ⟨h1, h2, h3⟩ => .inl ⟨h1, h2, h3.cellsBox hb ht o x⟩
  | .inr h => .inr h

/-- a store of a number into its box -/
def put2 (W : World) (Bx : Nat) (a b : Value) : World := (W.setCell ⟨Bx, 0, none⟩ a).setCell ⟨Bx, 1, none⟩ b
theorem put2_only (W : World) (Bx : Nat) (a b : Value) : Only Bx W (put2 W Bx a b) := ((Only.refl Bx W).setCell 0 a).setCell 1 b
theorem put2_cell {W : World} {Bx t : Nat} {x y : Value} (hb : W.heap[Bx]? = some (.cells #[x, y] t)) (a b : Value) : (put2 W Bx a b).cell? ⟨Bx, 0, none⟩ = some a ∧ (put2 W Bx a b).cell? ⟨Bx, 1, none⟩ = some b := by
  have h0 := World.cell?_setCell_same W ⟨Bx, 0, none⟩ a (cell_of hb 0 rfl)
  have h1 : (W.setCell ⟨Bx, 0, none⟩ a).cell? ⟨Bx, 1, none⟩ = some y := (World.cell?_setCell_other _ _ _ _ (by intro e; cases e)).trans (cell_of hb 1 rfl)
  exact ⟨(World.cell?_setCell_other _ _ _ _ (by intro e; cases e)).trans h0, World.cell?_setCell_same _ _ _ h1⟩
theorem Own16.put2 {B : Nat} {W : World} {v : Value} {zs : List Int} (h : Own16 B W v zs) {Bx t : Nat} {cs : Array Value} (hb : W.heap[Bx]? = some (.cells cs t)) (ht : t ≠ 40) (a b : Value) : Own16 B (put2 W Bx a b) v zs := by
  refine World.ownsRow.kept h (row := some Bx) (put2_only W Bx a b).grown ?_
  rcases h.2 with ⟨rfl, _⟩ | ⟨g, cap, cur, rfl, _, hh, _⟩
  · exact .inl rfl
  · refine .inr fun e => ht ?_
    obtain rfl : g = Bx := by cases e; rfl
    rw [hh] at hb
    cases hb; rfl
theorem Wo.put2 {B : Nat} {W : World} {v : Value} {z : Int} {Bx t : Nat} {cs : Array Value} (hb : W.heap[Bx]? = some (.cells cs t)) (ht : t ≠ 40) (a b : Value) : Wo B W v z → Wo B (put2 W Bx a b) v z
  | ⟨sv, zs, e, h, r⟩ => ⟨sv, zs, e, h.put2 hb ht a b, r⟩
theorem FitW.put2 {B : Nat} {W : World} {v : Value} {er z : Int} {Bx t : Nat} {cs : Array Value} (hb : W.heap[Bx]? = some (.cells cs t)) (ht : t ≠ 40) (a b : Value) : FitW B W v er z → FitW B (put2 W Bx a b) v er z
  | .inl ⟨h1, h2, h3⟩ => .inl ⟨h1, h2, h3.put2 hb ht a b⟩
  | .inr h => .inr h

end Go.Proofs.YtbaiohjladddlaaDoor
namespace Go.WM
open Go.RowKit Go.Proofs.YtbaiohjladddlaaDoor
theorem Rep.cap {zs : List Int} {n : Int} (h : Rep zs n) : zs.length ≤ 1024 ↔ n < Cap := by rw [Cap.eq]; exact h.len_le_iff 1024
theorem Rep.pos {zs : List Int} {n : Int} (h : Rep zs n) : 0 < zs.length ↔ 0 < n := by
  have h0 := h.nonneg
  have h1 := h.zero_iff
  rw [← List.length_eq_zero_iff] at h1
  omega
end Go.WM
namespace Go.Proofs.YtbaiohjladddlaaDoor
open Go.RowKit Go.WM Go.WR
attribute [local go_sem] Oper.semAt_some
theorem sgn_abs {zs : List Int} {n : Int} (neg : Bool) (h : Rep zs n) : ((sgn neg n).natAbs : Int) = n := by
  have := h.nonneg
  cases neg <;> simp only [sgn, cond_true, cond_false] <;> omega
theorem sgn_neg {zs : List Int} {n : Int} (neg : Bool) (h : Rep zs n) : decide (sgn neg n < 0) = (neg && decide (0 < zs.length)) := by
  have h1 := h.pos
  have h0 := h.nonneg
  cases neg
  · rw [sgn_false, Bool.false_and]; exact decide_eq_false (by omega)
  · rw [sgn_true, Bool.true_and]; exact decide_eq_decide.2 (by rw [h1]; omega)
theorem Wo.of {B : Nat} {W : World} {sv : Value} {zs : List Int} {n : Int} (neg : Bool) (hO : Own16 B W sv zs) (hR : Rep zs n) (hn : n < Cap) : Wo B W (.agg #[.bool (neg && decide (0 < zs.length)), sv]) (sgn neg n) :=
  ⟨sv, zs, by rw [sgn_neg neg hR], hO, by rw [sgn_abs neg hR]; exact hR, by rw [sgn_abs neg hR]; exact hn⟩

set_option maxRecDepth 100000 in
set_option maxHeartbeats 1000000 in
theorem made_any (neg : Bool) (sv : Value) (zs : List Int) (n : Int) (B : Nat) (w : World) (hR : Rep zs n) (hO : Own16 B w sv zs) (hlen : zs.length ≤ 140737488355328) :
    Calls Tryd.prog 55 #[.bool neg, sv] w (FitPost B (sgn neg n) w) := by
  obtain ⟨p, l, c, rfl⟩ := hO.shape
  have hL := Lib.hid hO.lims.cells.1
  have bR := Boxed.new w 24 (.agg #[.bool false, .slice none 0 0])
  go_enter Tryd.func55, Tryd.ntmps55
  go_wp2
  · -- too long
    refine bodyPost_ret (v := .tuple #[.agg #[.bool false, .slice none 0 0], .int .i64 3]) (by simp [results, Tryd.results55, go_sem]) rfl ⟨_, _, _, _, _, rfl, .inr ⟨?_, rfl, rfl⟩, (Below.refl _ _).alloc (Nat.le_refl _) _⟩
    rw [sgn_abs neg hR]
    have h1 := hR.cap
    have := hL.out
    omega
  · obtain rfl : l = zs.length := hL.out
    have h1 := hR.cap
    subst neg
    refine bodyPost_ret (v := .tuple #[.agg #[.bool (decide (0 < zs.length)), .slice p zs.length c], .int .i64 0]) (by simp [results, Tryd.results55, go_sem]) rfl ⟨_, _, _, _, _, rfl, .inl ⟨by rw [sgn_abs _ hR]; omega, rfl, Wo.of true (hO.alloc _) hR (by omega)⟩, (Below.refl _ _).alloc (Nat.le_refl _) _⟩
  · obtain rfl : l = zs.length := hL.out
    have h1 := hR.cap
    obtain rfl : neg = false := by simpa using ‹¬neg = true›
    refine bodyPost_ret (v := .tuple #[.agg #[.bool false, .slice p zs.length c], .int .i64 0]) (by simp [results, Tryd.results55, go_sem]) rfl ⟨_, _, _, _, _, rfl, .inl ⟨by rw [sgn_abs _ hR]; omega, rfl, Wo.of false (hO.alloc _) hR (by omega)⟩, (Below.refl _ _).alloc (Nat.le_refl _) _⟩

end Go.Proofs.YtbaiohjladddlaaDoor
