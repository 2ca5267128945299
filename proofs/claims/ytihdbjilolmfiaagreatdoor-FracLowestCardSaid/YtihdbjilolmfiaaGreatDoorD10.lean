import Derived.Test.YtihdbjilolmfiaaGreatDoorD08
import Derived.Test.YtihdbjilolmfiaaGreatDoorD09
import Derived.Test.YtihdbjilolmfiaaGreatDoorD01
set_option maxRecDepth 100000
set_option maxHeartbeats 4000000
namespace Go.Proofs.YtihdbjilolmfiaaGreatDoor
open Go.RowKit Go.WM Go.WR
attribute [local go_sem] Oper.semAt_some
def Cap : Int := 65536 ^ 1024
theorem Cap.eq : Cap = 65536 ^ 1024 := rfl
attribute [irreducible] Cap
def sgn (neg : Bool) (n : Int) : Int := bif neg then -n else n
theorem sgn_true (n : Int) : sgn true n = -n := rfl
theorem sgn_false (n : Int) : sgn false n = n := rfl
def Wr (n₀ : Nat) (W : World) (v : Value) (neg : Bool) (zs : List Int) : Prop := ∃ sv, v = .agg #[.bool neg, sv] ∧ Lims n₀ W sv zs
def Wo (B : Nat) (W : World) (v : Value) (z : Int) : Prop := ∃ sv zs, v = .agg #[.bool (decide (z < 0)), sv] ∧ Own16 B W sv zs ∧ Rep zs z.natAbs ∧ z.natAbs < Cap
def Wn (n₀ : Nat) (W : World) (v : Value) (z : Int) : Prop := ∃ sv zs, v = .agg #[.bool (decide (z < 0)), sv] ∧ Lims n₀ W sv zs ∧ Rep zs z.natAbs ∧ z.natAbs < Cap
theorem Wo.num {B : Nat} {W : World} {v : Value} {z : Int} : Wo B W v z → Wn W.heap.size W v z
 | ⟨sv, zs, e, h, r⟩ => ⟨sv, zs, e, h.lims, r⟩
theorem Wn.below {n₀ : Nat} {W W' : World} {v : Value} {z : Int} (hb : Below n₀ W W') : Wn n₀ W v z → Wn n₀ W' v z
 | ⟨sv, zs, e, h, r⟩ => ⟨sv, zs, e, h.below hb, r⟩
theorem Wn.mono {n₀ n₁ : Nat} {W : World} {v : Value} {z : Int} (hn : n₀ ≤ n₁) : Wn n₀ W v z → Wn n₁ W v z
 | ⟨sv, zs, e, h, r⟩ => ⟨sv, zs, e, h.mono hn, r⟩
theorem Wo.mono {B B' : Nat} {W : World} {v : Value} {z : Int} (hn : B' ≤ B) : Wo B W v z → Wo B' W v z
 | ⟨sv, zs, e, h, r⟩ => ⟨sv, zs, e, h.mono hn, r⟩
theorem Wo.below {B : Nat} {W W' : World} {v : Value} {z : Int} (hb : Below W.heap.size W W') : Wo B W v z → Wo B W' v z
 | ⟨sv, zs, e, h, r⟩ => ⟨sv, zs, e, h.below hb, r⟩
theorem cell_of {W : World} {B t : Nat} {cs : Array Value} (h : W.heap[B]? = some (.cells cs t)) (o : Nat) {v : Value} (hv : cs[o]? = some v) : W.cell? ⟨B, o, none⟩ = some v := by
 simp [World.cell?, h, hv]
theorem frozen_of {W : World} {B t : Nat} {cs : Array Value} (h : W.heap[B]? = some (.cells cs t)) (o : Nat) : W.frozen? ⟨B, o, none⟩ = false := by
 simp [World.frozen?, h]
theorem alloc_new (w : World) (a : Obj) {k : Nat} (hk : k = w.heap.size) : (w.alloc a).heap[k]? = some a := by rw [hk]; exact World.alloc_heap_new w a
theorem alloc_old (w : World) (a : Obj) {k : Nat} {o : Obj} (h : w.heap[k]? = some o) : (w.alloc a).heap[k]? = some o := (Below.heap_alloc _ _ _ (Array.getElem?_eq_some_iff.1 h).1).trans h
theorem alloc3 (w : World) (a b c : Obj) : (((w.alloc a).alloc b).alloc c).heap[w.heap.size]? = some a ∧ (((w.alloc a).alloc b).alloc c).heap[w.heap.size + 1]? = some b ∧ (((w.alloc a).alloc b).alloc c).heap[w.heap.size + 1 + 1]? = some c :=
 ⟨alloc_old _ _ (alloc_old _ _ (alloc_new _ _ rfl)), alloc_old _ _ (alloc_new _ _ (by rw [World.size_alloc])), alloc_new _ _ (by rw [World.size_alloc, World.size_alloc])⟩
theorem alloc4 (w : World) (a b c d : Obj) : ((((w.alloc a).alloc b).alloc c).alloc d).heap[w.heap.size]? = some a ∧ ((((w.alloc a).alloc b).alloc c).alloc d).heap[w.heap.size + 1]? = some b ∧ ((((w.alloc a).alloc b).alloc c).alloc d).heap[w.heap.size + 1 + 1]? = some c ∧ ((((w.alloc a).alloc b).alloc c).alloc d).heap[w.heap.size + 1 + 1 + 1]? = some d :=
 ⟨alloc_old _ _ (alloc3 w a b c).1, alloc_old _ _ (alloc3 w a b c).2.1, alloc_old _ _ (alloc3 w a b c).2.2, alloc_new _ _ (by rw [World.size_alloc, World.size_alloc, World.size_alloc])⟩
theorem Own16.len' {B : Nat} {W : World} {p : Option Addr} {l c : Nat} {zs : List Int} (h : Own16 B W (.slice p l c) zs) : l = zs.length := h.lims.cells.1
def zeroW : Value := .agg #[.bool false, .slice none 0 0]
def FitW (B : Nat) (W : World) (v : Value) (er z : Int) : Prop := (z.natAbs < Cap ∧ er = 0 ∧ Wo B W v z) ∨ (Cap ≤ z.natAbs ∧ er = 3 ∧ v = zeroW)
theorem FitW.below {B : Nat} {W W' : World} {v : Value} {er z : Int} (hb : Below W.heap.size W W') : FitW B W v er z → FitW B W' v er z
 | .inl ⟨h1, h2, h3⟩ => .inl ⟨h1, h2, h3.below hb⟩
 | .inr h => .inr h
theorem FitW.mono {B B' : Nat} {W : World} {v : Value} {er z : Int} (hb : B' ≤ B) : FitW B W v er z → FitW B' W v er z
 | .inl ⟨h1, h2, h3⟩ => .inl ⟨h1, h2, h3.mono hb⟩
 | .inr h => .inr h
theorem FitW.len {B : Nat} {W : World} {b : Bool} {sv : Value} {er z : Int} (h : FitW B W (.agg #[.bool b, sv]) er z) : ∃ p l c, sv = .slice p l c := by
 rcases h with ⟨_, _, sv', zs, e, h, _⟩ | ⟨_, _, e⟩
 · cases e; exact h.shape
 · cases e; exact ⟨_, _, _, rfl⟩
def FitPost (B : Nat) (z : Int) (w : World) (e : Ending) (w' : World) : Prop :=
 ∃ (b : Bool) (p : Option Addr) (l c : Nat) (er : Int), e = .returned (.tuple #[.agg #[.bool b, .slice p l c], .int .i64 er]) ∧ FitW B w' (.agg #[.bool b, .slice p l c]) er z ∧ Below w.heap.size w w'
def OwnR (B : Nat) (W : World) (v : Value) (zs : List Int) (n : Int) : Prop := Own16 B W v zs ∧ Rep zs n
theorem OwnR.below {B : Nat} {W W' : World} {v : Value} {zs : List Int} {n : Int} (hb : Below W.heap.size W W') (h : OwnR B W v zs n) : OwnR B W' v zs n := ⟨h.1.below hb, h.2⟩
def put2 (W : World) (Bx : Nat) (a b : Value) : World := (W.setCell ⟨Bx, 0, none⟩ a).setCell ⟨Bx, 1, none⟩ b
theorem put2_only (W : World) (Bx : Nat) (a b : Value) : Only Bx W (put2 W Bx a b) := ((Only.refl Bx W).setCell 0 a).setCell 1 b
theorem put2_cell {W : World} {Bx t : Nat} {x y : Value} (hb : W.heap[Bx]? = some (.cells #[x, y] t)) (a b : Value) : (put2 W Bx a b).cell? ⟨Bx, 0, none⟩ = some a ∧ (put2 W Bx a b).cell? ⟨Bx, 1, none⟩ = some b := by
 have h0 := World.cell?_setCell_same W ⟨Bx, 0, none⟩ a (cell_of hb 0 rfl)
 have h1 : (W.setCell ⟨Bx, 0, none⟩ a).cell? ⟨Bx, 1, none⟩ = some y := (World.cell?_setCell_other _ _ _ _ (by intro e; cases e)).trans (cell_of hb 1 rfl)
 exact ⟨(World.cell?_setCell_other _ _ _ _ (by intro e; cases e)).trans h0, World.cell?_setCell_same _ _ _ h1⟩
theorem Own16.put2 {B : Nat} {W : World} {v : Value} {zs : List Int} (h : Own16 B W v zs) {Bx t : Nat} {cs : Array Value} (hb : W.heap[Bx]? = some (.cells cs t)) (ht : t ≠ 48) (a b : Value) : Own16 B (put2 W Bx a b) v zs := by
 refine World.ownsRow.kept h (row := some Bx) (put2_only W Bx a b).grown ?_
 rcases h.2 with ⟨rfl, _⟩ | ⟨g, cap, cur, rfl, _, hh, _⟩
 · exact .inl rfl
 · refine .inr fun e => ht ?_
   obtain rfl : g = Bx := by cases e; rfl
   rw [hh] at hb
   cases hb; rfl
theorem Wo.put2 {B : Nat} {W : World} {v : Value} {z : Int} {Bx t : Nat} {cs : Array Value} (hb : W.heap[Bx]? = some (.cells cs t)) (ht : t ≠ 48) (a b : Value) : Wo B W v z → Wo B (put2 W Bx a b) v z
 | ⟨sv, zs, e, h, r⟩ => ⟨sv, zs, e, h.put2 hb ht a b, r⟩
theorem FitW.put2 {B : Nat} {W : World} {v : Value} {er z : Int} {Bx t : Nat} {cs : Array Value} (hb : W.heap[Bx]? = some (.cells cs t)) (ht : t ≠ 48) (a b : Value) : FitW B W v er z → FitW B (put2 W Bx a b) v er z
 | .inl ⟨h1, h2, h3⟩ => .inl ⟨h1, h2, h3.put2 hb ht a b⟩
 | .inr h => .inr h
end Go.Proofs.YtihdbjilolmfiaaGreatDoor
namespace Go.WM
open Go.RowKit Go.Proofs.YtihdbjilolmfiaaGreatDoor
theorem Rep.cap {zs : List Int} {n : Int} (h : Rep zs n) : zs.length ≤ 1024 ↔ n < Cap := by rw [Cap.eq]; exact h.len_le_iff 1024
theorem Rep.pos {zs : List Int} {n : Int} (h : Rep zs n) : 0 < zs.length ↔ 0 < n := by
 have h0 := h.nonneg
 have h1 := h.zero_iff
 rw [← List.length_eq_zero_iff] at h1
 omega
end Go.WM
namespace Go.Proofs.YtihdbjilolmfiaaGreatDoor
open Go.RowKit Go.WM Go.WR
attribute [local go_sem] Oper.semAt_some
theorem sgn_abs {zs : List Int} {n : Int} (neg : Bool) (h : Rep zs n) : ((sgn neg n).natAbs : Int) = n := by
 have := h.nonneg
 cases neg <;> simp only [sgn, cond_true, cond_false] <;> omega
theorem sgn_neg {zs : List Int} {n : Int} (neg : Bool) (h : Rep zs n) : decide (sgn neg n < 0) = (neg && decide (0 < zs.length)) := by
 have h1 := h.pos
 have h0 := h.nonneg
 cases neg
 · rw [sgn_false, Bool.false_and]; exact decide_eq_false (by omega)
 · rw [sgn_true, Bool.true_and]; exact decide_eq_decide.2 (by rw [h1]; omega)
theorem Wo.of {B : Nat} {W : World} {sv : Value} {zs : List Int} {n : Int} (neg : Bool) (hO : Own16 B W sv zs) (hR : Rep zs n) (hn : n < Cap) : Wo B W (.agg #[.bool (neg && decide (0 < zs.length)), sv]) (sgn neg n) :=
 ⟨sv, zs, by rw [sgn_neg neg hR], hO, by rw [sgn_abs neg hR]; exact hR, by rw [sgn_abs neg hR]; exact hn⟩
theorem made_any (neg : Bool) (sv : Value) (zs : List Int) (n : Int) (B : Nat) (w : World) (hR : Rep zs n) (hO : Own16 B w sv zs) (hlen : zs.length ≤ 140737488355328) :
 Calls Tryz.prog 96 #[.bool neg, sv] w (FitPost B (sgn neg n) w) := by
 obtain ⟨p, l, c, rfl⟩ := hO.shape
 have hL := Lib.hid hO.lims.cells.1
 have bR := Boxed.new w 24 (.agg #[.bool false, .slice none 0 0])
 go_enter Tryz.func96, Tryz.ntmps96
 go_wp2
 · -- too long
   refine bodyPost_ret (v := .tuple #[.agg #[.bool false, .slice none 0 0], .int .i64 3]) (by simp [results, Tryz.results96, go_sem]) rfl ⟨_, _, _, _, _, rfl, .inr ⟨?_, rfl, rfl⟩, (Below.refl _ _).alloc (Nat.le_refl _) _⟩
   rw [sgn_abs neg hR]
   have h1 := hR.cap
   have := hL.out
   omega
 · obtain rfl : l = zs.length := hL.out
   have h1 := hR.cap
   subst neg
   refine bodyPost_ret (v := .tuple #[.agg #[.bool (decide (0 < zs.length)), .slice p zs.length c], .int .i64 0]) (by simp [results, Tryz.results96, go_sem]) rfl ⟨_, _, _, _, _, rfl, .inl ⟨by rw [sgn_abs _ hR]; omega, rfl, Wo.of true (hO.alloc _) hR (by omega)⟩, (Below.refl _ _).alloc (Nat.le_refl _) _⟩
 · obtain rfl : l = zs.length := hL.out
   have h1 := hR.cap
   obtain rfl : neg = false := by simpa using ‹¬neg = true›
   refine bodyPost_ret (v := .tuple #[.agg #[.bool false, .slice p zs.length c], .int .i64 0]) (by simp [results, Tryz.results96, go_sem]) rfl ⟨_, _, _, _, _, rfl, .inl ⟨by rw [sgn_abs _ hR]; omega, rfl, Wo.of false (hO.alloc _) hR (by omega)⟩, (Below.refl _ _).alloc (Nat.le_refl _) _⟩
end Go.Proofs.YtihdbjilolmfiaaGreatDoor
namespace Go.Proofs.YtihdbjilolmfiaaGreatDoor
open Go.RowKit Go.WM Go.WR
attribute [local go_sem] Oper.semAt_some
def okB (neg : Bool) (zs : List Int) : Bool := decide (zs.length ≤ 1024) && (decide (zs.length = 0) && !neg || decide (0 < zs.length) && !decide (zs[zs.length - 1]?.getD 0 = 0))
theorem okB_true {neg : Bool} {zs : List Int} (h : okB neg zs = true) : zs.length ≤ 1024 ∧ Nz zs ∧ (zs = [] → neg = false) := by
 simp only [okB, Bool.and_eq_true, Bool.or_eq_true, decide_eq_true_eq, Bool.not_eq_true', decide_eq_false_iff_not] at h
 obtain ⟨h1, h2⟩ := h
 refine ⟨h1, ?_, ?_⟩
 · rcases h2 with ⟨h2, _⟩ | ⟨_, h2⟩
   · rw [List.eq_nil_of_length_eq_zero h2]; exact Nz.nil
   · exact Nz.of_last h2
 · rintro rfl
   rcases h2 with ⟨_, h2⟩ | ⟨h2, _⟩
   · exact h2
   · simp at h2
theorem okB_of {neg : Bool} {zs : List Int} (h1 : zs.length ≤ 1024) (h2 : Nz zs) (h3 : zs = [] → neg = false) : okB neg zs = true := by
 simp only [okB, Bool.and_eq_true, Bool.or_eq_true, decide_eq_true_eq, Bool.not_eq_true', decide_eq_false_iff_not]
 refine ⟨h1, ?_⟩
 rcases (show zs.length = 0 ∨ 0 < zs.length by omega) with h | h
 · exact .inl ⟨h, h3 (List.eq_nil_of_length_eq_zero h)⟩
 · exact .inr ⟨h, h2.last (by intro e; simp [e] at h)⟩
theorem Valid_any (v : Value) (neg : Bool) (zs : List Int) (w : World) (hv : Wr w.heap.size w v neg zs) (hlen : zs.length ≤ 140737488355328) :
 Calls Tryz.prog 43 #[v] w fun e w' => e = .returned (.bool (okB neg zs)) ∧ Below w.heap.size w w' := by
 obtain ⟨sv, rfl, hL⟩ := hv
 obtain ⟨p, l, c, rfl⟩ := hL.form
 obtain ⟨hl, hc⟩ := hL.cells
 have hB1 : Below w.heap.size w (w.alloc (.cells #[.bool neg, .slice p l c] 24)) := (Below.refl _ w).alloc (Nat.le_refl _) _
 by_cases h1 : l ≤ 1024
 · rcases (show l = 0 ∨ 0 < l by omega) with h | h
   · have e : okB neg zs = !neg := by
      simp only [okB]; rw [← hl, h]; simp
     rw [e]
     subst h
     have HL := Lib.hid hl
     clear hl hc e
     go_enter Tryz.func43, Tryz.ntmps43
     go_wp2
     all_goals
      go_ret
      exact ⟨by simp_all, (Below.refl _ w).alloc (Nat.le_refl _) _⟩
   · obtain ⟨b, off, rfl, hb, hcap, hcell⟩ := hc h
     have e : okB neg zs = !decide (zs[l - 1]?.getD 0 = 0) := by
      simp only [okB]; rw [← hl]; simp [h1, h, show ¬ l = 0 by omega]
     rw [e]
     obtain ⟨k, rfl⟩ : ∃ k, l = k + 1 := ⟨l - 1, by omega⟩
     have hk := (hB1.cell (p := ⟨b, off + k, none⟩) hb).trans (hcell k (by omega))
     have HL := Lib.hid hl
     clear hl hc e hcell
     go_enter Tryz.func43, Tryz.ntmps43
     go_wp2
     go_ret
     exact ⟨rfl, hB1⟩
 · have e : okB neg zs = false := by simp only [okB]; rw [← hl]; simp; omega
   rw [e]
   have HL := Lib.hid hl
   clear hl hc e
   go_enter Tryz.func43, Tryz.ntmps43
   go_wp2
   go_ret
   exact ⟨rfl, hB1⟩
theorem validx_any (v : Value) (neg : Bool) (zs : List Int) (w : World) (hv : Wr w.heap.size w v neg zs) (hlen : zs.length ≤ 140737488355328) :
 Calls Tryz.prog 147 #[v] w fun e w' => e = .returned (.bool (!okB neg zs)) ∧ Below w.heap.size w w' := by
 obtain ⟨sv, rfl, hL⟩ := hv
 have hB1 : Below w.heap.size w (w.alloc (.cells #[.bool neg, sv] 24)) := (Below.refl _ w).alloc (Nat.le_refl _) _
 go_enter Tryz.func147, Tryz.ntmps147
 go_wp2_with (go_at_call 43; refine (Valid_any (.agg #[.bool neg, sv]) neg zs _ ⟨sv, rfl, (hL.below hB1).mono hB1.size⟩ hlen).mono ?_; rintro e w1 ⟨rfl, hb1⟩)
 go_ret
 exact ⟨rfl, hB1.trans (hb1.mono hB1.size)⟩
theorem Wr.below {n₀ : Nat} {W W' : World} {v : Value} {neg : Bool} {zs : List Int} (hb : Below n₀ W W') : Wr n₀ W v neg zs → Wr n₀ W' v neg zs
 | ⟨sv, e, h⟩ => ⟨sv, e, h.below hb⟩
theorem Wr.mono {n₀ n₁ : Nat} {W : World} {v : Value} {neg : Bool} {zs : List Int} (hn : n₀ ≤ n₁) : Wr n₀ W v neg zs → Wr n₁ W v neg zs
 | ⟨sv, e, h⟩ => ⟨sv, e, h.mono hn⟩
theorem index_any (g N : Nat) (ng : Nat → Bool) (sv : Nat → Value) (Z : Nat → List Int) (w : World) (hg : g < w.heap.size) (hN : N ≤ 4294967296) (hlen : ∀ j, j < N → (Z j).length ≤ 140737488355328)
 (h0 : ∀ j, j < N → w.cell? ⟨g, j * 2, none⟩ = some (.bool (ng j))) (h1 : ∀ j, j < N → w.cell? ⟨g, j * 2 + 1, none⟩ = some (sv j)) (hL : ∀ j, j < N → Lims w.heap.size w (sv j) (Z j)) :
 Calls Tryz.prog 177 #[.slice (some ⟨g, 0, none⟩) N N, .func (.func 147) #[] #[]] w fun e w' => ∃ r : Int, e = .returned (.int .i64 r) ∧ Below w.heap.size w w' ∧ ((r = -1 ∧ ∀ j, j < N → okB (ng j) (Z j) = true) ∨ (0 ≤ r ∧ ∃ j, j < N ∧ okB (ng j) (Z j) = false)) := by
 go_enter Tryz.func177, Tryz.ntmps177
 go_wp2
 go_loopw [8] (fun kv wr => ∃ k : Nat, k ≤ N ∧ kv = .int .i64 k ∧ Below w.heap.size w wr ∧ ∀ j, j < k → okB (ng j) (Z j) = true) (fun kv _ => N - (intOf kv).toNat)
 case atStart => exact ⟨0, Nat.zero_le _, rfl, Below.refl _ _, fun j hj => absurd hj (by omega)⟩
 case round =>
  obtain ⟨k, hk, rfl, hB, hok⟩ := hrel
  by_cases hlt : k < N
  · have c0 := (hB.cell (p := ⟨g, k * 2, none⟩) hg).trans (h0 k hlt)
    have c1 := (hB.cell (p := ⟨g, k * 2 + 1, none⟩) hg).trans (h1 k hlt)
    have hLk := (hL k hlt).below hB
    have hlk := hlen k hlt
    by_cases ho : okB (ng k) (Z k) = true
    · generalize hnk : ng k = nk at *
      generalize hsk : sv k = sk at *
      have HO := Lib.hid ho
      have HNK := Lib.hid hnk
      clear hnk hsk ho
      go_wp2_with (go_at_call 147; refine (validx_any (.agg #[.bool nk, sk]) nk (Z k) _ ⟨sk, rfl, hLk.mono hB.size⟩ hlk).mono ?_; rintro e w1 ⟨rfl, hb1⟩; rw [HO.out])
      go_roundw
      case rel => exact ⟨k + 1, by omega, rfl, hB.trans (hb1.mono hB.size), fun j hj => by rcases (show j < k ∨ j = k by omega) with h | rfl; exact hok j h; rw [HNK.out]; exact HO.out⟩
      case measure => simp [intOf]; omega
    · generalize hnk : ng k = nk at *
      generalize hsk : sv k = sk at *
      have HO := Lib.hid (Bool.eq_false_iff.2 ho)
      have HNK := Lib.hid hnk
      clear hnk hsk ho
      go_wp2_with (go_at_call 147; refine (validx_any (.agg #[.bool nk, sk]) nk (Z k) _ ⟨sk, rfl, hLk.mono hB.size⟩ hlk).mono ?_; rintro e w1 ⟨rfl, hb1⟩; rw [HO.out])
      go_ret
      exact ⟨k, rfl, hB.trans (hb1.mono hB.size), .inr ⟨by omega, k, hlt, by rw [HNK.out]; exact HO.out⟩⟩
  · obtain rfl : k = N := by omega
    go_wp2
    go_ret
    exact ⟨-1, rfl, hB, .inl ⟨rfl, hok⟩⟩
theorem contains_any (g N : Nat) (ng : Nat → Bool) (sv : Nat → Value) (Z : Nat → List Int) (w : World) (hg : g < w.heap.size) (hN : N ≤ 4294967296) (hlen : ∀ j, j < N → (Z j).length ≤ 140737488355328)
 (h0 : ∀ j, j < N → w.cell? ⟨g, j * 2, none⟩ = some (.bool (ng j))) (h1 : ∀ j, j < N → w.cell? ⟨g, j * 2 + 1, none⟩ = some (sv j)) (hL : ∀ j, j < N → Lims w.heap.size w (sv j) (Z j)) (ok : Bool)
 (hok : ok = true ↔ ∀ j, j < N → okB (ng j) (Z j) = true) :
 Calls Tryz.prog 95 #[.slice (some ⟨g, 0, none⟩) N N] w fun e w' => e = .returned (.bool ok) ∧ Below w.heap.size w w' := by
 have HOK := Lib.hid hok
 clear hok
 go_enter Tryz.func95, Tryz.ntmps95
 go_wp2_with (go_at_call 146; go_enter Tryz.func146, Tryz.ntmps146; go_wp2_with (go_at_call 177; refine (index_any g N ng sv Z _ hg hN hlen h0 h1 hL).mono ?_; rintro e w1 ⟨r, rfl, hb1, hr⟩))
 go_ret
 refine ⟨?_, hb1⟩
 rcases hr with ⟨rfl, hall⟩ | ⟨hr, j, hj, hbad⟩
 · rw [HOK.out.2 hall]; rfl
 · rw [decide_eq_true hr]
   cases ok with
   | false => rfl
   | true => have := HOK.out.1 rfl j hj; rw [hbad] at this; cases this
theorem valid_two (g : Nat) (na nb : Bool) (sa sb : Value) (A B : List Int) (w : World) (hg : g < w.heap.size) (hA : A.length ≤ 140737488355328) (hB : B.length ≤ 140737488355328)
 (c0 : w.cell? ⟨g, 0, none⟩ = some (.bool na)) (c1 : w.cell? ⟨g, 1, none⟩ = some sa) (c2 : w.cell? ⟨g, 2, none⟩ = some (.bool nb)) (c3 : w.cell? ⟨g, 3, none⟩ = some sb)
 (hLa : Lims w.heap.size w sa A) (hLb : Lims w.heap.size w sb B) :
 Calls Tryz.prog 95 #[.slice (some ⟨g, 0, none⟩) 2 2] w fun e w' => e = .returned (.bool (okB na A && okB nb B)) ∧ Below w.heap.size w w' := by
 have two : ∀ j, j < 2 → j = 0 ∨ j = 1 := fun j hj => by omega
 refine contains_any g 2 (fun j => bif j == 0 then na else nb) (fun j => bif j == 0 then sa else sb) (fun j => bif j == 0 then A else B) w hg (by omega)
  (fun j hj => by rcases two j hj with rfl | rfl <;> assumption) (fun j hj => by rcases two j hj with rfl | rfl <;> assumption) (fun j hj => by rcases two j hj with rfl | rfl <;> assumption) (fun j hj => by rcases two j hj with rfl | rfl <;> assumption) _ ?_
 rw [Bool.and_eq_true]
 exact ⟨fun ⟨h0, h1⟩ j hj => by rcases two j hj with rfl | rfl <;> assumption, fun h => ⟨h 0 (by omega), h 1 (by omega)⟩⟩
theorem div_any (va vb : Value) (X Y : List Int) (n m : Int) (w : World) (hX : Rep X n) (hY : Rep Y m) (hm : 0 < m) (hlx : X.length ≤ 35184372088830) (hly : Y.length ≤ 35184372088830)
 (hA : Lims w.heap.size w va X) (hB : Lims w.heap.size w vb Y) : Calls Tryz.prog 126 #[va, vb] w (DivPost n m w) := by
 obtain ⟨px, lx, cx, rfl⟩ := hA.form
 obtain ⟨py, ly, cy, rfl⟩ := hB.form
 obtain rfl := hA.cells.1
 have hl := hB.cells.1
 rcases (show n < m ∨ m ≤ n by omega) with h | h
 · exact div_less px py _ ly cx cy X Y n m w hX hY hlx (by omega) h hA hB
 · have hp := hY.pos
   rcases (show ly = 1 ∨ 2 ≤ ly by omega) with rfl | h2
   · exact div_short px py _ cx cy X Y n m w hX hY hlx h hA hB
   · obtain ⟨k, rfl⟩ : ∃ k, ly = k + 2 := ⟨ly - 2, by omega⟩
     exact div_long px py _ cx cy k X Y n m w hX hY hlx h hA hB
theorem mul_any (va vb : Value) (X Y : List Int) (n m : Int) (w : World) (hX : Rep X n) (hY : Rep Y m) (hlx : X.length ≤ 35184372088831) (hly : Y.length ≤ 35184372088831)
 (hA : Lims w.heap.size w va X) (hB : Lims w.heap.size w vb Y) :
 Calls Tryz.prog 97 #[va, vb] w fun e w' => ∃ v zs, e = .returned v ∧ Own16 w.heap.size w' v zs ∧ Rep zs (n * m) ∧ Below w.heap.size w w' := by
 obtain ⟨px, lx, cx, rfl⟩ := hA.form
 obtain ⟨py, ly, cy, rfl⟩ := hB.form
 obtain rfl := hA.cells.1
 obtain rfl := hB.cells.1
 exact mul_some px py _ _ cx cy X Y n m w hX hY hlx hly hA hB
end Go.Proofs.YtihdbjilolmfiaaGreatDoor
