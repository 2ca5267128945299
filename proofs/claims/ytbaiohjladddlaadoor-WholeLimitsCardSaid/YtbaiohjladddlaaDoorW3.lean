import Derived.Test.YtbaiohjladddlaaDoorW2
/- whole: add. -/
namespace Go.Proofs.YtbaiohjladddlaaDoor
open Go.RowKit Go.WM Go.WR

theorem info40 : (Tryd.prog.info? 40).map (fun i => (i.zero, i.size, i.bytes)) = some (some (.int .u16 0), 1, 2) := by kernel_rfl

/-- the slice value owns the limbs zs, in a block from B on -/
def Own16 (B : Nat) (W : World) (v : Value) (zs : List Int) : Prop := W.ownsRow B 40 1 v zs.length (zs.map (Value.int .u16))

theorem Own16.out {B : Nat} {W : World} {v : Value} {zs : List Int} (h : Own16 B W v zs) : W.ownsRow B 40 1 v zs.length (zs.map (Value.int .u16)) := h

/-- a store into a box leaves the limbs -/
theorem Own16.box {B : Nat} {W : World} {v : Value} {zs : List Int} (h : Own16 B W v zs) {Bx t : Nat} {u : Value} (hb : Boxed W Bx t u) (ht : t ≠ 40) (x : Value) : Own16 B (W.setCell ⟨Bx, 0, none⟩ x) v zs :=
  World.ownsRow.kept h (grownBy_setCell' W Bx x) (.inr (hb.not_row ht h).symm)

set_option maxRecDepth 100000 in
set_option maxHeartbeats 400000 in
/-- add's put: the carry in its box, the limbs in theirs -/
theorem addput (n₀ Bc Bo : Nat) (n c : Int) (v : Value) (zs : List Int) (w : World) (hn : 0 ≤ n) (hn' : n ≤ 131070) (hc : 0 ≤ c) (hc' : c ≤ 1) (hlen : zs.length ≤ 70368744177663)
    (bC : Boxed w Bc 57 (.int .u32 c)) (bO : Boxed w Bo 22 v) (hown : Own16 n₀ w v zs) (hn₀ : n₀ ≤ w.heap.size) (hBc : n₀ ≤ Bc) (hBo : n₀ ≤ Bo) (hne : Bc ≠ Bo) :
    Calls Tryd.prog 79 #[.int .u32 n, .pointer (some ⟨Bc, 0, none⟩), .pointer (some ⟨Bo, 0, none⟩)] w fun e w' => (∃ u, e = .returned u) ∧ Boxed w' Bc 57 (.int .u32 ((n + c) / 65536)) ∧
      (∃ v', Boxed w' Bo 22 v' ∧ Own16 n₀ w' v' (zs ++ [(n + c) % 65536])) ∧ Below n₀ w w' := by
  obtain ⟨i0, hi, hz0, hz1, hz2⟩ := info_parts info40
  have hcc := bC.cell
  have hco := bO.cell
  have hfc := bC.frozen
  have hfo := bO.frozen
  have hrow := hown.out
  have k1 : 0 ≤ n + c := by omega
  have k2 : n + c ≤ 131071 := by omega
  go_enter Tryd.func79, Tryd.ntmps79
  go_wp2_with (at_builtin; refine wpList_append_own _ rfl _ _ 22 rfl n₀ 40 i0 (.int .u16 0) 1 2 Tryd.underlying22 hi hz0 hz1 hz2 rfl (by decide) _ _ _ rfl (hrow.alloc _) ⟨w.heap.size, 0, none⟩ 1 1 [.int .u16 (IntKind.u16.wrap (n + c))] rfl rfl (cell_one_new _ _ _) (by simp [Value.oneCell']) (by unfold maxLen; omega) (by omega) (by simp; omega) ?_; intro v' w1 hown' hgrow _; obtain ⟨g', cap', rfl⟩ := ownsRow_succ hown'; obtain ⟨hv1, hv2, hr2, hk2, hb2⟩ := bO.appended (by decide) hrow hn₀ hBo hown' hgrow; have hc1 := hv1.cell; have hf1 := hv1.frozen; have bC2 := ((bC.alloc (.cells #[.int .u16 (IntKind.u16.wrap (n + c))] 40)).kept hgrow (bC.not_row (by decide) hrow)).other hne (.slice (some ⟨g', 0, none⟩) (zs.length + 1) cap'); have hc2 := bC2.cell; have hf2 := bC2.frozen)
  go_end0
  refine ⟨⟨_, rfl⟩, bC2.set _, ⟨_, hv2.other (Ne.symm hne) _, ?_⟩, hb2.setCell (p := ⟨Bc, 0, none⟩) hBc _⟩
  refine Own16.box (t := 57) ?_ bC2 (by decide) _
  unfold Own16
  simp only [List.length_append, List.length_cons, List.length_nil, Nat.zero_add, List.map_append, List.map_cons, List.map_nil]
  rw [← IntKind.wrap_u16]
  exact hr2
end Go.Proofs.YtbaiohjladddlaaDoor
