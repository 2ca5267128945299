import Derived.Test.YtbaiohjladddlaaDoorW10
import Derived.Test.YtbaiohjladddlaaDoorR1
import Derived.Test.YtbaiohjladddlaaDoorM1
/- whole: down over a slice whose limbs a round writes, from above. -/
namespace Go.Proofs.YtbaiohjladddlaaDoor
open Go.RowKit Go.WM Go.WR

attribute [local go_sem] Oper.semAt_some

/-- what a round keeps: one box, what lies below n₀, and the cells of one row that are still to come -/
def KeepQ (n₀ Bs t b N : Nat) (k : Nat) (W W' : World) : Prop := Keep1 n₀ Bs t W W' ∧ ∀ j, j + k + 1 < N → W'.cell? ⟨b, j, none⟩ = W.cell? ⟨b, j, none⟩
theorem KeepQ.refl (n₀ Bs t b N k : Nat) (W : World) : KeepQ n₀ Bs t b N k W W := ⟨Keep1.refl _ _ _ _, fun _ _ => rfl⟩
theorem keepQ_t {n₀ Bs t b N : Nat} (k : Nat) {A B C : World} (h : KeepQ n₀ Bs t b N k A B) (h' : KeepQ n₀ Bs t b N k B C) : KeepQ n₀ Bs t b N k A C :=
  ⟨keep1_t h.1 h'.1, fun j hj => (h'.2 j hj).trans (h.2 j hj)⟩
theorem keepQ_b {n₀ Bs t b N : Nat} {w : World} (hn : n₀ ≤ w.heap.size) (hb : b < w.heap.size) (k : Nat) (W : World) (l : Nat) (o o' : Obj) (hl : w.heap.size ≤ l) (h : W.heap[l]? = some o) (hc : o.isCells = false) (hw : o.isWalk = false) : KeepQ n₀ Bs t b N k W (W.putObj l o') :=
  ⟨keep1_b hn W l o o' hl h hc hw, fun j _ => World.cell?_of_block (w := W) (a := ⟨b, j, none⟩) (World.putObj_heap_other (by show b ≠ l; omega))⟩

set_option maxRecDepth 100000 in
set_option maxHeartbeats 1000000 in
theorem down1_w (F : Fence) (n : Nat) (h7 : F.fn 86) (hro : F.round = none) (hn : 1 ≤ n) (l Bs n₀ b cap : Nat) (zs : List Int) (hreach : zs.length ≤ 9223372036854775807) (J Jx : Nat → World → Prop)
    (hY : ∀ k W, J k W → k < zs.length → YieldAt F (n - 1) Tryd.prog l (downs zs k) W fun e W' =>
      (e = .returned (.bool true) ∧ J (k + 1) W' ∧ KeepQ n₀ Bs 22 b zs.length k W W') ∨ (e = .returned (.bool false) ∧ Jx (k + 1) W'))
    (W : World) (hBs : Boxed W Bs 22 (.slice (some ⟨b, 0, none⟩) zs.length cap)) (hc : ∀ j, j < zs.length → W.cell? ⟨b, j, none⟩ = some (.int .u16 (zs[j]?.getD 0))) (h0 : J 0 W) :
    CallsIn F n Tryd.prog 86 #[.func (.yield l) #[] #[], .pointer (some ⟨Bs, 0, none⟩)] W fun e W' => (∃ v, e = .returned v) ∧ (J zs.length W' ∨ ∃ k, k ≤ zs.length ∧ Jx k W') := by
  refine callsIn_of_wp Tryd.func86 rfl h7 ?_ hro
  simp only [Tryd.ntmps86, List.size_toArray, List.length_cons, List.length_nil, Nat.reduceAdd, Nat.reduceSub, Array.replicate_succ, Array.replicate_zero, List.push_toArray, List.append_toArray, List.nil_append, List.cons_append]
  obtain ⟨len, hlen⟩ : ∃ len, len = zs.length := ⟨_, rfl⟩
  rw [← hlen] at hBs hreach hY hc ⊢
  have HLEN := Lib.hid hlen; clear hlen
  have hBc := hBs.cell
  gi_wp2
  gi_loopw [3] (fun i wr => ∃ k : Nat, k ≤ len ∧ i = .int .i64 ((len : Int) - 1 - k) ∧ J k wr ∧ Keep1 n₀ Bs 22 W wr ∧ (∀ j, j + k < len → wr.cell? ⟨b, j, none⟩ = some (.int .u16 (zs[j]?.getD 0))))
    (fun i _ => (intOf i + 1).toNat)
  case atStart => exact ⟨0, Nat.zero_le _, by simp, h0, Keep1.refl _ _ _ _, fun j hj => hc j (by omega)⟩
  case round =>
    obtain ⟨k, hk, rfl, hJs, hnx, hq⟩ := hrel
    have hbx : wr.cell? ⟨Bs, 0, none⟩ = some (.slice (some ⟨b, 0, none⟩) len cap) := (hnx.2 _ hBs).cell
    by_cases hlt : k < len
    · obtain ⟨m, hm⟩ : ∃ m : Nat, m = len - 1 - k := ⟨_, rfl⟩
      have e1 : (len : Int) - 1 - k = (m : Int) := by omega
      have hcx : wr.cell? ⟨b, m, none⟩ = some (.int .u16 (zs[m]?.getD 0)) := hq m (by omega)
      have hy0 := hY k wr hJs hlt
      have e2 : downs zs k = #[.int .i64 (m : Int), .int .u16 (zs[m]?.getD 0)] := by simp only [downs]; rw [← HLEN.out, ← hm]
      rw [e2] at hy0
      obtain ⟨fn, tmps, assign, body, hy, hR⟩ := hy0
      rw [e1]
      have hml : m < len := by omega
      have HM := Lib.hid hm; clear hm e2
      have HE := Lib.hid e1; clear e1
      have HQ := Lib.hid hq; clear hq
      gi_wp2
      refine hR.mono ?_
      rintro e W3 (⟨rfl, hJ3, hk3⟩ | ⟨rfl, hJx3⟩)
      · gi_wp2
        go_roundw
        case rel => exact ⟨k + 1, by omega, by have h := HE.out; exact congrArg (Value.int IntKind.i64) (by omega), hJ3, keep1_t hnx hk3.1, fun j hj => (hk3.2 j (by omega)).trans (HQ.out j (by omega))⟩
        case measure => have := HE.out; simp [intOf]
      · gi_wp2
        refine bodyPost_ret (results_none rfl _ _ _) rfl ?_
        exact ⟨⟨_, rfl⟩, .inr ⟨k + 1, by omega, hJx3⟩⟩
    · obtain rfl : k = len := by omega
      have e1 : (k : Int) - 1 - k = -1 := by omega
      rw [e1]
      clear e1 hq
      gi_wp2
      go_end0
      exact ⟨⟨_, rfl⟩, .inl hJs⟩

theorem downw_seq (F : Fence) (n : Nat) (h7 : F.fn 86) (hro : F.round = none) (hn : 1 ≤ n) (Bs n₀ b cap : Nat) (zs : List Int) (hreach : zs.length ≤ 9223372036854775807) (w : World) (hb : b < w.heap.size)
    (hc : Boxed w Bs 22 (.slice (some ⟨b, 0, none⟩) zs.length cap)) (hz : ∀ j, j < zs.length → w.cell? ⟨b, j, none⟩ = some (.int .u16 (zs[j]?.getD 0))) : SeqAtK F n Tryd.prog 86 #[.pointer (some ⟨Bs, 0, none⟩)] (downs zs) (KeepQ n₀ Bs 22 b zs.length) zs.length w := fun l J Jx W hW hY h0 =>
  down1_w F n h7 hro hn l Bs n₀ b cap zs hreach J Jx hY W ((hW.block Bs hc.lt).trans hc) (fun j hj => (hW.cell (p := ⟨b, j, none⟩) hb).trans (hz j hj)) h0

theorem Own16.lt' {B : Nat} {W : World} {g len cap : Nat} {v : Value} {zs : List Int} (h : Own16 B W v zs) (e : v = .slice (some ⟨g, 0, none⟩) len cap) : g < W.heap.size := (e ▸ h).lt
theorem Own16.apart {B : Nat} {W : World} {g len cap : Nat} {zs : List Int} (h : Own16 B W (.slice (some ⟨g, 0, none⟩) len cap) zs) {Bx t : Nat} {u : Value} (hb : Boxed W Bx t u) (ht : t ≠ 40) : Bx ≠ g := fun e => hb.not_row ht h (by rw [e]; rfl)
theorem Own16.cells {B : Nat} {W : World} {g len cap : Nat} {zs : List Int} (h : Own16 B W (.slice (some ⟨g, 0, none⟩) len cap) zs) : ∀ o : Obj, W.heap[g]? = some o → o.isCells = true := by
  obtain ⟨hl, h⟩ := h
  rcases h with ⟨e, _⟩ | ⟨g', cap', cur, e, hB, hh, _⟩
  · cases e
  · cases e; intro o ho; rw [hh] at ho; cases ho; rfl
end Go.Proofs.YtbaiohjladddlaaDoor
namespace Go
open Go.RowKit Go.Proofs.YtbaiohjladddlaaDoor
theorem Boxed.only {W W' : World} {B t b : Nat} {v : Value} (h : Boxed W B t v) (ho : Only b W W') (hne : B ≠ b) : Boxed W' B t v := (ho.block B hne).trans h
end Go
namespace Go.Proofs.YtbaiohjladddlaaDoor
open Go.RowKit Go.WM Go.WR
attribute [local go_sem] Oper.semAt_some

theorem Own16.only {B b : Nat} {W W' : World} {g len cap : Nat} {zs : List Int} (h : Own16 B W (.slice (some ⟨g, 0, none⟩) len cap) zs) (ho : Only b W W') (hne : g ≠ b) : Own16 B W' (.slice (some ⟨g, 0, none⟩) len cap) zs :=
  World.ownsRow.kept h ho.grown (.inr (fun e => hne (by cases e; rfl)))
theorem Only.set (W : World) (g i : Nat) (v : Value) : Only g W (W.setCell ⟨g, i, none⟩ v) := (Only.refl g W).setCell i v
theorem Only.keep {n₀ Bs t b : Nat} {W W' : World} (h : Only b W W') (hn : n₀ ≤ b) (hne : Bs ≠ b) : Keep1 n₀ Bs t W W' := ⟨h.below hn, fun _ hv => hv.only h hne⟩
theorem Only.others {b : Nat} {W W' : World} (h : Only b W W') (hc : ∀ o : Obj, W.heap[b]? = some o → o.isCells = true) : KeepsOthers W W' := KeepsOthers.of_grownBy h.grown (fun j o e ho => by cases e; exact hc o ho)

end Go.Proofs.YtbaiohjladddlaaDoor
