import Derived.Test.YtbaiohjladddlaaDoorW30
import Derived.Test.YtbaiohjladddlaaDoorW28
import Derived.Test.YtbaiohjladddlaaDoorW27
/- slices.Backward over []uint32; Itoa where the library's table stands. -/
namespace Go.Proofs.YtbaiohjladddlaaDoor
open Go.RowKit Go.WM Go.WR
attribute [local go_sem] Oper.semAt_some

/-- a slice value reads as numbers of 32 bits, its block below n₀ -/
def Lims32 (n₀ : Nat) (W : World) (sv : Value) (zs : List Int) : Prop :=
  (sv = .slice none 0 0 ∧ zs = []) ∨ ∃ b off cap, sv = .slice (some ⟨b, off, none⟩) zs.length cap ∧ zs.length ≤ cap ∧ b < n₀ ∧ ∀ j, j < zs.length → W.cell? ⟨b, off + j, none⟩ = some (.int .u32 (zs[j]?.getD 0))

theorem Lims32.below {n₀ : Nat} {A B : World} (h : Below n₀ A B) {sv : Value} {zs : List Int} : Lims32 n₀ A sv zs → Lims32 n₀ B sv zs
  | .inl e => .inl e
  | .inr ⟨b, off, cap, e, hl, hb, hc⟩ => .inr ⟨b, off, cap, e, hl, hb, fun j hj => (h.cell (p := ⟨b, off + j, none⟩) hb).trans (hc j hj)⟩
theorem Lims32.mono {n₀ n₁ : Nat} {A : World} (h : n₀ ≤ n₁) {sv : Value} {zs : List Int} : Lims32 n₀ A sv zs → Lims32 n₁ A sv zs
  | .inl e => .inl e
  | .inr ⟨b, off, cap, e, hl, hb, hc⟩ => .inr ⟨b, off, cap, e, hl, by omega, hc⟩

/-- Backward(l): the slice value is boxed; the function value captures the box. -/
theorem back_any (a : Option Addr) (len cap : Nat) (w : World) :
    Calls Tryd.prog 47 #[.slice a len cap] w fun e w' => e = .returned (.func (.func 75) #[] #[.pointer (some ⟨w.heap.size, 0, none⟩)]) ∧ w.alloc (.cells #[.slice a len cap] 56) = w' := by
  go_enter Tryd.func47, Tryd.ntmps47
  go_wp2
  go_ret
  exact ⟨rfl, rfl⟩

/-- what the k-th round of down is handed -/
def backs (zs : List Int) (k : Nat) : Array Value := #[.int .i64 ((zs.length - 1 - k : Nat) : Int), .int .u32 (zs[zs.length - 1 - k]?.getD 0)]

set_option maxRecDepth 100000 in
set_option maxHeartbeats 1000000 in
theorem back1_in (F : Fence) (n : Nat) (h7 : F.fn 75) (hro : F.round = none) (hn : 1 ≤ n) (l Bs n₀ b off cap : Nat) (zs : List Int) (hreach : zs.length ≤ 9223372036854775807) (hb : b < n₀) (J Jx : Nat → World → Prop)
    (hY : ∀ k W, J k W → k < zs.length → YieldAt F (n - 1) Tryd.prog l (backs zs k) W fun e W' =>
      (e = .returned (.bool true) ∧ J (k + 1) W' ∧ Keep1 n₀ Bs 56 W W') ∨ (e = .returned (.bool false) ∧ Jx (k + 1) W'))
    (W : World) (hBs : Boxed W Bs 56 (.slice (some ⟨b, off, none⟩) zs.length cap)) (hc : ∀ j, j < zs.length → W.cell? ⟨b, off + j, none⟩ = some (.int .u32 (zs[j]?.getD 0))) (h0 : J 0 W) :
    CallsIn F n Tryd.prog 75 #[.func (.yield l) #[] #[], .pointer (some ⟨Bs, 0, none⟩)] W fun e W' => (∃ v, e = .returned v) ∧ (J zs.length W' ∨ ∃ k, k ≤ zs.length ∧ Jx k W') := by
  refine callsIn_of_wp Tryd.func75 rfl h7 ?_ hro
  simp only [Tryd.ntmps75, List.size_toArray, List.length_cons, List.length_nil, Nat.reduceAdd, Nat.reduceSub, Array.replicate_succ, Array.replicate_zero, List.push_toArray, List.append_toArray, List.nil_append, List.cons_append]
  obtain ⟨len, hlen⟩ : ∃ len, len = zs.length := ⟨_, rfl⟩
  rw [← hlen] at hBs hreach hY hc ⊢
  have HLEN := Lib.hid hlen; clear hlen
  have hBc := hBs.cell
  gi_wp2
  gi_loopw [3] (fun i wr => ∃ k : Nat, k ≤ len ∧ i = .int .i64 ((len : Int) - 1 - k) ∧ J k wr ∧ Keep1 n₀ Bs 56 W wr)
    (fun i _ => (intOf i + 1).toNat)
  case atStart => exact ⟨0, Nat.zero_le _, by simp, h0, Keep1.refl _ _ _ _⟩
  case round =>
    obtain ⟨k, hk, rfl, hJs, hnx⟩ := hrel
    have hbx : wr.cell? ⟨Bs, 0, none⟩ = some (.slice (some ⟨b, off, none⟩) len cap) := (hnx.2 _ hBs).cell
    by_cases hlt : k < len
    · obtain ⟨m, hm⟩ : ∃ m : Nat, m = len - 1 - k := ⟨_, rfl⟩
      have e1 : (len : Int) - 1 - k = (m : Int) := by omega
      have hcx : wr.cell? ⟨b, off + m, none⟩ = some (.int .u32 (zs[m]?.getD 0)) := (hnx.1.cell (p := ⟨b, off + m, none⟩) hb).trans (hc m (by omega))
      have hy0 := hY k wr hJs hlt
      have e2 : backs zs k = #[.int .i64 (m : Int), .int .u32 (zs[m]?.getD 0)] := by simp only [backs]; rw [← HLEN.out, ← hm]
      rw [e2] at hy0
      obtain ⟨fn, tmps, assign, body, hy, hR⟩ := hy0
      rw [e1]
      have hml : m < len := by omega
      have HM := Lib.hid hm; clear hm e2
      have HE := Lib.hid e1; clear e1
      gi_wp2
      refine hR.mono ?_
      rintro e W3 (⟨rfl, hJ3, hk3⟩ | ⟨rfl, hJx3⟩)
      · gi_wp2
        go_roundw
        case rel => exact ⟨k + 1, by omega, by have h := HE.out; exact congrArg (Value.int IntKind.i64) (by omega), hJ3, keep1_t hnx hk3⟩
        case measure => have := HE.out; simp [intOf]
      · gi_wp2
        refine bodyPost_ret (results_none rfl _ _ _) rfl ?_
        exact ⟨⟨_, rfl⟩, .inr ⟨k + 1, by omega, hJx3⟩⟩
    · obtain rfl : k = len := by omega
      have e1 : (k : Int) - 1 - k = -1 := by omega
      rw [e1]
      clear e1
      gi_wp2
      go_end0
      exact ⟨⟨_, rfl⟩, .inl hJs⟩


set_option maxRecDepth 100000 in
set_option maxHeartbeats 1000000 in
theorem back1_nil_in (F : Fence) (n : Nat) (h7 : F.fn 75) (hro : F.round = none) (l Bs : Nat) (J : Nat → World → Prop) (W : World) (hBs : W.cell? ⟨Bs, 0, none⟩ = some (.slice none 0 0)) (h0 : J 0 W) :
    CallsIn F n Tryd.prog 75 #[.func (.yield l) #[] #[], .pointer (some ⟨Bs, 0, none⟩)] W fun e W' => (∃ v, e = .returned v) ∧ J 0 W' := by
  refine callsIn_of_wp Tryd.func75 rfl h7 ?_ hro
  simp only [Tryd.ntmps75, List.size_toArray, List.length_cons, List.length_nil, Nat.reduceAdd, Nat.reduceSub, Array.replicate_succ, Array.replicate_zero, List.push_toArray, List.append_toArray, List.nil_append, List.cons_append]
  gi_wp2
  gi_loopw [3] (fun i wr => i = .int .i64 (-1) ∧ J 0 wr) (fun _ _ => 0)
  case atStart => exact ⟨by simp, h0⟩
  case round =>
    obtain ⟨rfl, hJs⟩ := hrel
    gi_wp2
    go_end0
    exact ⟨⟨_, rfl⟩, hJs⟩

/-- Backward(l) hands back a value whose k-th round is handed backs zs k. -/
theorem back_seq (F : Fence) (n : Nat) (h7 : F.fn 75) (hro : F.round = none) (hn : 1 ≤ n) (Bs n₀ : Nat) (sv : Value) (zs : List Int) (hreach : zs.length ≤ 9223372036854775807) (w : World) (hn₀ : n₀ ≤ w.heap.size)
    (hc : Boxed w Bs 56 sv) (hI : Lims32 n₀ w sv zs) : SeqAt F n Tryd.prog 75 #[.pointer (some ⟨Bs, 0, none⟩)] (backs zs) (Keep1 n₀ Bs 56) zs.length w := fun l J Jx W hW hY h0 => by
  have hc' : Boxed W Bs 56 sv := (hW.block Bs hc.lt).trans hc
  rcases hI.below (hW.mono hn₀) with ⟨rfl, rfl⟩ | ⟨b, off, cap, rfl, hl, hb, hcs⟩
  · exact (back1_nil_in F n h7 hro l Bs J W hc'.cell h0).mono fun e W' ⟨he, hj⟩ => ⟨he, .inl hj⟩
  · exact back1_in F n h7 hro hn l Bs n₀ b off cap zs hreach hb J Jx hY W hc' hcs h0


/-- the library's table of the powers of ten stands -/
def Tab (w : World) : Prop := Lib.TabIs Tryd.prog w "internal/strconv.uint64pow10" .u64 Lib.pow10Tab

theorem Tab.below {w w' : World} (hb : Below w.heap.size w w') (h : Tab w) : Tab w' := by
  unfold Tab Lib.TabIs at *
  unfold World.var? at *
  cases hg : Tryd.prog.globalNamed "internal/strconv.uint64pow10" with
  | none => rw [hg] at h; cases h
  | some g =>
    rw [hg] at h
    simp only [Option.bind_some] at h ⊢
    have hlt : g < w.heap.size := by
      rcases Nat.lt_or_ge g w.heap.size with h' | h'
      · exact h'
      · rw [Array.getElem?_eq_none h'] at h; cases h
    rw [hb.block g hlt]
    exact h

theorem below_grow1 (w : World) (k : Nat) (os : Array Obj) : Below w.heap.size w (Sort.grow (w.drewN k) os) :=
  ⟨rfl, rfl, rfl, by show w.heap.size ≤ (w.heap ++ os).size; rw [Array.size_append]; omega, fun j hj => by show (w.heap ++ os)[j]? = w.heap[j]?; rw [Array.getElem?_append_left hj]⟩

theorem itoa_c (n : Int) (w : World) (h0 : -9223372036854775808 ≤ n) (h1 : n ≤ 9223372036854775807) (htab : Tab w) :
    Calls Tryd.prog 46 #[.int .i64 n] w fun e w' => e = .returned (.string ⟨(Lib.itoa n).toArray⟩) ∧ Below w.heap.size w w' := by
  refine (Tryd.strconv_Itoa n h0 h1 w htab).mono ?_
  rintro e w' ⟨rfl, k, os, rfl⟩
  exact ⟨rfl, below_grow1 _ _ _⟩

end Go.Proofs.YtbaiohjladddlaaDoor
