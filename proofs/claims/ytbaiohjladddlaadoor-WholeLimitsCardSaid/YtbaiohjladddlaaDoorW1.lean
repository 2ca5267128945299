import Derived.Test.YtbaiohjladddlaaDoorChecked
import Derived.WalkSpells
import Derived.WalkLawsBesides
import Derived.Lib.Hide
import Derived.Test.YtbaiohjladddlaaDoorM1
import Derived.Test.YtbaiohjladddlaaDoorR1
/- whole: trimmed, sign, down. -/
namespace Go.Proofs.YtbaiohjladddlaaDoor
open Go.RowKit Go.WM Go.WR

attribute [local go_sem] Oper.semAt_some

/-- the slice value reads as the limbs zs, in a block below n₀ (or it is nil) -/
def Lims (n₀ : Nat) (W : World) (sv : Value) (zs : List Int) : Prop :=
  (sv = .slice none 0 0 ∧ zs = []) ∨ ∃ b off cap, sv = .slice (some ⟨b, off, none⟩) zs.length cap ∧ zs.length ≤ cap ∧ b < n₀ ∧ ∀ j, j < zs.length → W.cell? ⟨b, off + j, none⟩ = some (.int .u16 (zs[j]?.getD 0))

theorem Lims.below {n₀ : Nat} {A B : World} (h : Below n₀ A B) {sv : Value} {zs : List Int} : Lims n₀ A sv zs → Lims n₀ B sv zs
  | .inl e => .inl e
  | .inr ⟨b, off, cap, e, hl, hb, hc⟩ => .inr ⟨b, off, cap, e, hl, hb, fun j hj => (h.cell (p := ⟨b, off + j, none⟩) hb).trans (hc j hj)⟩
theorem Lims.mono {n₀ n₁ : Nat} {A : World} (h : n₀ ≤ n₁) {sv : Value} {zs : List Int} : Lims n₀ A sv zs → Lims n₁ A sv zs
  | .inl e => .inl e
  | .inr ⟨b, off, cap, e, hl, hb, hc⟩ => .inr ⟨b, off, cap, e, hl, by omega, hc⟩

theorem trim_step0 (zs : List Int) (n : Nat) (hn : n < zs.length) (h : zs[n]?.getD 0 = 0) : trim (zs.take (n + 1)) = trim (zs.take n) := by
  rw [WM.take_snoc hn, trim_snoc, if_pos h]
theorem trim_step1 (zs : List Int) (n : Nat) (hn : n < zs.length) (h : zs[n]?.getD 0 ≠ 0) : trim (zs.take (n + 1)) = zs.take (n + 1) := by
  rw [WM.take_snoc hn, trim_snoc, if_neg h]

set_option maxHeartbeats 400000 in
theorem trimmed_some (b off len cap : Nat) (zs : List Int) (w : World) (hl : zs.length = len) (hcap : len ≤ cap) (hbig : len ≤ 9223372036854775807)
    (hc : ∀ j, j < len → w.cell? ⟨b, off + j, none⟩ = some (.int .u16 (zs[j]?.getD 0))) :
    Calls Tryd.prog 54 #[.slice (some ⟨b, off, none⟩) len cap] w fun e w' => e = .returned (.slice (some ⟨b, off, none⟩) (trim zs).length cap) ∧ w = w' := by
  have HL := Lib.hid hl; clear hl
  go_enter Tryd.func54, Tryd.ntmps54
  go_wp2
  go_loop [0] (fun v => ∃ n : Nat, n ≤ len ∧ v = .slice (some ⟨b, off, none⟩) n cap ∧ trim (zs.take n) = trim zs) (fun v => match v with | .slice _ n _ => n | _ => 0)
  case atStart => exact ⟨len, Nat.le_refl _, rfl, by rw [← HL.out]; simp⟩
  case round =>
    obtain ⟨n, hn, rfl, ht⟩ := hrel
    have HT := Lib.hid ht; clear ht
    cases n with
    | zero =>
      go_wp2
      go_ret
      exact ⟨by rw [← HT.out]; simp [trim], rfl⟩
    | succ n =>
      have hcell := hc n (by omega)
      by_cases hz : zs[n]?.getD 0 = 0
      · have HZ := Lib.hid hz
        go_wp2
        go_round
        case rel => exact ⟨n, by omega, rfl, by rw [← trim_step0 zs n (by rw [HL.out]; omega) HZ.out]; exact HT.out⟩
        case measure => simp
      · go_wp2
        go_ret
        exact ⟨by rw [← HT.out, trim_step1 zs n (by rw [HL.out]; omega) hz]; simp [HL.out, Nat.min_eq_left hn], rfl⟩

set_option maxHeartbeats 400000 in
theorem trimmed_nil (w : World) : Calls Tryd.prog 54 #[.slice none 0 0] w fun e w' => e = .returned (.slice none 0 0) ∧ w = w' := by
  go_enter Tryd.func54, Tryd.ntmps54
  go_wp2
  go_loop [0] (fun v => v = .slice none 0 0) (fun v => 0)
  case atStart => rfl
  case round =>
    obtain rfl := hrel
    go_wp2
    go_ret
    exact ⟨rfl, rfl⟩

theorem sign_any (t : Bool) (w : World) : Calls Tryd.prog 63 #[.bool t] w fun e w' => e = .returned (.int .i64 (if t then -1 else 1)) ∧ w = w' := by
  cases t
  · go_enter Tryd.func63, Tryd.ntmps63
    go_wp2
    go_ret
    exact ⟨rfl, rfl⟩
  · go_enter Tryd.func63, Tryd.ntmps63
    go_wp2
    go_ret
    exact ⟨rfl, rfl⟩

/-- down(l): the slice value is boxed; the function value captures the box. -/
theorem down_any (a : Option Addr) (len cap : Nat) (w : World) :
    Calls Tryd.prog 65 #[.slice a len cap] w fun e w' => e = .returned (.func (.func 86) #[] #[.pointer (some ⟨w.heap.size, 0, none⟩)]) ∧ w.alloc (.cells #[.slice a len cap] 22) = w' := by
  go_enter Tryd.func65, Tryd.ntmps65
  go_wp2
  go_ret
  exact ⟨rfl, rfl⟩

/-- what the k-th round of down is handed -/
def downs (zs : List Int) (k : Nat) : Array Value := #[.int .i64 ((zs.length - 1 - k : Nat) : Int), .int .u16 (zs[zs.length - 1 - k]?.getD 0)]

set_option maxRecDepth 100000 in
set_option maxHeartbeats 1000000 in
theorem down1_in (F : Fence) (n : Nat) (h7 : F.fn 86) (hro : F.round = none) (hn : 1 ≤ n) (l Bs n₀ b off cap : Nat) (zs : List Int) (hreach : zs.length ≤ 9223372036854775807) (hb : b < n₀) (J Jx : Nat → World → Prop)
    (hY : ∀ k W, J k W → k < zs.length → YieldAt F (n - 1) Tryd.prog l (downs zs k) W fun e W' =>
      (e = .returned (.bool true) ∧ J (k + 1) W' ∧ Keep1 n₀ Bs 22 W W') ∨ (e = .returned (.bool false) ∧ Jx (k + 1) W'))
    (W : World) (hBs : Boxed W Bs 22 (.slice (some ⟨b, off, none⟩) zs.length cap)) (hc : ∀ j, j < zs.length → W.cell? ⟨b, off + j, none⟩ = some (.int .u16 (zs[j]?.getD 0))) (h0 : J 0 W) :
    CallsIn F n Tryd.prog 86 #[.func (.yield l) #[] #[], .pointer (some ⟨Bs, 0, none⟩)] W fun e W' => (∃ v, e = .returned v) ∧ (J zs.length W' ∨ ∃ k, k ≤ zs.length ∧ Jx k W') := by
  refine callsIn_of_wp Tryd.func86 rfl h7 ?_ hro
  simp only [Tryd.ntmps86, List.size_toArray, List.length_cons, List.length_nil, Nat.reduceAdd, Nat.reduceSub, Array.replicate_succ, Array.replicate_zero, List.push_toArray, List.append_toArray, List.nil_append, List.cons_append]
  obtain ⟨len, hlen⟩ : ∃ len, len = zs.length := ⟨_, rfl⟩
  rw [← hlen] at hBs hreach hY hc ⊢
  have HLEN := Lib.hid hlen; clear hlen
  have hBc := hBs.cell
  gi_wp2
  gi_loopw [3] (fun i wr => ∃ k : Nat, k ≤ len ∧ i = .int .i64 ((len : Int) - 1 - k) ∧ J k wr ∧ Keep1 n₀ Bs 22 W wr)
    (fun i _ => (intOf i + 1).toNat)
  case atStart => exact ⟨0, Nat.zero_le _, by simp, h0, Keep1.refl _ _ _ _⟩
  case round =>
    obtain ⟨k, hk, rfl, hJs, hnx⟩ := hrel
    have hbx : wr.cell? ⟨Bs, 0, none⟩ = some (.slice (some ⟨b, off, none⟩) len cap) := (hnx.2 _ hBs).cell
    by_cases hlt : k < len
    · obtain ⟨m, hm⟩ : ∃ m : Nat, m = len - 1 - k := ⟨_, rfl⟩
      have e1 : (len : Int) - 1 - k = (m : Int) := by omega
      have hcx : wr.cell? ⟨b, off + m, none⟩ = some (.int .u16 (zs[m]?.getD 0)) := (hnx.1.cell (p := ⟨b, off + m, none⟩) hb).trans (hc m (by omega))
      have hy0 := hY k wr hJs hlt
      have e2 : downs zs k = #[.int .i64 (m : Int), .int .u16 (zs[m]?.getD 0)] := by simp only [downs]; rw [← HLEN.out, ← hm]
      rw [e2] at hy0
      obtain ⟨fn, tmps, assign, body, hy, hR⟩ := hy0
      rw [e1]
      have hml : m < len := by omega
      have HM := Lib.hid hm; clear hm e2
      have HE := Lib.hid e1; clear e1
      gi_wp2
      refine hR.mono ?_
      rintro e W3 (⟨rfl, hJ3, hk3⟩ | ⟨rfl, hJx3⟩)
      · gi_wp2
        go_roundw
        case rel => exact ⟨k + 1, by omega, by have h := HE.out; exact congrArg (Value.int IntKind.i64) (by omega), hJ3, keep1_t hnx hk3⟩
        case measure => have := HE.out; simp [intOf]
      · gi_wp2
        refine bodyPost_ret (results_none rfl _ _ _) rfl ?_
        exact ⟨⟨_, rfl⟩, .inr ⟨k + 1, by omega, hJx3⟩⟩
    · obtain rfl : k = len := by omega
      have e1 : (k : Int) - 1 - k = -1 := by omega
      rw [e1]
      clear e1
      gi_wp2
      go_end0
      exact ⟨⟨_, rfl⟩, .inl hJs⟩


set_option maxRecDepth 100000 in
set_option maxHeartbeats 1000000 in
theorem down1_nil_in (F : Fence) (n : Nat) (h7 : F.fn 86) (hro : F.round = none) (l Bs : Nat) (J : Nat → World → Prop) (W : World) (hBs : W.cell? ⟨Bs, 0, none⟩ = some (.slice none 0 0)) (h0 : J 0 W) :
    CallsIn F n Tryd.prog 86 #[.func (.yield l) #[] #[], .pointer (some ⟨Bs, 0, none⟩)] W fun e W' => (∃ v, e = .returned v) ∧ J 0 W' := by
  refine callsIn_of_wp Tryd.func86 rfl h7 ?_ hro
  simp only [Tryd.ntmps86, List.size_toArray, List.length_cons, List.length_nil, Nat.reduceAdd, Nat.reduceSub, Array.replicate_succ, Array.replicate_zero, List.push_toArray, List.append_toArray, List.nil_append, List.cons_append]
  gi_wp2
  gi_loopw [3] (fun i wr => i = .int .i64 (-1) ∧ J 0 wr) (fun _ _ => 0)
  case atStart => exact ⟨by simp, h0⟩
  case round =>
    obtain ⟨rfl, hJs⟩ := hrel
    gi_wp2
    go_end0
    exact ⟨⟨_, rfl⟩, hJs⟩

/-- down(l) hands back a value whose k-th round is handed downs zs k. -/
theorem down_seq (F : Fence) (n : Nat) (h7 : F.fn 86) (hro : F.round = none) (hn : 1 ≤ n) (Bs n₀ : Nat) (sv : Value) (zs : List Int) (hreach : zs.length ≤ 9223372036854775807) (w : World) (hn₀ : n₀ ≤ w.heap.size)
    (hc : Boxed w Bs 22 sv) (hI : Lims n₀ w sv zs) : SeqAt F n Tryd.prog 86 #[.pointer (some ⟨Bs, 0, none⟩)] (downs zs) (Keep1 n₀ Bs 22) zs.length w := fun l J Jx W hW hY h0 => by
  have hc' : Boxed W Bs 22 sv := (hW.block Bs hc.lt).trans hc
  rcases hI.below (hW.mono hn₀) with ⟨rfl, rfl⟩ | ⟨b, off, cap, rfl, hl, hb, hcs⟩
  · exact (down1_nil_in F n h7 hro l Bs J W hc'.cell h0).mono fun e W' ⟨he, hj⟩ => ⟨he, .inl hj⟩
  · exact down1_in F n h7 hro hn l Bs n₀ b off cap zs hreach hb J Jx hY W hc' hcs h0

end Go.Proofs.YtbaiohjladddlaaDoor
