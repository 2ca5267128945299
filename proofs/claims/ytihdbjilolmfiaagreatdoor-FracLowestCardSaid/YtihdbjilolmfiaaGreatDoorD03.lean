import Derived.Test.YtihdbjilolmfiaaGreatDoorD01
import Derived.Test.YtihdbjilolmfiaaGreatDoorD02
import Derived.Test.YtihdbjilolmfiaaGreatDoorChecked
import Derived.WalkSpells
import Derived.WalkLawsBesides
import Derived.Lib.Hide
set_option maxRecDepth 100000
set_option maxHeartbeats 4000000
namespace Go.Proofs.YtihdbjilolmfiaaGreatDoor
open Go.RowKit Go.WM Go.WR
attribute [local go_sem] Oper.semAt_some
def Lims (n₀ : Nat) (W : World) (sv : Value) (zs : List Int) : Prop :=
 (sv = .slice none 0 0 ∧ zs = []) ∨ ∃ b off cap, sv = .slice (some ⟨b, off, none⟩) zs.length cap ∧ zs.length ≤ cap ∧ b < n₀ ∧ ∀ j, j < zs.length → W.cell? ⟨b, off + j, none⟩ = some (.int .u16 (zs[j]?.getD 0))
theorem Lims.below {n₀ : Nat} {A B : World} (h : Below n₀ A B) {sv : Value} {zs : List Int} : Lims n₀ A sv zs → Lims n₀ B sv zs
 | .inl e => .inl e
 | .inr ⟨b, off, cap, e, hl, hb, hc⟩ => .inr ⟨b, off, cap, e, hl, hb, fun j hj => (h.cell (p := ⟨b, off + j, none⟩) hb).trans (hc j hj)⟩
theorem Lims.mono {n₀ n₁ : Nat} {A : World} (h : n₀ ≤ n₁) {sv : Value} {zs : List Int} : Lims n₀ A sv zs → Lims n₁ A sv zs
 | .inl e => .inl e
 | .inr ⟨b, off, cap, e, hl, hb, hc⟩ => .inr ⟨b, off, cap, e, hl, by omega, hc⟩
theorem trim_step0 (zs : List Int) (n : Nat) (hn : n < zs.length) (h : zs[n]?.getD 0 = 0) : trim (zs.take (n + 1)) = trim (zs.take n) := by
 rw [WM.take_snoc hn, trim_snoc, if_pos h]
theorem trim_step1 (zs : List Int) (n : Nat) (hn : n < zs.length) (h : zs[n]?.getD 0 ≠ 0) : trim (zs.take (n + 1)) = zs.take (n + 1) := by
 rw [WM.take_snoc hn, trim_snoc, if_neg h]
theorem trimmed_some (b off len cap : Nat) (zs : List Int) (w : World) (hl : zs.length = len) (hcap : len ≤ cap) (hbig : len ≤ 9223372036854775807)
 (hc : ∀ j, j < len → w.cell? ⟨b, off + j, none⟩ = some (.int .u16 (zs[j]?.getD 0))) :
 Calls Tryz.prog 137 #[.slice (some ⟨b, off, none⟩) len cap] w fun e w' => e = .returned (.slice (some ⟨b, off, none⟩) (trim zs).length cap) ∧ w = w' := by
 have HL := Lib.hid hl; clear hl
 go_enter Tryz.func137, Tryz.ntmps137
 go_wp2
 go_loop [0] (fun v => ∃ n : Nat, n ≤ len ∧ v = .slice (some ⟨b, off, none⟩) n cap ∧ trim (zs.take n) = trim zs) (fun v => match v with | .slice _ n _ => n | _ => 0)
 case atStart => exact ⟨len, Nat.le_refl _, rfl, by rw [← HL.out]; simp⟩
 case round =>
  obtain ⟨n, hn, rfl, ht⟩ := hrel
  have HT := Lib.hid ht; clear ht
  cases n with
  | zero =>
   go_wp2
   go_ret
   exact ⟨by rw [← HT.out]; simp [trim], rfl⟩
  | succ n =>
   have hcell := hc n (by omega)
   by_cases hz : zs[n]?.getD 0 = 0
   · have HZ := Lib.hid hz
     go_wp2
     go_round
     case rel => exact ⟨n, by omega, rfl, by rw [← trim_step0 zs n (by rw [HL.out]; omega) HZ.out]; exact HT.out⟩
     case measure => simp
   · go_wp2
     go_ret
     exact ⟨by rw [← HT.out, trim_step1 zs n (by rw [HL.out]; omega) hz]; simp [HL.out, Nat.min_eq_left hn], rfl⟩
theorem trimmed_nil (w : World) : Calls Tryz.prog 137 #[.slice none 0 0] w fun e w' => e = .returned (.slice none 0 0) ∧ w = w' := by
 go_enter Tryz.func137, Tryz.ntmps137
 go_wp2
 go_loop [0] (fun v => v = .slice none 0 0) (fun v => 0)
 case atStart => rfl
 case round =>
  obtain rfl := hrel
  go_wp2
  go_ret
  exact ⟨rfl, rfl⟩
theorem sign_any (t : Bool) (w : World) : Calls Tryz.prog 129 #[.bool t] w fun e w' => e = .returned (.int .i64 (if t then -1 else 1)) ∧ w = w' := by
 cases t
 · go_enter Tryz.func129, Tryz.ntmps129
   go_wp2
   go_ret
   exact ⟨rfl, rfl⟩
 · go_enter Tryz.func129, Tryz.ntmps129
   go_wp2
   go_ret
   exact ⟨rfl, rfl⟩
theorem down_any (a : Option Addr) (len cap : Nat) (w : World) :
 Calls Tryz.prog 145 #[.slice a len cap] w fun e w' => e = .returned (.func (.func 176) #[] #[.pointer (some ⟨w.heap.size, 0, none⟩)]) ∧ w.alloc (.cells #[.slice a len cap] 22) = w' := by
 go_enter Tryz.func145, Tryz.ntmps145
 go_wp2
 go_ret
 exact ⟨rfl, rfl⟩
def downs (zs : List Int) (k : Nat) : Array Value := #[.int .i64 ((zs.length - 1 - k : Nat) : Int), .int .u16 (zs[zs.length - 1 - k]?.getD 0)]
theorem down1_in (F : Fence) (n : Nat) (h7 : F.fn 176) (hro : F.round = none) (hn : 1 ≤ n) (l Bs n₀ b off cap : Nat) (zs : List Int) (hreach : zs.length ≤ 9223372036854775807) (hb : b < n₀) (J Jx : Nat → World → Prop)
 (hY : ∀ k W, J k W → k < zs.length → YieldAt F (n - 1) Tryz.prog l (downs zs k) W fun e W' =>
  (e = .returned (.bool true) ∧ J (k + 1) W' ∧ Keep1 n₀ Bs 22 W W') ∨ (e = .returned (.bool false) ∧ Jx (k + 1) W'))
 (W : World) (hBs : Boxed W Bs 22 (.slice (some ⟨b, off, none⟩) zs.length cap)) (hc : ∀ j, j < zs.length → W.cell? ⟨b, off + j, none⟩ = some (.int .u16 (zs[j]?.getD 0))) (h0 : J 0 W) :
 CallsIn F n Tryz.prog 176 #[.func (.yield l) #[] #[], .pointer (some ⟨Bs, 0, none⟩)] W fun e W' => (∃ v, e = .returned v) ∧ (J zs.length W' ∨ ∃ k, k ≤ zs.length ∧ Jx k W') := by
 refine callsIn_of_wp Tryz.func176 rfl h7 ?_ hro
 simp only [Tryz.ntmps176, List.size_toArray, List.length_cons, List.length_nil, Nat.reduceAdd, Nat.reduceSub, Array.replicate_succ, Array.replicate_zero, List.push_toArray, List.append_toArray, List.nil_append, List.cons_append]
 obtain ⟨len, hlen⟩ : ∃ len, len = zs.length := ⟨_, rfl⟩
 rw [← hlen] at hBs hreach hY hc ⊢
 have HLEN := Lib.hid hlen; clear hlen
 have hBc := hBs.cell
 gi_wp2
 gi_loopw [3] (fun i wr => ∃ k : Nat, k ≤ len ∧ i = .int .i64 ((len : Int) - 1 - k) ∧ J k wr ∧ Keep1 n₀ Bs 22 W wr)
  (fun i _ => (intOf i + 1).toNat)
 case atStart => exact ⟨0, Nat.zero_le _, by simp, h0, Keep1.refl _ _ _ _⟩
 case round =>
  obtain ⟨k, hk, rfl, hJs, hnx⟩ := hrel
  have hbx : wr.cell? ⟨Bs, 0, none⟩ = some (.slice (some ⟨b, off, none⟩) len cap) := (hnx.2 _ hBs).cell
  by_cases hlt : k < len
  · obtain ⟨m, hm⟩ : ∃ m : Nat, m = len - 1 - k := ⟨_, rfl⟩
    have e1 : (len : Int) - 1 - k = (m : Int) := by omega
    have hcx : wr.cell? ⟨b, off + m, none⟩ = some (.int .u16 (zs[m]?.getD 0)) := (hnx.1.cell (p := ⟨b, off + m, none⟩) hb).trans (hc m (by omega))
    have hy0 := hY k wr hJs hlt
    have e2 : downs zs k = #[.int .i64 (m : Int), .int .u16 (zs[m]?.getD 0)] := by simp only [downs]; rw [← HLEN.out, ← hm]
    rw [e2] at hy0
    obtain ⟨fn, tmps, assign, body, hy, hR⟩ := hy0
    rw [e1]
    have hml : m < len := by omega
    have HM := Lib.hid hm; clear hm e2
    have HE := Lib.hid e1; clear e1
    gi_wp2
    refine hR.mono ?_
    rintro e W3 (⟨rfl, hJ3, hk3⟩ | ⟨rfl, hJx3⟩)
    · gi_wp2
      go_roundw
      case rel => exact ⟨k + 1, by omega, by have h := HE.out; exact congrArg (Value.int IntKind.i64) (by omega), hJ3, keep1_t hnx hk3⟩
      case measure => have := HE.out; simp [intOf]
    · gi_wp2
      refine bodyPost_ret (results_none rfl _ _ _) rfl ?_
      exact ⟨⟨_, rfl⟩, .inr ⟨k + 1, by omega, hJx3⟩⟩
  · obtain rfl : k = len := by omega
    have e1 : (k : Int) - 1 - k = -1 := by omega
    rw [e1]
    clear e1
    gi_wp2
    go_end0
    exact ⟨⟨_, rfl⟩, .inl hJs⟩
theorem down1_nil_in (F : Fence) (n : Nat) (h7 : F.fn 176) (hro : F.round = none) (l Bs : Nat) (J : Nat → World → Prop) (W : World) (hBs : W.cell? ⟨Bs, 0, none⟩ = some (.slice none 0 0)) (h0 : J 0 W) :
 CallsIn F n Tryz.prog 176 #[.func (.yield l) #[] #[], .pointer (some ⟨Bs, 0, none⟩)] W fun e W' => (∃ v, e = .returned v) ∧ J 0 W' := by
 refine callsIn_of_wp Tryz.func176 rfl h7 ?_ hro
 simp only [Tryz.ntmps176, List.size_toArray, List.length_cons, List.length_nil, Nat.reduceAdd, Nat.reduceSub, Array.replicate_succ, Array.replicate_zero, List.push_toArray, List.append_toArray, List.nil_append, List.cons_append]
 gi_wp2
 gi_loopw [3] (fun i wr => i = .int .i64 (-1) ∧ J 0 wr) (fun _ _ => 0)
 case atStart => exact ⟨by simp, h0⟩
 case round =>
  obtain ⟨rfl, hJs⟩ := hrel
  gi_wp2
  go_end0
  exact ⟨⟨_, rfl⟩, hJs⟩
theorem down_seq (F : Fence) (n : Nat) (h7 : F.fn 176) (hro : F.round = none) (hn : 1 ≤ n) (Bs n₀ : Nat) (sv : Value) (zs : List Int) (hreach : zs.length ≤ 9223372036854775807) (w : World) (hn₀ : n₀ ≤ w.heap.size)
 (hc : Boxed w Bs 22 sv) (hI : Lims n₀ w sv zs) : SeqAt F n Tryz.prog 176 #[.pointer (some ⟨Bs, 0, none⟩)] (downs zs) (Keep1 n₀ Bs 22) zs.length w := fun l J Jx W hW hY h0 => by
 have hc' : Boxed W Bs 22 sv := (hW.block Bs hc.lt).trans hc
 rcases hI.below (hW.mono hn₀) with ⟨rfl, rfl⟩ | ⟨b, off, cap, rfl, hl, hb, hcs⟩
 · exact (down1_nil_in F n h7 hro l Bs J W hc'.cell h0).mono fun e W' ⟨he, hj⟩ => ⟨he, .inl hj⟩
 · exact down1_in F n h7 hro hn l Bs n₀ b off cap zs hreach hb J Jx hY W hc' hcs h0
theorem Lims.cells {n₀ : Nat} {w : World} {p : Option Addr} {len c : Nat} {zs : List Int} (h : Lims n₀ w (.slice p len c) zs) :
 len = zs.length ∧ (0 < len → ∃ b off, p = some ⟨b, off, none⟩ ∧ b < n₀ ∧ len ≤ c ∧ ∀ j, j < len → w.cell? ⟨b, off + j, none⟩ = some (.int .u16 (zs[j]?.getD 0))) := by
 rcases h with ⟨e, rfl⟩ | ⟨b, off, cap, e, hl, hb, hc⟩
 · cases e; exact ⟨rfl, fun h => absurd h (by omega)⟩
 · cases e; exact ⟨rfl, fun _ => ⟨b, off, rfl, hb, hl, hc⟩⟩
theorem Lims.form {n₀ : Nat} {w : World} {v : Value} {zs : List Int} (h : Lims n₀ w v zs) : ∃ p len c, v = .slice p len c := by
 rcases h with ⟨e, rfl⟩ | ⟨b, off, cap, e, hl, hb, hc⟩ <;> exact ⟨_, _, _, e⟩
def agree (za zb : List Int) (k : Nat) : Prop := za.drop (za.length - k) = zb.drop (zb.length - k)
theorem compare_same (pa pb : Option Addr) (ca cb len : Nat) (za zb : List Int) (w : World) (hbig : len ≤ 9223372036854775807)
 (hLa : Lm za) (hLb : Lm zb) (hA : Lims w.heap.size w (.slice pa len ca) za) (hB : Lims w.heap.size w (.slice pb len cb) zb) :
 Calls Tryz.prog 130 #[.slice pa len ca, .slice pb len cb] w fun e w' => e = .returned (.int .i64 (cmpI (val za) (val zb))) ∧ Below w.heap.size w w' := by
 have HA := Lib.hid hA.cells.1
 have HB := Lib.hid hB.cells.1
 refine (callsIn_wide (n := 9)).1 ?_
 refine callsIn_of_wp_marks Tryz.func130 rfl trivial ?_ rfl
 simp only [Tryz.ntmps130, List.size_toArray, List.length_cons, List.length_nil, Nat.reduceAdd, Nat.reduceSub, Array.replicate_succ, Array.replicate_zero, List.push_toArray, List.append_toArray, List.nil_append, List.cons_append]
 gi_wp2_with (refine ⟨trivial, ?_⟩; gi_at_call 145; refine ((callsIn_wide (n := 8)).2 (down_any _ _ _ _)).mono ?_; rintro e w' ⟨rfl, rfl⟩)
 have bB := (Boxed.new w 22 (.slice pb len cb))
 have bR := Boxed.new (w.alloc (.cells #[.slice pb len cb] 22)) 3 (.int .i64 0)
 have bA := Boxed.new ((w.alloc (.cells #[.slice pb len cb] 22)).alloc (.cells #[.int .i64 0] 3)) 22 (.slice pa len ca)
 rw [World.size_alloc] at bR
 rw [World.size_alloc, World.size_alloc] at bA
 have hW : Below w.heap.size w (((w.alloc (.cells #[.slice pb len cb] 22)).alloc (.cells #[.int .i64 0] 3)).alloc (.cells #[.slice pa len ca] 22)) :=
  (((Below.refl _ w).alloc (Nat.le_refl _) _).alloc (by simp) _).alloc (by simp; omega) _
 have hz : (((w.alloc (.cells #[.slice pb len cb] 22)).alloc (.cells #[.int .i64 0] 3)).alloc (.cells #[.slice pa len ca] 22)).heap.size = w.heap.size + 3 := by simp
 replace bB := (bB.alloc (.cells #[.int .i64 0] 3)).alloc (.cells #[.slice pa len ca] 22)
 replace bR := bR.alloc (.cells #[.slice pa len ca] 22)
 generalize ((w.alloc (.cells #[.slice pb len cb] 22)).alloc (.cells #[.int .i64 0] 3)).alloc (.cells #[.slice pa len ca] 22) = W0 at *
 refine' wpIn_range (n := 9) (gf := 176) (lb := #[.pointer (some ⟨w.heap.size + 1 + 1, 0, none⟩)]) (N := za.length) rfl (by omega) rfl trivial (enters_of Tryz.func176 (by kernel_rfl) rfl)
  (down_seq Fence.wide 8 trivial rfl (by omega) _ w.heap.size _ za (by rw [← HA.out]; exact hbig) W0 (by omega) bA (hA.below hW)) keep1_t (keep1_b (by omega)) (fun _ => rfl)
  (fun k W => agree za zb k ∧ Boxed W w.heap.size 22 (.slice pb len cb) ∧ Boxed W (w.heap.size + 1) 3 (.int .i64 0) ∧ Below w.heap.size w W)
  (fun c _ W => c = .ret ∧ Boxed W (w.heap.size + 1) 3 (.int .i64 (cmpI (val za) (val zb))) ∧ Below w.heap.size w W)
  ?hI ?hIx ?h0 _ ?assign ?body ?done ?stop
 case hI => exact OwnFrom.and (ownFrom_pure _ _) (OwnFrom.and (Own.from (boxed_own _ _ _) _) (OwnFrom.and (Own.from (boxed_own _ _ _) _) (ownFrom_below (Nat.le_refl _) (by omega))))
 case hIx => exact fun c => OwnFrom.and (ownFrom_pure _ _) (OwnFrom.and (Own.from (boxed_own _ _ _) _) (ownFrom_below (Nat.le_refl _) (by omega)))
 case h0 => exact ⟨by simp [agree], bB, bR, hW⟩
 case assign =>
  intro l x W K hK
  simp only [downs]
  gi_wp2
  exact hK
 case body =>
  rintro l k W ⟨hag, hBB, hBR, hBW⟩ hk
  have hlen := HA.out
  have hlenb := HB.out
  obtain ⟨m, hm⟩ : ∃ m : Nat, m = za.length - 1 - k := ⟨_, rfl⟩
  have hx : 0 < len := by omega
  obtain ⟨b, off, rfl, hbn, hcap, hcb⟩ := hB.cells.2 hx
  have hml : m < len := by omega
  have hcm : W.cell? ⟨b, off + m, none⟩ = some (.int .u16 (zb[m]?.getD 0)) := (hBW.cell (p := ⟨b, off + m, none⟩) hbn).trans (hcb m hml)
  have hcB := hBB.cell
  have hcR := hBR.cell
  have hfR := hBR.frozen
  rw [← hm]
  have HM := Lib.hid hm; clear hm
  have HLA := Lib.hid hlen; clear hlen
  have HLB := Lib.hid hlenb; clear hlenb
  have d1 : za.length - k = m + 1 := by have := HM.out; omega
  have d2 : zb.length - k = m + 1 := by have := HM.out; have := HLA.out; have := HLB.out; omega
  have d3 : za.length - (k + 1) = m := by omega
  have d4 : zb.length - (k + 1) = m := by omega
  have HAG : Hid (za.drop (m + 1) = zb.drop (m + 1)) := by unfold agree at hag; rw [d1, d2] at hag; exact hag
  have D3 := Lib.hid d3
  have D4 := Lib.hid d4
  clear d1 d2 d3 d4 hag
  by_cases he : za[m]?.getD 0 = zb[m]?.getD 0
  · gi_wp2
    refine ⟨KeepsFrom.refl _ _, Keep1.refl _ _ _ _, ?_, hBB, hBR, hBW⟩
    unfold agree; rw [D3.out, D4.out]
    exact drop_step (by rw [← HLA.out, ← HLB.out]) (by rw [← HLA.out]; omega) HAG.out he
  · have hcmp := cmp_at hLa hLb (by rw [← HLA.out, ← HLB.out]) (by rw [← HLA.out]; omega) HAG.out he
    have HCMP := Lib.hid hcmp; clear hcmp
    gi_wp2_with (refine ⟨trivial, ?_⟩; gi_at_call 129; refine (CallsIn.inRound l ((callsIn_wide (n := 6)).2 (sign_any _ _))).mono ?_; rintro e w' ⟨rfl, rfl⟩)
    · have hlt : za[m]?.getD 0 < zb[m]?.getD 0 := by assumption
      exact ⟨(KeepsOthers.setCell _ _ _).from _, rfl, by rw [HCMP.out, if_pos hlt]; exact hBR.set _, hBW.setCell (p := ⟨w.heap.size + 1, 0, none⟩) (by simp) _⟩
    · have hge : zb[m]?.getD 0 ≤ za[m]?.getD 0 := by assumption
      exact ⟨(KeepsOthers.setCell _ _ _).from _, rfl, by rw [HCMP.out, if_neg (by omega)]; exact hBR.set _, hBW.setCell (p := ⟨w.heap.size + 1, 0, none⟩) (by simp) _⟩
 case done =>
  rintro D W hD ⟨hag, hBB, hBR, hBW⟩ hK
  have hcR := hBR.cell
  have hfR := hBR.frozen
  have e : val za = val zb := by
   unfold agree at hag
   rw [show za.length - za.length = 0 by omega, show zb.length - za.length = 0 by have := HA.out; have := HB.out; omega] at hag
   rw [show za = zb from hag]
  have E := Lib.hid e; clear e hag
  gi_wp2
  have hK' := (KeepsOthers.setCell W ⟨w.heap.size + 1, 0, none⟩ (.int .i64 0)).same D _ hK rfl
  refine ⟨by simp, .inl ⟨_, _, rfl, run_takeDeferred hK', ?_⟩⟩
  have hc5 := cell_kept (World.cell?_setCell_same' W ⟨w.heap.size + 1, 0, none⟩ (.int .i64 0) (by rw [hcR]; rfl)) (grownBy_putObj' _ D (.deferred none)) (fun r e => by cases e; exact ⟨_, hK', rfl⟩)
  refine ⟨.int .i64 0, by simp [results, Tryz.f130, go_sem, hc5], by rw [E.out, cmpI_self], (hBW.setCell (p := ⟨w.heap.size + 1, 0, none⟩) (by simp) _).trans (belowK_b (w := w) (Nat.le_refl _) _ D _ _ (by omega) hK' rfl rfl)⟩
 case stop =>
  rintro D c k W hD hk ⟨rfl, hBR, hBW⟩ hK
  have hcR := hBR.cell
  gi_wp2
  refine ⟨by simp, .inl ⟨_, _, rfl, run_takeDeferred hK, ?_⟩⟩
  have hc5 := cell_kept hcR (grownBy_putObj' _ D (.deferred none)) (fun r e => by cases e; exact ⟨_, hK, rfl⟩)
  refine ⟨_, by simp [results, Tryz.f130, go_sem, hc5], rfl, hBW.trans (belowK_b (w := w) (Nat.le_refl _) _ D _ _ (by omega) hK rfl rfl)⟩
theorem compare_diff (pa pb : Option Addr) (ca cb la lb : Nat) (w : World) (_ : la ≤ 9223372036854775807) (_ : lb ≤ 9223372036854775807) (hne : la ≠ lb) :
 Calls Tryz.prog 130 #[.slice pa la ca, .slice pb lb cb] w fun e w' => e = .returned (.int .i64 (if la < lb then -1 else 1)) ∧ Below w.heap.size w w' := by
 have h1 : (la == lb) = false := by simpa using hne
 have h2 : (la != lb) = true := by simpa using hne
 clear hne
 have hW : ∀ v, Below w.heap.size w ((w.alloc (.cells #[.slice pb lb cb] 22)).alloc (.cells #[v] 3)) :=
  fun v => ((Below.refl _ w).alloc (Nat.le_refl _) _).alloc (by simp) _
 by_cases hlt : la < lb
 · have h3 : decide (la < lb) = true := by simpa using hlt
   go_enter Tryz.func130, Tryz.ntmps130
   go_wp2_with (go_at_call 129; refine (sign_any _ _).mono ?_; rintro e w' ⟨rfl, rfl⟩)
   exact bodyPost_ret (v := .int .i64 (-1)) (by simp [results, Tryz.results130, go_sem]) rfl ⟨rfl, hW _⟩
 · have h3 : decide (la < lb) = false := by simpa using hlt
   go_enter Tryz.func130, Tryz.ntmps130
   go_wp2_with (go_at_call 129; refine (sign_any _ _).mono ?_; rintro e w' ⟨rfl, rfl⟩)
   exact bodyPost_ret (v := .int .i64 1) (by simp [results, Tryz.results130, go_sem]) rfl ⟨rfl, hW _⟩
theorem compare_any (va vb : Value) (za zb : List Int) (n m : Int) (w : World) (ha : Rep za n) (hb : Rep zb m) (hba : za.length ≤ 9223372036854775807) (hbb : zb.length ≤ 9223372036854775807)
 (hA : Lims w.heap.size w va za) (hB : Lims w.heap.size w vb zb) :
 Calls Tryz.prog 130 #[va, vb] w fun e w' => e = .returned (.int .i64 (cmpI n m)) ∧ Below w.heap.size w w' := by
 obtain ⟨pa, la, ca, rfl⟩ := hA.form
 obtain ⟨pb, lb, cb, rfl⟩ := hB.form
 obtain rfl := hA.cells.1
 obtain rfl := hB.cells.1
 by_cases hl : za.length = zb.length
 · rw [← hl] at hB ⊢
   have := compare_same pa pb ca cb za.length za zb w hba ha.lm hb.lm hA hB
   rw [ha.eq, hb.eq] at this
   exact this
 · rw [cmp_len ha hb hl]
   exact compare_diff pa pb ca cb za.length zb.length w hba hbb hl
end Go.Proofs.YtihdbjilolmfiaaGreatDoor
namespace Go.Proofs.YtihdbjilolmfiaaGreatDoor
open Go.RowKit Go.WM Go.WR
theorem info48 : (Tryz.prog.info? 48).map (fun i => (i.zero, i.size, i.bytes)) = some (some (.int .u16 0), 1, 2) := by kernel_rfl
def Own16 (B : Nat) (W : World) (v : Value) (zs : List Int) : Prop := W.ownsRow B 48 1 v zs.length (zs.map (Value.int .u16))
theorem Own16.out {B : Nat} {W : World} {v : Value} {zs : List Int} (h : Own16 B W v zs) : W.ownsRow B 48 1 v zs.length (zs.map (Value.int .u16)) := h
theorem Own16.box {B : Nat} {W : World} {v : Value} {zs : List Int} (h : Own16 B W v zs) {Bx t : Nat} {u : Value} (hb : Boxed W Bx t u) (ht : t ≠ 48) (x : Value) : Own16 B (W.setCell ⟨Bx, 0, none⟩ x) v zs :=
 World.ownsRow.kept h (grownBy_setCell' W Bx x) (.inr (hb.not_row ht h).symm)
theorem addput (n₀ Bc Bo : Nat) (n c : Int) (v : Value) (zs : List Int) (w : World) (hn : 0 ≤ n) (hn' : n ≤ 131070) (hc : 0 ≤ c) (hc' : c ≤ 1) (hlen : zs.length ≤ 70368744177663)
 (bC : Boxed w Bc 101 (.int .u32 c)) (bO : Boxed w Bo 22 v) (hown : Own16 n₀ w v zs) (hn₀ : n₀ ≤ w.heap.size) (hBc : n₀ ≤ Bc) (hBo : n₀ ≤ Bo) (hne : Bc ≠ Bo) :
 Calls Tryz.prog 172 #[.int .u32 n, .pointer (some ⟨Bc, 0, none⟩), .pointer (some ⟨Bo, 0, none⟩)] w fun e w' => (∃ u, e = .returned u) ∧ Boxed w' Bc 101 (.int .u32 ((n + c) / 65536)) ∧
  (∃ v', Boxed w' Bo 22 v' ∧ Own16 n₀ w' v' (zs ++ [(n + c) % 65536])) ∧ Below n₀ w w' := by
 obtain ⟨i0, hi, hz0, hz1, hz2⟩ := info_parts info48
 have hcc := bC.cell
 have hco := bO.cell
 have hfc := bC.frozen
 have hfo := bO.frozen
 have hrow := hown.out
 have k1 : 0 ≤ n + c := by omega
 have k2 : n + c ≤ 131071 := by omega
 go_enter Tryz.func172, Tryz.ntmps172
 go_wp2_with (at_builtin; refine wpList_append_own _ rfl _ _ 22 rfl n₀ 48 i0 (.int .u16 0) 1 2 Tryz.underlying22 hi hz0 hz1 hz2 rfl (by decide) _ _ _ rfl (hrow.alloc _) ⟨w.heap.size, 0, none⟩ 1 1 [.int .u16 (IntKind.u16.wrap (n + c))] rfl rfl (cell_one_new _ _ _) (by simp [Value.oneCell']) (by unfold maxLen; omega) (by omega) (by simp; omega) ?_; intro v' w1 hown' hgrow _; obtain ⟨g', cap', rfl⟩ := ownsRow_succ hown'; obtain ⟨hv1, hv2, hr2, hk2, hb2⟩ := bO.appended (by decide) hrow hn₀ hBo hown' hgrow; have hc1 := hv1.cell; have hf1 := hv1.frozen; have bC2 := ((bC.alloc (.cells #[.int .u16 (IntKind.u16.wrap (n + c))] 48)).kept hgrow (bC.not_row (by decide) hrow)).other hne (.slice (some ⟨g', 0, none⟩) (zs.length + 1) cap'); have hc2 := bC2.cell; have hf2 := bC2.frozen)
 go_end0
 refine ⟨⟨_, rfl⟩, bC2.set _, ⟨_, hv2.other (Ne.symm hne) _, ?_⟩, hb2.setCell (p := ⟨Bc, 0, none⟩) hBc _⟩
 refine Own16.box (t := 101) ?_ bC2 (by decide) _
 unfold Own16
 simp only [List.length_append, List.length_cons, List.length_nil, Nat.zero_add, List.map_append, List.map_cons, List.map_nil]
 rw [← IntKind.wrap_u16]
 exact hr2
theorem add_ge (px py : Option Addr) (lx ly cx cy : Nat) (X Y : List Int) (n m : Int) (w : World) (hX : Rep X n) (hY : Rep Y m) (hlen : lx ≤ 70368744177662) (hlt : ¬ lx < ly)
 (hA : Lims w.heap.size w (.slice px lx cx) X) (hB : Lims w.heap.size w (.slice py ly cy) Y) :
 Calls Tryz.prog 127 #[.slice px lx cx, .slice py ly cy] w fun e w' => ∃ v zs, e = .returned v ∧ Own16 w.heap.size w' v zs ∧ Rep zs (n + m) ∧ Below w.heap.size w w' := by
 obtain ⟨i0, hi, hz0, hz1, hz2⟩ := info_parts info48
 have HX := Lib.hid hA.cells.1
 have HY := Lib.hid hB.cells.1
 have hd : decide (lx < ly) = false := by simpa using hlt
 go_enter Tryz.func127, Tryz.ntmps127
 go_wp2_with (at_make; refine wpList_make_own _ rfl _ _ 22 rfl w.heap.size 48 i0 (.int .u16 0) 1 Tryz.underlying22 hi hz0 hz1 _ _ _ (lx + 1) rfl rfl (by omega) (by rw [hz2]; omega) (by unfold maxLen; omega) (Nat.le_refl _) ?_; intro w0 hown0 hgrow0)
 have hB0 : Below w.heap.size w w0 := (Below.refl _ _).grown hgrow0 (Nat.le_refl _) (fun k h => by cases h)
 have hs0 := hB0.size
 have bO := Boxed.new w0 22 (.slice (some ⟨w.heap.size, 0, none⟩) 0 (lx + 1))
 have bC := Boxed.new (w0.alloc (.cells #[.slice (some ⟨w.heap.size, 0, none⟩) 0 (lx + 1)] 22)) 101 (.int .u32 0)
 rw [World.size_alloc] at bC
 replace bO := bO.alloc (.cells #[.int .u32 0] 101)
 have hB1 := (hB0.alloc hs0 (.cells #[.slice (some ⟨w.heap.size, 0, none⟩) 0 (lx + 1)] 22)).alloc (by simp; omega) (.cells #[.int .u32 0] 101)
 have hown1 : Own16 w.heap.size ((w0.alloc (.cells #[.slice (some ⟨w.heap.size, 0, none⟩) 0 (lx + 1)] 22)).alloc (.cells #[.int .u32 0] 101)) (.slice (some ⟨w.heap.size, 0, none⟩) 0 (lx + 1)) [] := (hown0.alloc _).alloc _
 clear hown0 hgrow0
 generalize hW1 : (w0.alloc (.cells #[.slice (some ⟨w.heap.size, 0, none⟩) 0 (lx + 1)] 22)).alloc (.cells #[.int .u32 0] 101) = W1 at *
 have hs1 : W1.heap.size = w0.heap.size + 2 := by rw [← hW1]; simp
 have HW1 := Lib.hid hW1; clear hW1
 have HS1 := Lib.hid hs1; clear hs1
 go_loopw [25] (fun i wr => ∃ (k : Nat) (c : Int) (v : Value) (out : List Int), k ≤ lx ∧ i = .int .i64 k ∧ 0 ≤ c ∧ c ≤ 1 ∧ Boxed wr (w0.heap.size + 1) 101 (.int .u32 c) ∧ Boxed wr w0.heap.size 22 v ∧ Own16 w.heap.size wr v out ∧ Lm out ∧ out.length = k ∧
  val out + 65536 ^ k * c = val (X.take k) + val (Y.take k) ∧ Below w.heap.size w wr) (fun i _ => lx - (intOf i).toNat)
 case atStart => exact ⟨0, 0, _, [], Nat.zero_le _, rfl, by omega, by omega, bC, bO, hown1, Lm.nil, rfl, by simp [val], hB1⟩
 case round =>
  obtain ⟨k, c, v, out, hk, rfl, hc0, hc1, bCr, bOr, hown, hLm, hol, hval, hBr⟩ := hrel
  have HOL := Lib.hid hol; clear hol
  have HVAL := Lib.hid hval; clear hval
  by_cases hkl : k < lx
  · have hx := hX.lm.getD k
    have hy := hY.lm.getD k
    obtain ⟨hx0, hx1⟩ := hx
    obtain ⟨hy0, hy1⟩ := hy
    obtain ⟨bx, ox, rfl, hbx, hcx, hcX⟩ := hA.cells.2 (by omega)
    have hcxk : wr.cell? ⟨bx, ox + k, none⟩ = some (.int .u16 (X[k]?.getD 0)) := (hBr.cell (p := ⟨bx, ox + k, none⟩) hbx).trans (hcX k hkl)
    have hstep := add_step (X := X) (Y := Y) HOL.out HVAL.out
    have HSTEP := Lib.hid hstep; clear hstep
    by_cases hky : k < ly
    · obtain ⟨by', oy, rfl, hby, hcy, hcY⟩ := hB.cells.2 (by omega)
      have hcyk : wr.cell? ⟨by', oy + k, none⟩ = some (.int .u16 (Y[k]?.getD 0)) := (hBr.cell (p := ⟨by', oy + k, none⟩) hby).trans (hcY k hky)
      clear hcX hcY
      go_wp2_with (go_at_call 172; refine (addput w.heap.size (w0.heap.size + 1) w0.heap.size _ c v out wr (by omega) (by omega) hc0 hc1 (by rw [HOL.out]; omega) bCr bOr hown hBr.size (by omega) hs0 (by omega)).mono ?_; rintro e w2 ⟨⟨u, rfl⟩, bC2, ⟨v2, bO2, hown2⟩, hb2⟩)
      go_roundw
      case rel => exact ⟨k + 1, _, v2, _, by omega, by go_num, by omega, by omega, bC2, bO2, hown2, hLm.append (Lm.cons (by omega) Lm.nil), by rw [List.length_append, HOL.out]; rfl, HSTEP.out, hBr.trans hb2⟩
      case measure => simp [intOf]; omega
    · have hyz : Y[k]?.getD 0 = 0 := getD_out (by have := HY.out; omega)
      have HYZ := Lib.hid hyz; clear hyz
      clear hcX
      go_wp2_with (go_at_call 172; refine (addput w.heap.size (w0.heap.size + 1) w0.heap.size _ c v out wr (by omega) (by omega) hc0 hc1 (by rw [HOL.out]; omega) bCr bOr hown hBr.size (by omega) hs0 (by omega)).mono ?_; rintro e w2 ⟨⟨u, rfl⟩, bC2, ⟨v2, bO2, hown2⟩, hb2⟩)
      have hst := HSTEP.out
      rw [HYZ.out, Int.add_zero] at hst
      have HST := Lib.hid hst; clear hst
      go_roundw
      case rel => exact ⟨k + 1, _, v2, _, by omega, by go_num, by omega, by omega, bC2, bO2, hown2, hLm.append (Lm.cons (by omega) Lm.nil), by rw [List.length_append, HOL.out]; rfl, HST.out, hBr.trans hb2⟩
      case measure => simp [intOf]; omega
  · obtain rfl : k = lx := by omega
    have hvv : val out + 65536 ^ k * c = n + m := by
     rw [HVAL.out, take_all (by have := HX.out; omega), take_all (by have := HX.out; have := HY.out; omega), hX.eq, hY.eq]
    have HVV := Lib.hid hvv; clear hvv
    have hcc := bCr.cell
    have hco := bOr.cell
    by_cases hcz : c = 0
    · subst hcz
      have hrep : Rep out (n + m) := rep_add0 hX hY hLm (by rw [HOL.out, HX.out]) (by have := HVV.out; simpa using this)
      have HREP := Lib.hid hrep
      go_wp2
      go_ret
      exact ⟨v, out, rfl, hown, hrep, hBr⟩
    · obtain rfl : c = 1 := by omega
      have hrep : Rep (out ++ [(0 + 1) % 65536]) (n + m) := rep_add1 hLm (by rw [HOL.out]; exact HVV.out)
      go_wp2_with (go_at_call 172; refine (addput w.heap.size (w0.heap.size + 1) w0.heap.size 0 1 v out wr (by omega) (by omega) hc0 hc1 (by rw [HOL.out]; omega) bCr bOr hown hBr.size (by omega) hs0 (by omega)).mono ?_; rintro e w2 ⟨⟨u, rfl⟩, bC2, ⟨v2, bO2, hown2⟩, hb2⟩; have hco2 := bO2.cell)
      go_ret
      exact ⟨v2, _, rfl, hown2, hrep, hBr.trans hb2⟩
theorem add_lt (px py : Option Addr) (lx ly cx cy : Nat) (X Y : List Int) (n m : Int) (w : World) (hX : Rep X n) (hY : Rep Y m) (hlen : lx ≤ 70368744177662) (hlt : ly < lx)
 (hA : Lims w.heap.size w (.slice px lx cx) X) (hB : Lims w.heap.size w (.slice py ly cy) Y) :
 Calls Tryz.prog 127 #[.slice py ly cy, .slice px lx cx] w fun e w' => ∃ v zs, e = .returned v ∧ Own16 w.heap.size w' v zs ∧ Rep zs (n + m) ∧ Below w.heap.size w w' := by
 obtain ⟨i0, hi, hz0, hz1, hz2⟩ := info_parts info48
 have HX := Lib.hid hA.cells.1
 have HY := Lib.hid hB.cells.1
 have hd : decide (ly < lx) = true := by simpa using hlt
 go_enter Tryz.func127, Tryz.ntmps127
 go_wp2_with (at_make; refine wpList_make_own _ rfl _ _ 22 rfl w.heap.size 48 i0 (.int .u16 0) 1 Tryz.underlying22 hi hz0 hz1 _ _ _ (lx + 1) rfl rfl (by omega) (by rw [hz2]; omega) (by unfold maxLen; omega) (Nat.le_refl _) ?_; intro w0 hown0 hgrow0)
 have hB0 : Below w.heap.size w w0 := (Below.refl _ _).grown hgrow0 (Nat.le_refl _) (fun k h => by cases h)
 have hs0 := hB0.size
 have bO := Boxed.new w0 22 (.slice (some ⟨w.heap.size, 0, none⟩) 0 (lx + 1))
 have bC := Boxed.new (w0.alloc (.cells #[.slice (some ⟨w.heap.size, 0, none⟩) 0 (lx + 1)] 22)) 101 (.int .u32 0)
 rw [World.size_alloc] at bC
 replace bO := bO.alloc (.cells #[.int .u32 0] 101)
 have hB1 := (hB0.alloc hs0 (.cells #[.slice (some ⟨w.heap.size, 0, none⟩) 0 (lx + 1)] 22)).alloc (by simp; omega) (.cells #[.int .u32 0] 101)
 have hown1 : Own16 w.heap.size ((w0.alloc (.cells #[.slice (some ⟨w.heap.size, 0, none⟩) 0 (lx + 1)] 22)).alloc (.cells #[.int .u32 0] 101)) (.slice (some ⟨w.heap.size, 0, none⟩) 0 (lx + 1)) [] := (hown0.alloc _).alloc _
 clear hown0 hgrow0
 generalize hW1 : (w0.alloc (.cells #[.slice (some ⟨w.heap.size, 0, none⟩) 0 (lx + 1)] 22)).alloc (.cells #[.int .u32 0] 101) = W1 at *
 have hs1 : W1.heap.size = w0.heap.size + 2 := by rw [← hW1]; simp
 have HW1 := Lib.hid hW1; clear hW1
 have HS1 := Lib.hid hs1; clear hs1
 go_loopw [25] (fun i wr => ∃ (k : Nat) (c : Int) (v : Value) (out : List Int), k ≤ lx ∧ i = .int .i64 k ∧ 0 ≤ c ∧ c ≤ 1 ∧ Boxed wr (w0.heap.size + 1) 101 (.int .u32 c) ∧ Boxed wr w0.heap.size 22 v ∧ Own16 w.heap.size wr v out ∧ Lm out ∧ out.length = k ∧
  val out + 65536 ^ k * c = val (X.take k) + val (Y.take k) ∧ Below w.heap.size w wr) (fun i _ => lx - (intOf i).toNat)
 case atStart => exact ⟨0, 0, _, [], Nat.zero_le _, rfl, by omega, by omega, bC, bO, hown1, Lm.nil, rfl, by simp [val], hB1⟩
 case round =>
  obtain ⟨k, c, v, out, hk, rfl, hc0, hc1, bCr, bOr, hown, hLm, hol, hval, hBr⟩ := hrel
  have HOL := Lib.hid hol; clear hol
  have HVAL := Lib.hid hval; clear hval
  by_cases hkl : k < lx
  · have hx := hX.lm.getD k
    have hy := hY.lm.getD k
    obtain ⟨hx0, hx1⟩ := hx
    obtain ⟨hy0, hy1⟩ := hy
    obtain ⟨bx, ox, rfl, hbx, hcx, hcX⟩ := hA.cells.2 (by omega)
    have hcxk : wr.cell? ⟨bx, ox + k, none⟩ = some (.int .u16 (X[k]?.getD 0)) := (hBr.cell (p := ⟨bx, ox + k, none⟩) hbx).trans (hcX k hkl)
    have hstep := add_step (X := X) (Y := Y) HOL.out HVAL.out
    have HSTEP := Lib.hid hstep; clear hstep
    by_cases hky : k < ly
    · obtain ⟨by', oy, rfl, hby, hcy, hcY⟩ := hB.cells.2 (by omega)
      have hcyk : wr.cell? ⟨by', oy + k, none⟩ = some (.int .u16 (Y[k]?.getD 0)) := (hBr.cell (p := ⟨by', oy + k, none⟩) hby).trans (hcY k hky)
      clear hcX hcY
      go_wp2_with (go_at_call 172; refine (addput w.heap.size (w0.heap.size + 1) w0.heap.size _ c v out wr (by omega) (by omega) hc0 hc1 (by rw [HOL.out]; omega) bCr bOr hown hBr.size (by omega) hs0 (by omega)).mono ?_; rintro e w2 ⟨⟨u, rfl⟩, bC2, ⟨v2, bO2, hown2⟩, hb2⟩)
      go_roundw
      case rel => exact ⟨k + 1, _, v2, _, by omega, by go_num, by omega, by omega, bC2, bO2, hown2, hLm.append (Lm.cons (by omega) Lm.nil), by rw [List.length_append, HOL.out]; rfl, HSTEP.out, hBr.trans hb2⟩
      case measure => simp [intOf]; omega
    · have hyz : Y[k]?.getD 0 = 0 := getD_out (by have := HY.out; omega)
      have HYZ := Lib.hid hyz; clear hyz
      clear hcX
      go_wp2_with (go_at_call 172; refine (addput w.heap.size (w0.heap.size + 1) w0.heap.size _ c v out wr (by omega) (by omega) hc0 hc1 (by rw [HOL.out]; omega) bCr bOr hown hBr.size (by omega) hs0 (by omega)).mono ?_; rintro e w2 ⟨⟨u, rfl⟩, bC2, ⟨v2, bO2, hown2⟩, hb2⟩)
      have hst := HSTEP.out
      rw [HYZ.out, Int.add_zero] at hst
      have HST := Lib.hid hst; clear hst
      go_roundw
      case rel => exact ⟨k + 1, _, v2, _, by omega, by go_num, by omega, by omega, bC2, bO2, hown2, hLm.append (Lm.cons (by omega) Lm.nil), by rw [List.length_append, HOL.out]; rfl, HST.out, hBr.trans hb2⟩
      case measure => simp [intOf]; omega
  · obtain rfl : k = lx := by omega
    have hvv : val out + 65536 ^ k * c = n + m := by
     rw [HVAL.out, take_all (by have := HX.out; omega), take_all (by have := HX.out; have := HY.out; omega), hX.eq, hY.eq]
    have HVV := Lib.hid hvv; clear hvv
    have hcc := bCr.cell
    have hco := bOr.cell
    by_cases hcz : c = 0
    · subst hcz
      have hrep : Rep out (n + m) := rep_add0 hX hY hLm (by rw [HOL.out, HX.out]) (by have := HVV.out; simpa using this)
      have HREP := Lib.hid hrep
      go_wp2
      go_ret
      exact ⟨v, out, rfl, hown, hrep, hBr⟩
    · obtain rfl : c = 1 := by omega
      have hrep : Rep (out ++ [(0 + 1) % 65536]) (n + m) := rep_add1 hLm (by rw [HOL.out]; exact HVV.out)
      go_wp2_with (go_at_call 172; refine (addput w.heap.size (w0.heap.size + 1) w0.heap.size 0 1 v out wr (by omega) (by omega) hc0 hc1 (by rw [HOL.out]; omega) bCr bOr hown hBr.size (by omega) hs0 (by omega)).mono ?_; rintro e w2 ⟨⟨u, rfl⟩, bC2, ⟨v2, bO2, hown2⟩, hb2⟩; have hco2 := bO2.cell)
      go_ret
      exact ⟨v2, _, rfl, hown2, hrep, hBr.trans hb2⟩
theorem borrow_bits (x : Int) (h1 : -65536 ≤ x) (h2 : x ≤ 65535) : bits BinOp.and IntKind.i32 (x / 2147483648) 1 = -(x / 65536) := by
 by_cases h : x < 0
 · rw [show x / 2147483648 = -1 by omega, show x / 65536 = -1 by omega]; decide
 · rw [show x / 2147483648 = 0 by omega, show x / 65536 = 0 by omega]; decide
theorem subput (n₀ Bc Bo : Nat) (n c : Int) (v : Value) (zs : List Int) (w : World) (hn : -65535 ≤ n) (hn' : n ≤ 65535) (hc : 0 ≤ c) (hc' : c ≤ 1) (hlen : zs.length ≤ 70368744177663)
 (bC : Boxed w Bc 21 (.int .i32 c)) (bO : Boxed w Bo 22 v) (hown : Own16 n₀ w v zs) (hn₀ : n₀ ≤ w.heap.size) (hBc : n₀ ≤ Bc) (hBo : n₀ ≤ Bo) (hne : Bc ≠ Bo) :
 Calls Tryz.prog 173 #[.int .i32 n, .pointer (some ⟨Bc, 0, none⟩), .pointer (some ⟨Bo, 0, none⟩)] w fun e w' => (∃ u, e = .returned u) ∧ Boxed w' Bc 21 (.int .i32 (-((n - c) / 65536))) ∧
  (∃ v', Boxed w' Bo 22 v' ∧ Own16 n₀ w' v' (zs ++ [(n - c) % 65536])) ∧ Below n₀ w w' := by
 obtain ⟨i0, hi, hz0, hz1, hz2⟩ := info_parts info48
 have hcc := bC.cell
 have hco := bO.cell
 have hfc := bC.frozen
 have hfo := bO.frozen
 have hrow := hown.out
 have k1 : -65536 ≤ n - c := by omega
 have k2 : n - c ≤ 65535 := by omega
 go_enter Tryz.func173, Tryz.ntmps173
 go_wp2_with (at_builtin; refine wpList_append_own _ rfl _ _ 22 rfl n₀ 48 i0 (.int .u16 0) 1 2 Tryz.underlying22 hi hz0 hz1 hz2 rfl (by decide) _ _ _ rfl (hrow.alloc _) ⟨w.heap.size, 0, none⟩ 1 1 [.int .u16 (IntKind.u16.wrap (n - c))] rfl rfl (cell_one_new _ _ _) (by simp [Value.oneCell']) (by unfold maxLen; omega) (by omega) (by simp; omega) ?_; intro v' w1 hown' hgrow _; obtain ⟨g', cap', rfl⟩ := ownsRow_succ hown'; obtain ⟨hv1, hv2, hr2, hk2, hb2⟩ := bO.appended (by decide) hrow hn₀ hBo hown' hgrow; have hc1 := hv1.cell; have hf1 := hv1.frozen; have bC2 := ((bC.alloc (.cells #[.int .u16 (IntKind.u16.wrap (n - c))] 48)).kept hgrow (bC.not_row (by decide) hrow)).other hne (.slice (some ⟨g', 0, none⟩) (zs.length + 1) cap'); have hc2 := bC2.cell; have hf2 := bC2.frozen)
 go_end0
 refine ⟨⟨_, rfl⟩, ?_, ⟨_, hv2.other (Ne.symm hne) _, ?_⟩, hb2.setCell (p := ⟨Bc, 0, none⟩) hBc _⟩
 · rw [← borrow_bits (n - c) k1 k2]; exact bC2.set _
 · refine Own16.box (t := 21) ?_ bC2 (by decide) _
   unfold Own16
   simp only [List.length_append, List.length_cons, List.length_nil, Nat.zero_add, List.map_append, List.map_cons, List.map_nil]
   rw [← IntKind.wrap_u16]
   exact hr2
theorem Own16.take {B : Nat} {W : World} {g len cap : Nat} {zs : List Int} (h : Own16 B W (.slice (some ⟨g, 0, none⟩) len cap) zs) (k : Nat) (hk : k ≤ zs.length) : Own16 B W (.slice (some ⟨g, 0, none⟩) k cap) (zs.take k) := by
 obtain ⟨hl, h⟩ := h
 rcases h with ⟨e, _⟩ | ⟨g', cap', cur, e, hB, hh, hn, hc, hs, ht⟩
 · cases e
 · cases e
   refine ⟨by simp, .inr ⟨g, cap, cur, by simp [Nat.min_eq_left hk], hB, hh, by simp; omega, hc, hs, ?_⟩⟩
   rw [List.map_take, ← ht, List.take_take]
   simp [Nat.min_eq_left hk]
theorem Own16.form {B : Nat} {W : World} {v : Value} {zs : List Int} (h : Own16 B W v zs) : (v = .slice none 0 0 ∧ zs = []) ∨ ∃ g cap, v = .slice (some ⟨g, 0, none⟩) zs.length cap ∧ B ≤ g ∧ g < W.heap.size ∧ zs.length ≤ cap ∧ ∀ j, j < zs.length → W.cell? ⟨g, 0 + j, none⟩ = some (.int .u16 (zs[j]?.getD 0)) := by
 have hcells := fun g => World.ownsRow.cells (g := g) h
 obtain ⟨hl, h⟩ := h
 rcases h with ⟨e, hn⟩ | ⟨g', cap', cur, e, hB, hh, hn, hc, hs, ht⟩
 · exact .inl ⟨e, List.length_eq_zero_iff.1 hn⟩
 · refine .inr ⟨g', cap', e, hB, (Array.getElem?_eq_some_iff.1 hh).1, hn, fun j hj => ?_⟩
   have := hcells g' (by rw [e]; rfl) j (.int .u16 (zs[j]?.getD 0)) (by simp [hj])
   rw [show (⟨g', 0, none⟩ : Addr).add j = ⟨g', 0 + j, none⟩ by by_cases hj0 : j = 0 <;> simp [Addr.add, hj0]] at this
   exact this
theorem Own16.mono {B B' : Nat} {W : World} {v : Value} {zs : List Int} (h : Own16 B W v zs) (hB : B' ≤ B) : Own16 B' W v zs := by
 obtain ⟨h1, h2⟩ := h
 refine ⟨h1, ?_⟩
 rcases h2 with h2 | ⟨g, cap, cur, hv, hg, r⟩
 · exact .inl h2
 · exact .inr ⟨g, cap, cur, hv, by omega, r⟩
theorem Own16.alloc {B : Nat} {W : World} {v : Value} {zs : List Int} (h : Own16 B W v zs) (o : Obj) : Own16 B (W.alloc o) v zs := World.ownsRow.alloc h o
theorem Own16.shape {B : Nat} {W : World} {v : Value} {zs : List Int} (h : Own16 B W v zs) : ∃ p len c, v = .slice p len c := by
 rcases h.2 with ⟨e, _⟩ | ⟨g, cap, cur, e, _⟩ <;> exact ⟨_, _, _, e⟩
theorem Own16.keptFrom {B : Nat} {W W' : World} {row : Option Nat} {v : Value} {zs : List Int} (h : Own16 B W v zs) (hg : W.grownBy W' row) (hr : ∀ r, row = some r → ∃ o : Obj, W.heap[r]? = some o ∧ o.isCells = false) : Own16 B W' v zs := by
 refine World.ownsRow.kept h hg ?_
 rcases h.2 with ⟨rfl, _⟩ | ⟨g, cap, cur, rfl, _, hgb, _⟩
 · exact .inl rfl
 · refine .inr fun e' => ?_
   obtain ⟨o, ho, hc⟩ := hr g e'.symm
   rw [hgb] at ho; cases ho; cases hc
theorem Own16.lims {B : Nat} {W : World} {v : Value} {zs : List Int} (h : Own16 B W v zs) : Lims W.heap.size W v zs := by
 rcases h.form with h | ⟨g, cap, e, hB, hg, hc, hcell⟩
 · exact .inl h
 · exact .inr ⟨g, 0, cap, e, hc, hg, hcell⟩
theorem trimmed_own (B : Nat) (v : Value) (zs : List Int) (w : World) (hbig : zs.length ≤ 9223372036854775807) (h : Own16 B w v zs) :
 Calls Tryz.prog 137 #[v] w fun e w' => ∃ v', e = .returned v' ∧ Own16 B w v' (trim zs) ∧ w = w' := by
 rcases h.form with ⟨rfl, rfl⟩ | ⟨g, cap, rfl, hB, hg, hc, hcell⟩
 · exact (trimmed_nil w).mono fun e w' ⟨he, hw⟩ => ⟨_, he, h, hw⟩
 · refine (trimmed_some g 0 zs.length cap zs w rfl hc hbig hcell).mono fun e w' ⟨he, hw⟩ => ⟨_, he, ?_, hw⟩
   obtain ⟨k, hk, e⟩ := trim_prefix zs
   rw [e, show (zs.take k).length = k by simp [Nat.min_eq_left hk]]
   exact h.take k hk
theorem sub_any (px py : Option Addr) (lx ly cx cy : Nat) (X Y : List Int) (n m : Int) (w : World) (hX : Rep X n) (hY : Rep Y m) (hnm : m ≤ n) (hlen : lx ≤ 70368744177662)
 (hA : Lims w.heap.size w (.slice px lx cx) X) (hB : Lims w.heap.size w (.slice py ly cy) Y) :
 Calls Tryz.prog 128 #[.slice px lx cx, .slice py ly cy] w fun e w' => ∃ v zs, e = .returned v ∧ Own16 w.heap.size w' v zs ∧ Rep zs (n - m) ∧ Below w.heap.size w w' := by
 obtain ⟨i0, hi, hz0, hz1, hz2⟩ := info_parts info48
 have HX := Lib.hid hA.cells.1
 have HY := Lib.hid hB.cells.1
 have hle : ly ≤ lx := by have h := len_le_of_val hY.lm hY.nz hX.lm (by rw [hX.eq, hY.eq]; exact hnm); rw [HX.out, HY.out]; exact h
 go_enter Tryz.func128, Tryz.ntmps128
 go_wp2_with (at_make; refine wpList_make_own _ rfl _ _ 22 rfl w.heap.size 48 i0 (.int .u16 0) 1 Tryz.underlying22 hi hz0 hz1 _ _ _ lx rfl rfl (by omega) (by rw [hz2]; omega) (by unfold maxLen; omega) (Nat.le_refl _) ?_; intro w0 hown0 hgrow0)
 have hB0 : Below w.heap.size w w0 := (Below.refl _ _).grown hgrow0 (Nat.le_refl _) (fun k h => by cases h)
 have hs0 := hB0.size
 have bO := Boxed.new w0 22 (.slice (some ⟨w.heap.size, 0, none⟩) 0 lx)
 have bC := Boxed.new (w0.alloc (.cells #[.slice (some ⟨w.heap.size, 0, none⟩) 0 lx] 22)) 21 (.int .i32 0)
 rw [World.size_alloc] at bC
 replace bO := bO.alloc (.cells #[.int .i32 0] 21)
 have hB1 := (hB0.alloc hs0 (.cells #[.slice (some ⟨w.heap.size, 0, none⟩) 0 lx] 22)).alloc (by simp; omega) (.cells #[.int .i32 0] 21)
 have hown1 : Own16 w.heap.size ((w0.alloc (.cells #[.slice (some ⟨w.heap.size, 0, none⟩) 0 lx] 22)).alloc (.cells #[.int .i32 0] 21)) (.slice (some ⟨w.heap.size, 0, none⟩) 0 lx) [] := (hown0.alloc _).alloc _
 clear hown0 hgrow0
 generalize hW1 : (w0.alloc (.cells #[.slice (some ⟨w.heap.size, 0, none⟩) 0 lx] 22)).alloc (.cells #[.int .i32 0] 21) = W1 at *
 clear hW1
 go_loopw [17] (fun i wr => ∃ (k : Nat) (c : Int) (v : Value) (out : List Int), k ≤ lx ∧ i = .int .i64 k ∧ 0 ≤ c ∧ c ≤ 1 ∧ Boxed wr (w0.heap.size + 1) 21 (.int .i32 c) ∧ Boxed wr w0.heap.size 22 v ∧ Own16 w.heap.size wr v out ∧ Lm out ∧ out.length = k ∧
  val out + 65536 ^ k * (-c) = val (X.take k) - val (Y.take k) ∧ Below w.heap.size w wr) (fun i _ => lx - (intOf i).toNat)
 case atStart => exact ⟨0, 0, _, [], Nat.zero_le _, rfl, by omega, by omega, bC, bO, hown1, Lm.nil, rfl, by simp [val], hB1⟩
 case round =>
  obtain ⟨k, c, v, out, hk, rfl, hc0, hc1, bCr, bOr, hown, hLm, hol, hval, hBr⟩ := hrel
  have HOL := Lib.hid hol; clear hol
  have HVAL := Lib.hid hval; clear hval
  by_cases hkl : k < lx
  · have hx := hX.lm.getD k
    have hy := hY.lm.getD k
    obtain ⟨hx0, hx1⟩ := hx
    obtain ⟨hy0, hy1⟩ := hy
    obtain ⟨bx, ox, rfl, hbx, hcx, hcX⟩ := hA.cells.2 (by omega)
    have hcxk : wr.cell? ⟨bx, ox + k, none⟩ = some (.int .u16 (X[k]?.getD 0)) := (hBr.cell (p := ⟨bx, ox + k, none⟩) hbx).trans (hcX k hkl)
    have hstep := sub_step (X := X) (Y := Y) HOL.out HVAL.out
    have HSTEP := Lib.hid hstep; clear hstep
    by_cases hky : k < ly
    · obtain ⟨by', oy, rfl, hby, hcy, hcY⟩ := hB.cells.2 (by omega)
      have hcyk : wr.cell? ⟨by', oy + k, none⟩ = some (.int .u16 (Y[k]?.getD 0)) := (hBr.cell (p := ⟨by', oy + k, none⟩) hby).trans (hcY k hky)
      clear hcX hcY
      go_wp2_with (go_at_call 173; refine (subput w.heap.size (w0.heap.size + 1) w0.heap.size _ c v out wr (by omega) (by omega) hc0 hc1 (by rw [HOL.out]; omega) bCr bOr hown hBr.size (by omega) hs0 (by omega)).mono ?_; rintro e w2 ⟨⟨u, rfl⟩, bC2, ⟨v2, bO2, hown2⟩, hb2⟩)
      go_roundw
      case rel => exact ⟨k + 1, _, v2, _, by omega, by go_num, by omega, by omega, bC2, bO2, hown2, hLm.append (Lm.cons (by omega) Lm.nil), by rw [List.length_append, HOL.out]; rfl, HSTEP.out, hBr.trans hb2⟩
      case measure => simp [intOf]; omega
    · have hyz : Y[k]?.getD 0 = 0 := getD_out (by have := HY.out; omega)
      have HYZ := Lib.hid hyz; clear hyz
      clear hcX
      go_wp2_with (go_at_call 173; refine (subput w.heap.size (w0.heap.size + 1) w0.heap.size _ c v out wr (by omega) (by omega) hc0 hc1 (by rw [HOL.out]; omega) bCr bOr hown hBr.size (by omega) hs0 (by omega)).mono ?_; rintro e w2 ⟨⟨u, rfl⟩, bC2, ⟨v2, bO2, hown2⟩, hb2⟩)
      have hst := HSTEP.out
      rw [HYZ.out, Int.sub_zero] at hst
      have HST := Lib.hid hst; clear hst
      go_roundw
      case rel => exact ⟨k + 1, _, v2, _, by omega, by go_num, by omega, by omega, bC2, bO2, hown2, hLm.append (Lm.cons (by omega) Lm.nil), by rw [List.length_append, HOL.out]; rfl, HST.out, hBr.trans hb2⟩
      case measure => simp [intOf]; omega
  · obtain rfl : k = lx := by omega
    have hvv : val out = n - m := by
     have h := HVAL.out
     rw [take_all (by have := HX.out; omega), take_all (by have := HX.out; have := HY.out; omega), hX.eq, hY.eq] at h
     have h1 := val_lt hLm
     rw [HOL.out] at h1
     obtain rfl | rfl : c = 0 ∨ c = 1 := by omega
     · simpa using h
     · omega
    have hrep := trim_rep hLm
    rw [hvv] at hrep
    have HREP := Lib.hid hrep; clear hrep hvv
    have hcc := bCr.cell
    have hco := bOr.cell
    go_wp2_with (go_at_call 137; refine (trimmed_own w.heap.size v out wr (by rw [HOL.out]; omega) hown).mono ?_; rintro e w2 ⟨v2, rfl, hown2, rfl⟩)
    go_ret
    exact ⟨v2, _, rfl, hown2, HREP.out, hBr⟩
theorem add_any (va vb : Value) (X Y : List Int) (n m : Int) (w : World) (hX : Rep X n) (hY : Rep Y m) (hlx : X.length ≤ 70368744177662) (hly : Y.length ≤ 70368744177662)
 (hA : Lims w.heap.size w va X) (hB : Lims w.heap.size w vb Y) :
 Calls Tryz.prog 127 #[va, vb] w fun e w' => ∃ v zs, e = .returned v ∧ Own16 w.heap.size w' v zs ∧ Rep zs (n + m) ∧ Below w.heap.size w w' := by
 obtain ⟨pa, la, ca, rfl⟩ := hA.form
 obtain ⟨pb, lb, cb, rfl⟩ := hB.form
 have h1 := hA.cells.1
 have h2 := hB.cells.1
 by_cases h : la < lb
 · rw [Int.add_comm n m]
   exact add_lt pb pa lb la cb ca Y X m n w hY hX (by omega) h hB hA
 · exact add_ge pa pb la lb ca cb X Y n m w hX hY (by omega) h hA hB
theorem sub_all (va vb : Value) (X Y : List Int) (n m : Int) (w : World) (hX : Rep X n) (hY : Rep Y m) (hnm : m ≤ n) (hlx : X.length ≤ 70368744177662)
 (hA : Lims w.heap.size w va X) (hB : Lims w.heap.size w vb Y) :
 Calls Tryz.prog 128 #[va, vb] w fun e w' => ∃ v zs, e = .returned v ∧ Own16 w.heap.size w' v zs ∧ Rep zs (n - m) ∧ Below w.heap.size w w' := by
 obtain ⟨pa, la, ca, rfl⟩ := hA.form
 obtain ⟨pb, lb, cb, rfl⟩ := hB.form
 have h1 := hA.cells.1
 exact sub_any pa pb la lb ca cb X Y n m w hX hY hnm (by omega) hA hB
theorem Own16.set {B : Nat} {W : World} {g len cap : Nat} {zs : List Int} (h : Own16 B W (.slice (some ⟨g, 0, none⟩) len cap) zs) (i : Nat) (_ : i < zs.length) (x : Int) :
 Own16 B (W.setCell ⟨g, i, none⟩ (.int .u16 x)) (.slice (some ⟨g, 0, none⟩) len cap) (zs.set i x) := by
 obtain ⟨hl, h⟩ := h
 rcases h with ⟨e, _⟩ | ⟨g', cap', cur, e, hB, hh, hn, hc, hs, ht⟩
 · cases e
 · cases e
   refine ⟨by simp, .inr ⟨g, cap, cur.setIfInBounds i (.int .u16 x), by simp, hB, ?_, by simpa using hn, hc, by simpa using hs, ?_⟩⟩
   · have hg := (Array.getElem?_eq_some_iff.1 hh).1
     simp only [World.setCell, Array.getElem?_modify, if_true, hh, Option.map_some]
     simp
   · simp only [List.length_set, Array.toList_setIfInBounds]
     rw [List.take_set, ht, List.map_set]
theorem Own16.at {B : Nat} {W : World} {g len cap : Nat} {zs : List Int} (h : Own16 B W (.slice (some ⟨g, 0, none⟩) len cap) zs) (i : Nat) (hi : i < zs.length) :
 W.cell? ⟨g, i, none⟩ = some (.int .u16 (zs[i]?.getD 0)) ∧ W.frozen? ⟨g, i, none⟩ = false := by
 constructor
 · rcases h.form with ⟨e, _⟩ | ⟨g', cap', e, hB, hg, hc, hcell⟩
   · cases e
   · cases e; have := hcell i hi; rwa [Nat.zero_add] at this
 · obtain ⟨hl, h⟩ := h
   rcases h with ⟨e, _⟩ | ⟨g', cap', cur, e, hB, hh, hn, hc, hs, ht⟩
   · cases e
   · cases e; simp [World.frozen?, hh]
theorem Own16.len {B : Nat} {W : World} {g len cap : Nat} {zs : List Int} (h : Own16 B W (.slice (some ⟨g, 0, none⟩) len cap) zs) : len = zs.length ∧ B ≤ g := by
 obtain ⟨hl, h⟩ := h
 rcases h with ⟨e, _⟩ | ⟨g', cap', cur, e, hB, hh, hn, hc, hs, ht⟩
 · cases e
 · cases e; exact ⟨rfl, hB⟩
theorem Own16.lt {B : Nat} {W : World} {g len cap : Nat} {zs : List Int} (h : Own16 B W (.slice (some ⟨g, 0, none⟩) len cap) zs) : g < W.heap.size := by
 obtain ⟨hl, h⟩ := h
 rcases h with ⟨e, _⟩ | ⟨g', cap', cur, e, hB, hh, hn, hc, hs, ht⟩
 · cases e
 · cases e; exact (Array.getElem?_eq_some_iff.1 hh).1
theorem Own16.below {B : Nat} {W W' : World} {v : Value} {zs : List Int} (h : Own16 B W v zs) (hb : Below W.heap.size W W') : Own16 B W' v zs := by
 obtain ⟨hl, h⟩ := h
 refine ⟨hl, ?_⟩
 rcases h with h | ⟨g', cap', cur, e, hB, hh, r⟩
 · exact .inl h
 · exact .inr ⟨g', cap', cur, e, hB, (hb.block g' (Array.getElem?_eq_some_iff.1 hh).1).trans hh, r⟩
theorem made16 (n : Nat) : (madeCells (Value.int .u16 0).cells (n * 1)).toList = (List.replicate n 0).map (Value.int .u16) := by
 simp [madeCells, Value.cells, Nat.mod_one]
 exact List.eq_replicate_iff.2 ⟨by simp, fun b hb => by simp at hb; exact hb.2.symm⟩
theorem mul_some (px py : Option Addr) (lx ly cx cy : Nat) (X Y : List Int) (n m : Int) (w : World) (hX : Rep X n) (hY : Rep Y m) (hlx : lx ≤ 35184372088831) (hly : ly ≤ 35184372088831)
 (hA : Lims w.heap.size w (.slice px lx cx) X) (hB : Lims w.heap.size w (.slice py ly cy) Y) :
 Calls Tryz.prog 97 #[.slice px lx cx, .slice py ly cy] w fun e w' => ∃ v zs, e = .returned v ∧ Own16 w.heap.size w' v zs ∧ Rep zs (n * m) ∧ Below w.heap.size w w' := by
 obtain ⟨i0, hi, hz0, hz1, hz2⟩ := info_parts info48
 have HX := Lib.hid hA.cells.1
 have HY := Lib.hid hB.cells.1
 go_enter Tryz.func97, Tryz.ntmps97
 go_wp2_with (at_make; refine wpList_make_full _ rfl _ _ 22 rfl w.heap.size 48 i0 (.int .u16 0) 1 Tryz.underlying22 hi hz0 hz1 _ _ _ _ (lx + ly) rfl rfl (by omega) (by omega) (by rw [hz2]; omega) (by unfold maxLen; omega) (Nat.le_refl _) ?_; intro w0 hown0 hgrow0)
 have hB0 : Below w.heap.size w w0 := (Below.refl _ _).grown hgrow0 (Nat.le_refl _) (fun k h => by cases h)
 rw [made16] at hown0
 have hown1 : Own16 w.heap.size w0 (.slice (some ⟨w.heap.size, 0, none⟩) (lx + ly) (lx + ly)) (List.replicate (lx + ly) 0) := by unfold Own16; rw [List.length_replicate]; exact hown0
 clear hown0 hgrow0
 go_loopw [20] (fun i wr => ∃ (i0 : Nat) (out : List Int), i0 ≤ lx ∧ i = .int .i64 i0 ∧ Own16 w.heap.size wr (.slice (some ⟨w.heap.size, 0, none⟩) (lx + ly) (lx + ly)) out ∧ Lm out ∧ out.length = lx + ly ∧ (∀ j, i0 + ly ≤ j → out[j]?.getD 0 = 0) ∧
  val out = val (X.take i0) * val Y ∧ Below w.heap.size w wr) (fun i _ => lx - (intOf i).toNat)
 case atStart => exact ⟨0, _, Nat.zero_le _, rfl, hown1, Lm.replicate _, by simp, fun j _ => getD_replicate _ _, by rw [val_replicate]; simp [val], hB0⟩
 case round =>
  obtain ⟨i, out, hk, rfl, hown, hLm, hol, hzero, hval, hBr⟩ := hrel
  have HOL := Lib.hid hol; clear hol
  have HVAL := Lib.hid hval; clear hval
  have HZ := Lib.hid hzero; clear hzero
  by_cases hkl : i < lx
  · have hx := hX.lm.getD i
    obtain ⟨hx0, hx1⟩ := hx
    obtain ⟨bx, ox, rfl, hbx, hcx, hcX⟩ := hA.cells.2 (by omega)
    have hcxk : wr.cell? ⟨bx, ox + i, none⟩ = some (.int .u16 (X[i]?.getD 0)) := (hBr.cell (p := ⟨bx, ox + i, none⟩) hbx).trans (hcX i hkl)
    clear hcX
    go_wp2
    obtain ⟨wo, hwo⟩ : ∃ wo : World, wo = wr := ⟨_, rfl⟩
    go_loopw [8, 27] (fun cv kv wr => ∃ (k : Nat) (c : Int) (out' : List Int), k ≤ ly ∧ kv = .int .i64 k ∧ cv = .int .u32 c ∧ 0 ≤ c ∧ c ≤ 65535 ∧ Own16 w.heap.size wr (.slice (some ⟨w.heap.size, 0, none⟩) (lx + ly) (lx + ly)) out' ∧ Lm out' ∧ out'.length = lx + ly ∧
     (∀ j, i + ly ≤ j → out'[j]?.getD 0 = 0) ∧ val out' + 65536 ^ (i + k) * c = val (X.take i) * val Y + 65536 ^ i * (X[i]?.getD 0 * val (Y.take k)) ∧ Below w.heap.size w wr) (fun _ kv _ => ly - (intOf kv).toNat)
    case atStart => exact ⟨0, 0, out, Nat.zero_le _, rfl, rfl, by omega, by omega, hown, hLm, HOL.out, HZ.out, by rw [HVAL.out]; simp [val], hBr⟩
    case round =>
     clear hwo hown hLm HOL HZ HVAL hBr hcxk
     obtain ⟨k, c, out', hk', rfl, rfl, hc0, hc1, hown, hLm, hol, hzero, hval, hBr⟩ := hrel
     have HOL := Lib.hid hol; clear hol
     have HVAL := Lib.hid hval; clear hval
     have HZ := Lib.hid hzero; clear hzero
     by_cases hky : k < ly
     · obtain ⟨by', oy, rfl, hby, hcy, hcY⟩ := hB.cells.2 (by omega)
       have hcyk : wr.cell? ⟨by', oy + k, none⟩ = some (.int .u16 (Y[k]?.getD 0)) := (hBr.cell (p := ⟨by', oy + k, none⟩) hby).trans (hcY k hky)
       clear hcY
       obtain ⟨hy0, hy1⟩ := hY.lm.getD k
       obtain ⟨ho0, ho1⟩ := hLm.getD (i + k)
       obtain ⟨hm0, hm1⟩ := mul_bd hx0 (show X[i]?.getD 0 ≤ 65535 by omega) hy0 (show Y[k]?.getD 0 ≤ 65535 by omega)
       obtain ⟨hat, hfz⟩ := hown.at (i + k) (by rw [HOL.out]; omega)
       have hst := mul_step (Y := Y) (show i + k < out'.length by rw [HOL.out]; omega) HVAL.out
       have HST := Lib.hid hst; clear hst
       go_wp2
       go_roundw
       case rel =>
        refine ⟨k + 1, _, _, by omega, by go_num, rfl, by omega, by omega, by rw [IntKind.wrap_u16]; exact hown.set (i + k) (by rw [HOL.out]; omega) _, hLm.set _ (by omega), by rw [List.length_set]; exact HOL.out, fun j hj => ?_, HST.out, hBr.setCell (p := ⟨w.heap.size, i + k, none⟩) (Nat.le_refl _) _⟩
        rw [getD_set, if_neg (by omega)]; exact HZ.out j hj
       case measure => simp [intOf]; omega
     · obtain rfl : k = ly := by omega
       obtain ⟨hat, hfz⟩ := hown.at (i + k) (by rw [HOL.out]; omega)
       rw [HZ.out _ (Nat.le_refl _)] at hat
       have hst := mul_last (show i + k < out'.length by rw [HOL.out]; omega) (show Y.length ≤ k by have := HY.out; omega) (HZ.out _ (Nat.le_refl _)) HVAL.out
       have HST := Lib.hid hst; clear hst
       have hwr : IntKind.u16.wrap c = c := by rw [IntKind.wrap_u16]; omega
       have HWR := Lib.hid hwr; clear hwr
       go_wp2
       go_roundw
       case rel =>
        refine ⟨i + 1, _, by omega, by go_num, hown.set (i + k) (by rw [HOL.out]; omega) c, hLm.set _ (by omega), by rw [List.length_set]; exact HOL.out, fun j hj => ?_, HST.out, hBr.setCell (p := ⟨w.heap.size, i + k, none⟩) (Nat.le_refl _) _⟩
        rw [getD_set, if_neg (by omega)]; exact HZ.out j (by omega)
       case measure => simp [intOf]; omega
  · obtain rfl : i = lx := by omega
    have hrep := trim_rep hLm
    rw [HVAL.out, take_all (by have := HX.out; omega), hX.eq, hY.eq] at hrep
    have HREP := Lib.hid hrep; clear hrep
    go_wp2_with (go_at_call 137; refine (trimmed_own w.heap.size _ out wr (by rw [HOL.out]; omega) hown).mono ?_; rintro e w2 ⟨v2, rfl, hown2, rfl⟩)
    go_ret
    exact ⟨v2, _, rfl, hown2, HREP.out, hBr⟩
end Go.Proofs.YtihdbjilolmfiaaGreatDoor
