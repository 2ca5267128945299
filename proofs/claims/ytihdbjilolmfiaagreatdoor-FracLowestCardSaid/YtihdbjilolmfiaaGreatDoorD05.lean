import Derived.Test.YtihdbjilolmfiaaGreatDoorD03
import Derived.Test.YtihdbjilolmfiaaGreatDoorD04
import Derived.Test.YtihdbjilolmfiaaGreatDoorD02
import Derived.Test.YtihdbjilolmfiaaGreatDoorD01
import Derived.Deep.QuietTactic
import Derived.BigQuiet
set_option maxRecDepth 100000
set_option maxHeartbeats 4000000
namespace Go.Proofs.YtihdbjilolmfiaaGreatDoor
open Go.RowKit Go.WM Go.WR
attribute [local go_sem] Oper.semAt_some
theorem short_some (pa : Option Addr) (ca len : Nat) (d : Int) (X : List Int) (w : World) (hbig : len ≤ 70368744177662) (hd0 : 1 ≤ d) (hd1 : d ≤ 65536)
 (hLx : Lm X) (hA : Lims w.heap.size w (.slice pa len ca) X) :
 Calls Tryz.prog 103 #[.slice pa len ca, .int .u32 d] w fun e w' => ∃ v zs, e = .returned (.tuple #[v, .int .u32 (val X % d)]) ∧ Own16 w.heap.size w' v zs ∧ Rep zs (val X / d) ∧ Below w.heap.size w w' := by
 obtain ⟨i0, hi, hz0, hz1, hz2⟩ := info_parts info48
 have HA := Lib.hid hA.cells.1
 refine (callsIn_wide (n := 9)).1 ?_
 refine callsIn_of_wp_marks Tryz.func103 rfl trivial ?_ rfl
 simp only [Tryz.ntmps103, List.size_toArray, List.length_cons, List.length_nil, Nat.reduceAdd, Nat.reduceSub, Array.replicate_succ, Array.replicate_zero, List.push_toArray, List.append_toArray, List.nil_append, List.cons_append]
 obtain ⟨w1, hrun, hown0, hgrow0⟩ := run_make_full (P := Tryz.prog) (w.alloc (.cells #[.int .u32 d] 101)) w.heap.size 22 48 i0 (.int .u16 0) 1 Tryz.underlying22 hi hz0 hz1 .i64 .i64 len (by rw [hz2]; omega) (by unfold maxLen; omega) (by simp)
 gi_wp2_with (refine ⟨trivial, ?_⟩; gi_at_call 145; refine ((callsIn_wide (n := 8)).2 (down_any _ _ _ _)).mono ?_; rintro e w' ⟨rfl, rfl⟩)
 rw [made16] at hown0
 rw [World.size_alloc] at hown0
 have hB1 : Below w.heap.size w w1 := ((Below.refl _ w).alloc (Nat.le_refl _) _).grown hgrow0 (by simp) (fun k h => by cases h)
 have bD : Boxed w1 w.heap.size 101 (.int .u32 d) := (Boxed.new w 101 (.int .u32 d)).kept hgrow0 (by simp)
 have hs1 : w.heap.size + 1 ≤ w1.heap.size := by have := hgrow0.size; simpa using this
 have hown1 : Own16 w.heap.size w1 (.slice (some ⟨w.heap.size + 1, 0, none⟩) len len) (List.replicate len 0) := by unfold Own16; rw [List.length_replicate]; exact hown0
 have hs2 := hown1.lt
 clear hrun hown0 hgrow0
 have bO := Boxed.new w1 22 (.slice (some ⟨w.heap.size + 1, 0, none⟩) len len)
 have bR := Boxed.new (w1.alloc (.cells #[.slice (some ⟨w.heap.size + 1, 0, none⟩) len len] 22)) 101 (.int .u32 0)
 have bA := Boxed.new ((w1.alloc (.cells #[.slice (some ⟨w.heap.size + 1, 0, none⟩) len len] 22)).alloc (.cells #[.int .u32 0] 101)) 22 (.slice pa len ca)
 rw [World.size_alloc] at bR
 rw [World.size_alloc, World.size_alloc] at bA
 replace bO := (bO.alloc (.cells #[.int .u32 0] 101)).alloc (.cells #[.slice pa len ca] 22)
 replace bR := bR.alloc (.cells #[.slice pa len ca] 22)
 replace bD := ((bD.alloc (.cells #[.slice (some ⟨w.heap.size + 1, 0, none⟩) len len] 22)).alloc (.cells #[.int .u32 0] 101)).alloc (.cells #[.slice pa len ca] 22)
 have hown2 : Own16 w.heap.size (((w1.alloc (.cells #[.slice (some ⟨w.heap.size + 1, 0, none⟩) len len] 22)).alloc (.cells #[.int .u32 0] 101)).alloc (.cells #[.slice pa len ca] 22)) (.slice (some ⟨w.heap.size + 1, 0, none⟩) len len) (List.replicate len 0) := ((hown1.out.alloc _).alloc _).alloc _
 have hW : Below w.heap.size w (((w1.alloc (.cells #[.slice (some ⟨w.heap.size + 1, 0, none⟩) len len] 22)).alloc (.cells #[.int .u32 0] 101)).alloc (.cells #[.slice pa len ca] 22)) :=
  ((hB1.alloc (by omega) _).alloc (by simp; omega) _).alloc (by simp; omega) _
 have hz : (((w1.alloc (.cells #[.slice (some ⟨w.heap.size + 1, 0, none⟩) len len] 22)).alloc (.cells #[.int .u32 0] 101)).alloc (.cells #[.slice pa len ca] 22)).heap.size = w1.heap.size + 3 := by simp
 clear hown1 hB1
 generalize ((w1.alloc (.cells #[.slice (some ⟨w.heap.size + 1, 0, none⟩) len len] 22)).alloc (.cells #[.int .u32 0] 101)).alloc (.cells #[.slice pa len ca] 22) = W0 at *
 refine' wpIn_range (n := 9) (gf := 176) (lb := #[.pointer (some ⟨w1.heap.size + 1 + 1, 0, none⟩)]) (N := X.length) rfl (by omega) rfl trivial (enters_of Tryz.func176 (by kernel_rfl) rfl)
  (down_seq Fence.wide 8 trivial rfl (by omega) _ w.heap.size _ X (by rw [← HA.out]; omega) W0 (by omega) bA (hA.below hW)) keep1_t (keep1_b (by omega)) (fun _ => rfl)
  (fun k W => ∃ (r : Int) (out : List Int), 0 ≤ r ∧ r < d ∧ Lm out ∧ out.length = len ∧ val (X.drop (len - k)) = val (out.drop (len - k)) * d + r ∧ Boxed W w.heap.size 101 (.int .u32 d) ∧ Boxed W w1.heap.size 22 (.slice (some ⟨w.heap.size + 1, 0, none⟩) len len) ∧ Boxed W (w1.heap.size + 1) 101 (.int .u32 r) ∧
   Own16 w.heap.size W (.slice (some ⟨w.heap.size + 1, 0, none⟩) len len) out ∧ Below w.heap.size w W)
  (fun c _ W => False)
  ?hI ?hIx ?h0 _ ?assign ?body ?done ?stop
 case hI =>
  rintro k W W' row ⟨r, out, h1, h2, h3, h4, h5, bD, bO, bR, hown, hB⟩ hg hr
  have hk : ∀ {B t : Nat} {v : Value}, Boxed W B t v → Boxed W' B t v := fun hb => hb.kept hg (fun e => by obtain ⟨_, o, ho, hc⟩ := hr _ e.symm; rw [show W.heap[_]? = _ from hb] at ho; cases ho; cases hc)
  exact ⟨r, out, h1, h2, h3, h4, h5, hk bD, hk bO, hk bR, hown.keptFrom hg (fun r e => (hr r e).2), hB.grown hg (by have := hB.size; omega) (fun k e => by have := (hr k e).1; omega)⟩
 case hIx => exact fun c => ownFrom_pure _ _
 case h0 => exact ⟨0, _, by omega, by omega, Lm.replicate _, by simp, by have := HA.out; rw [List.drop_eq_nil_of_le (by omega), List.drop_eq_nil_of_le (by simp)]; simp [val], bD, bO, bR, hown2, hW⟩
 case assign =>
  intro l x W K hK
  simp only [downs]
  gi_wp2
  exact hK
 case body =>
  rintro l k W ⟨r, out, hr0, hr1, hLm, hol, hval, bD, bO, bR, hown, hBW⟩ hk
  have hlen := HA.out
  obtain ⟨m, hm⟩ : ∃ m : Nat, m = X.length - 1 - k := ⟨_, rfl⟩
  have hml : m < len := by omega
  have hcD := bD.cell
  have hcO := bO.cell
  have hcR := bR.cell
  have hfR := bR.frozen
  obtain ⟨hat, hfz⟩ := hown.at m (by omega)
  obtain ⟨hx0, hx1⟩ := hLx.getD m
  obtain ⟨hq0, hq1, he0, he1⟩ := short_bd hd0 hr0 hr1 hx0 hx1
  have hst := short_step (X := X) (out := out) (m := m) (d := d) (r := r) (by omega) (by omega) (by rw [show m + 1 = len - k by omega]; exact hval)
  have hor := WB.or_16 (k := .u32) (r := r) (x := X[m]?.getD 0) rfl hr0 hx0 hx1 (show _ < (4294967296 : Int) by omega)
  rw [← hm]
  have d3 : len - (k + 1) = m := by omega
  have HST := Lib.hid hst
  have HM := Lib.hid hm
  have HLA := Lib.hid hlen
  have HOL := Lib.hid hol
  have HD3 := Lib.hid d3
  clear hst hm hlen hol hval d3
  gi_wp2
  -- REG7
  obtain ⟨I, HI⟩ : ∃ I : (Nat → Bool) → Act → World → Prop, Hid (I = (fun dn a' W2 => ∃ u23 u24 u25 u26 u27 u28 u29 u30 u31 u32 u33 u34 u35 : Value, a' = { tmps := #[.slice pa len ca, .int .u32 d, undef, .pointer (some ⟨w.heap.size, 0, none⟩), .slice none 0 0, .int .u32 0, .pointer (some ⟨w1.heap.size, 0, none⟩), .pointer (some ⟨w1.heap.size + 1, 0, none⟩), .int .i64 (m : Int), .int .u16 (X[m]?.getD 0), .int .u32 (r * 65536 + X[m]?.getD 0), .slice pa len ca, .int .i64 (len : Int), .slice (some ⟨w.heap.size + 1, 0, none⟩) len len, .slice pa len ca, .func (Fn.func 176) #[] #[.pointer (some ⟨w1.heap.size + 1 + 1, 0, none⟩)], .int .i64 (m : Int), .int .u16 (X[m]?.getD 0), .int .u32 r, .int .u32 (r * 65536), .int .u16 (X[m]?.getD 0), .int .u32 (X[m]?.getD 0), .int .u32 (r * 65536 + X[m]?.getD 0), u23, u24, u25, u26, u27, u28, u29, u30, u31, u32, u33, u34, u35], defers := [] } ∧ (dn 0 = true → u23 = .slice (some ⟨w.heap.size + 1, 0, none⟩) len len) ∧ (dn 1 = true → u24 = .int .i64 (m : Int)) ∧ (dn 2 = true → u25 = .int .u32 (r * 65536 + X[m]?.getD 0)) ∧ (dn 3 = true → u26 = .int .u32 d) ∧ (dn 4 = true → u27 = .int .u32 ((r * 65536 + X[m]?.getD 0) / d)) ∧ (dn 5 = true → u28 = .int .u16 ((r * 65536 + X[m]?.getD 0) / d)) ∧ (dn 6 = true → u29 = .int .u32 (r * 65536 + X[m]?.getD 0)) ∧ (dn 7 = true → u30 = .int .u32 d) ∧ (dn 8 = true → u31 = .int .u32 ((r * 65536 + X[m]?.getD 0) % d)) ∧ (dn 9 = true → u32 = .pointer (some ⟨w.heap.size + 1, m, none⟩)) ∧ Boxed W2 w.heap.size 101 (.int .u32 d) ∧ Boxed W2 w1.heap.size 22 (.slice (some ⟨w.heap.size + 1, 0, none⟩) len len) ∧ (∃ r', Boxed W2 (w1.heap.size + 1) 101 (.int .u32 r') ∧ (dn 11 = true → r' = (r * 65536 + X[m]?.getD 0) % d)) ∧ (∃ out', Own16 w.heap.size W2 (.slice (some ⟨w.heap.size + 1, 0, none⟩) len len) out' ∧ (dn 10 = true → out' = out.set m ((r * 65536 + X[m]?.getD 0) / d)) ∧ (dn 10 = false → out' = out)) ∧ Below w.heap.size w W2 ∧ KeepsFrom W0.heap.size W W2 ∧ Keep1 w.heap.size (w1.heap.size + 1 + 1) 22 W W2)) := ⟨_, rfl⟩
  refine wpIn_region_conf I (by kernel_rfl) (by kernel_rfl) ?h0 ?hstep ?hend
  case h0 =>
   rw [HI.out]
   exact ⟨undef, undef, undef, undef, undef, undef, undef, undef, undef, undef, undef, undef, undef, rfl, (fun h => by cases h), (fun h => by cases h), (fun h => by cases h), (fun h => by cases h), (fun h => by cases h), (fun h => by cases h), (fun h => by cases h), (fun h => by cases h), (fun h => by cases h), (fun h => by cases h), bD, bO, ⟨r, bR, (fun h => by cases h)⟩, ⟨out, hown, (fun h => by cases h), fun _ => rfl⟩, hBW.drew, (KeepsOthers.drew _).from _, ⟨(Below.refl _ _).drew, fun _ h => h⟩⟩
  case hstep =>
   intro dn a' W2 hI i o ho hd hdep
   match i, ho with
   | 0, ho =>
    rw [HI.out] at hI
    obtain ⟨u23, u24, u25, u26, u27, u28, u29, u30, u31, u32, u33, u34, u35, rfl, f0, f1, f2, f3, f4, f5, f6, f7, f8, f9, gD, gO, ⟨r', gR, gr⟩, ⟨out', gW, go1, go0⟩, gB, gF, gK⟩ := hI
    refine opIn_of_list ho ?_
    cases ho
    clear hdep
    have hc := gO.cell
    gi_wp2
    rw [HI.out]
    exact ⟨_, _, _, _, _, _, _, _, _, _, _, _, _, rfl, fun _ => rfl, fun h => f1 (by rwa [upd_other (by decide)] at h), fun h => f2 (by rwa [upd_other (by decide)] at h), fun h => f3 (by rwa [upd_other (by decide)] at h), fun h => f4 (by rwa [upd_other (by decide)] at h), fun h => f5 (by rwa [upd_other (by decide)] at h), fun h => f6 (by rwa [upd_other (by decide)] at h), fun h => f7 (by rwa [upd_other (by decide)] at h), fun h => f8 (by rwa [upd_other (by decide)] at h), fun h => f9 (by rwa [upd_other (by decide)] at h), gD, gO, ⟨r', gR, fun h => gr (by rwa [upd_other (by decide)] at h)⟩, ⟨out', gW, fun h => go1 (by rwa [upd_other (by decide)] at h), fun h => go0 (by rwa [upd_other (by decide)] at h)⟩, gB, gF, gK⟩
   | 1, ho =>
    rw [HI.out] at hI
    obtain ⟨u23, u24, u25, u26, u27, u28, u29, u30, u31, u32, u33, u34, u35, rfl, f0, f1, f2, f3, f4, f5, f6, f7, f8, f9, gD, gO, ⟨r', gR, gr⟩, ⟨out', gW, go1, go0⟩, gB, gF, gK⟩ := hI
    refine opIn_of_list ho ?_
    cases ho
    clear hdep
    gi_wp2
    rw [HI.out]
    exact ⟨_, _, _, _, _, _, _, _, _, _, _, _, _, rfl, fun h => f0 (by rwa [upd_other (by decide)] at h), fun _ => rfl, fun h => f2 (by rwa [upd_other (by decide)] at h), fun h => f3 (by rwa [upd_other (by decide)] at h), fun h => f4 (by rwa [upd_other (by decide)] at h), fun h => f5 (by rwa [upd_other (by decide)] at h), fun h => f6 (by rwa [upd_other (by decide)] at h), fun h => f7 (by rwa [upd_other (by decide)] at h), fun h => f8 (by rwa [upd_other (by decide)] at h), fun h => f9 (by rwa [upd_other (by decide)] at h), gD, gO, ⟨r', gR, fun h => gr (by rwa [upd_other (by decide)] at h)⟩, ⟨out', gW, fun h => go1 (by rwa [upd_other (by decide)] at h), fun h => go0 (by rwa [upd_other (by decide)] at h)⟩, gB, gF, gK⟩
   | 2, ho =>
    rw [HI.out] at hI
    obtain ⟨u23, u24, u25, u26, u27, u28, u29, u30, u31, u32, u33, u34, u35, rfl, f0, f1, f2, f3, f4, f5, f6, f7, f8, f9, gD, gO, ⟨r', gR, gr⟩, ⟨out', gW, go1, go0⟩, gB, gF, gK⟩ := hI
    refine opIn_of_list ho ?_
    cases ho
    clear hdep
    gi_wp2
    rw [HI.out]
    exact ⟨_, _, _, _, _, _, _, _, _, _, _, _, _, rfl, fun h => f0 (by rwa [upd_other (by decide)] at h), fun h => f1 (by rwa [upd_other (by decide)] at h), fun _ => rfl, fun h => f3 (by rwa [upd_other (by decide)] at h), fun h => f4 (by rwa [upd_other (by decide)] at h), fun h => f5 (by rwa [upd_other (by decide)] at h), fun h => f6 (by rwa [upd_other (by decide)] at h), fun h => f7 (by rwa [upd_other (by decide)] at h), fun h => f8 (by rwa [upd_other (by decide)] at h), fun h => f9 (by rwa [upd_other (by decide)] at h), gD, gO, ⟨r', gR, fun h => gr (by rwa [upd_other (by decide)] at h)⟩, ⟨out', gW, fun h => go1 (by rwa [upd_other (by decide)] at h), fun h => go0 (by rwa [upd_other (by decide)] at h)⟩, gB, gF, gK⟩
   | 3, ho =>
    rw [HI.out] at hI
    obtain ⟨u23, u24, u25, u26, u27, u28, u29, u30, u31, u32, u33, u34, u35, rfl, f0, f1, f2, f3, f4, f5, f6, f7, f8, f9, gD, gO, ⟨r', gR, gr⟩, ⟨out', gW, go1, go0⟩, gB, gF, gK⟩ := hI
    refine opIn_of_list ho ?_
    cases ho
    clear hdep
    have hc := gD.cell
    gi_wp2
    rw [HI.out]
    exact ⟨_, _, _, _, _, _, _, _, _, _, _, _, _, rfl, fun h => f0 (by rwa [upd_other (by decide)] at h), fun h => f1 (by rwa [upd_other (by decide)] at h), fun h => f2 (by rwa [upd_other (by decide)] at h), fun _ => rfl, fun h => f4 (by rwa [upd_other (by decide)] at h), fun h => f5 (by rwa [upd_other (by decide)] at h), fun h => f6 (by rwa [upd_other (by decide)] at h), fun h => f7 (by rwa [upd_other (by decide)] at h), fun h => f8 (by rwa [upd_other (by decide)] at h), fun h => f9 (by rwa [upd_other (by decide)] at h), gD, gO, ⟨r', gR, fun h => gr (by rwa [upd_other (by decide)] at h)⟩, ⟨out', gW, fun h => go1 (by rwa [upd_other (by decide)] at h), fun h => go0 (by rwa [upd_other (by decide)] at h)⟩, gB, gF, gK⟩
   | 4, ho =>
    have e2 : dn 2 = true := hdep ⟨2, .data⟩ (by cases ho; simp) rfl
    have e3 : dn 3 = true := hdep ⟨3, .data⟩ (by cases ho; simp) rfl
    rw [HI.out] at hI
    obtain ⟨u23, u24, u25, u26, u27, u28, u29, u30, u31, u32, u33, u34, u35, rfl, f0, f1, f2, f3, f4, f5, f6, f7, f8, f9, gD, gO, ⟨r', gR, gr⟩, ⟨out', gW, go1, go0⟩, gB, gF, gK⟩ := hI
    obtain rfl := f2 e2
    obtain rfl := f3 e3
    refine opIn_of_list ho ?_
    cases ho
    clear hdep
    gi_wp2
    rw [HI.out]
    exact ⟨_, _, _, _, _, _, _, _, _, _, _, _, _, rfl, fun h => f0 (by rwa [upd_other (by decide)] at h), fun h => f1 (by rwa [upd_other (by decide)] at h), fun _ => rfl, fun _ => rfl, fun _ => rfl, fun h => f5 (by rwa [upd_other (by decide)] at h), fun h => f6 (by rwa [upd_other (by decide)] at h), fun h => f7 (by rwa [upd_other (by decide)] at h), fun h => f8 (by rwa [upd_other (by decide)] at h), fun h => f9 (by rwa [upd_other (by decide)] at h), gD, gO, ⟨r', gR, fun h => gr (by rwa [upd_other (by decide)] at h)⟩, ⟨out', gW, fun h => go1 (by rwa [upd_other (by decide)] at h), fun h => go0 (by rwa [upd_other (by decide)] at h)⟩, gB, gF, gK⟩
   | 5, ho =>
    have e4 : dn 4 = true := hdep ⟨4, .data⟩ (by cases ho; simp) rfl
    rw [HI.out] at hI
    obtain ⟨u23, u24, u25, u26, u27, u28, u29, u30, u31, u32, u33, u34, u35, rfl, f0, f1, f2, f3, f4, f5, f6, f7, f8, f9, gD, gO, ⟨r', gR, gr⟩, ⟨out', gW, go1, go0⟩, gB, gF, gK⟩ := hI
    obtain rfl := f4 e4
    refine opIn_of_list ho ?_
    cases ho
    clear hdep
    gi_wp2
    rw [HI.out]
    exact ⟨_, _, _, _, _, _, _, _, _, _, _, _, _, rfl, fun h => f0 (by rwa [upd_other (by decide)] at h), fun h => f1 (by rwa [upd_other (by decide)] at h), fun h => f2 (by rwa [upd_other (by decide)] at h), fun h => f3 (by rwa [upd_other (by decide)] at h), fun _ => rfl, fun _ => rfl, fun h => f6 (by rwa [upd_other (by decide)] at h), fun h => f7 (by rwa [upd_other (by decide)] at h), fun h => f8 (by rwa [upd_other (by decide)] at h), fun h => f9 (by rwa [upd_other (by decide)] at h), gD, gO, ⟨r', gR, fun h => gr (by rwa [upd_other (by decide)] at h)⟩, ⟨out', gW, fun h => go1 (by rwa [upd_other (by decide)] at h), fun h => go0 (by rwa [upd_other (by decide)] at h)⟩, gB, gF, gK⟩
   | 6, ho =>
    rw [HI.out] at hI
    obtain ⟨u23, u24, u25, u26, u27, u28, u29, u30, u31, u32, u33, u34, u35, rfl, f0, f1, f2, f3, f4, f5, f6, f7, f8, f9, gD, gO, ⟨r', gR, gr⟩, ⟨out', gW, go1, go0⟩, gB, gF, gK⟩ := hI
    refine opIn_of_list ho ?_
    cases ho
    clear hdep
    gi_wp2
    rw [HI.out]
    exact ⟨_, _, _, _, _, _, _, _, _, _, _, _, _, rfl, fun h => f0 (by rwa [upd_other (by decide)] at h), fun h => f1 (by rwa [upd_other (by decide)] at h), fun h => f2 (by rwa [upd_other (by decide)] at h), fun h => f3 (by rwa [upd_other (by decide)] at h), fun h => f4 (by rwa [upd_other (by decide)] at h), fun h => f5 (by rwa [upd_other (by decide)] at h), fun _ => rfl, fun h => f7 (by rwa [upd_other (by decide)] at h), fun h => f8 (by rwa [upd_other (by decide)] at h), fun h => f9 (by rwa [upd_other (by decide)] at h), gD, gO, ⟨r', gR, fun h => gr (by rwa [upd_other (by decide)] at h)⟩, ⟨out', gW, fun h => go1 (by rwa [upd_other (by decide)] at h), fun h => go0 (by rwa [upd_other (by decide)] at h)⟩, gB, gF, gK⟩
   | 7, ho =>
    rw [HI.out] at hI
    obtain ⟨u23, u24, u25, u26, u27, u28, u29, u30, u31, u32, u33, u34, u35, rfl, f0, f1, f2, f3, f4, f5, f6, f7, f8, f9, gD, gO, ⟨r', gR, gr⟩, ⟨out', gW, go1, go0⟩, gB, gF, gK⟩ := hI
    refine opIn_of_list ho ?_
    cases ho
    clear hdep
    have hc := gD.cell
    gi_wp2
    rw [HI.out]
    exact ⟨_, _, _, _, _, _, _, _, _, _, _, _, _, rfl, fun h => f0 (by rwa [upd_other (by decide)] at h), fun h => f1 (by rwa [upd_other (by decide)] at h), fun h => f2 (by rwa [upd_other (by decide)] at h), fun h => f3 (by rwa [upd_other (by decide)] at h), fun h => f4 (by rwa [upd_other (by decide)] at h), fun h => f5 (by rwa [upd_other (by decide)] at h), fun h => f6 (by rwa [upd_other (by decide)] at h), fun _ => rfl, fun h => f8 (by rwa [upd_other (by decide)] at h), fun h => f9 (by rwa [upd_other (by decide)] at h), gD, gO, ⟨r', gR, fun h => gr (by rwa [upd_other (by decide)] at h)⟩, ⟨out', gW, fun h => go1 (by rwa [upd_other (by decide)] at h), fun h => go0 (by rwa [upd_other (by decide)] at h)⟩, gB, gF, gK⟩
   | 8, ho =>
    have e6 : dn 6 = true := hdep ⟨6, .data⟩ (by cases ho; simp) rfl
    have e7 : dn 7 = true := hdep ⟨7, .data⟩ (by cases ho; simp) rfl
    rw [HI.out] at hI
    obtain ⟨u23, u24, u25, u26, u27, u28, u29, u30, u31, u32, u33, u34, u35, rfl, f0, f1, f2, f3, f4, f5, f6, f7, f8, f9, gD, gO, ⟨r', gR, gr⟩, ⟨out', gW, go1, go0⟩, gB, gF, gK⟩ := hI
    obtain rfl := f6 e6
    obtain rfl := f7 e7
    refine opIn_of_list ho ?_
    cases ho
    clear hdep
    gi_wp2
    rw [HI.out]
    exact ⟨_, _, _, _, _, _, _, _, _, _, _, _, _, rfl, fun h => f0 (by rwa [upd_other (by decide)] at h), fun h => f1 (by rwa [upd_other (by decide)] at h), fun h => f2 (by rwa [upd_other (by decide)] at h), fun h => f3 (by rwa [upd_other (by decide)] at h), fun h => f4 (by rwa [upd_other (by decide)] at h), fun h => f5 (by rwa [upd_other (by decide)] at h), fun _ => rfl, fun _ => rfl, fun _ => rfl, fun h => f9 (by rwa [upd_other (by decide)] at h), gD, gO, ⟨r', gR, fun h => gr (by rwa [upd_other (by decide)] at h)⟩, ⟨out', gW, fun h => go1 (by rwa [upd_other (by decide)] at h), fun h => go0 (by rwa [upd_other (by decide)] at h)⟩, gB, gF, gK⟩
   | 9, ho =>
    have e0 : dn 0 = true := hdep ⟨0, .data⟩ (by cases ho; simp) rfl
    have e1 : dn 1 = true := hdep ⟨1, .data⟩ (by cases ho; simp) rfl
    rw [HI.out] at hI
    obtain ⟨u23, u24, u25, u26, u27, u28, u29, u30, u31, u32, u33, u34, u35, rfl, f0, f1, f2, f3, f4, f5, f6, f7, f8, f9, gD, gO, ⟨r', gR, gr⟩, ⟨out', gW, go1, go0⟩, gB, gF, gK⟩ := hI
    obtain rfl := f0 e0
    obtain rfl := f1 e1
    refine opIn_of_list ho ?_
    cases ho
    clear hdep
    gi_wp2
    rw [HI.out]
    exact ⟨_, _, _, _, _, _, _, _, _, _, _, _, _, rfl, fun _ => rfl, fun _ => rfl, fun h => f2 (by rwa [upd_other (by decide)] at h), fun h => f3 (by rwa [upd_other (by decide)] at h), fun h => f4 (by rwa [upd_other (by decide)] at h), fun h => f5 (by rwa [upd_other (by decide)] at h), fun h => f6 (by rwa [upd_other (by decide)] at h), fun h => f7 (by rwa [upd_other (by decide)] at h), fun h => f8 (by rwa [upd_other (by decide)] at h), fun _ => rfl, gD, gO, ⟨r', gR, fun h => gr (by rwa [upd_other (by decide)] at h)⟩, ⟨out', gW, fun h => go1 (by rwa [upd_other (by decide)] at h), fun h => go0 (by rwa [upd_other (by decide)] at h)⟩, gB, gF, gK⟩
   | 10, ho =>
    have e9 : dn 9 = true := hdep ⟨9, .data⟩ (by cases ho; simp) rfl
    have e5 : dn 5 = true := hdep ⟨5, .data⟩ (by cases ho; simp) rfl
    rw [HI.out] at hI
    obtain ⟨u23, u24, u25, u26, u27, u28, u29, u30, u31, u32, u33, u34, u35, rfl, f0, f1, f2, f3, f4, f5, f6, f7, f8, f9, gD, gO, ⟨r', gR, gr⟩, ⟨out', gW, go1, go0⟩, gB, gF, gK⟩ := hI
    obtain rfl := f9 e9
    obtain rfl := f5 e5
    refine opIn_of_list ho ?_
    cases ho
    clear hdep
    obtain rfl := go0 hd
    obtain ⟨hat', hfz'⟩ := gW.at m (by rw [HOL.out]; omega)
    gi_wp2
    rw [HI.out]
    exact ⟨_, _, _, _, _, _, _, _, _, _, _, _, _, rfl, fun h => f0 (by rwa [upd_other (by decide)] at h), fun h => f1 (by rwa [upd_other (by decide)] at h), fun h => f2 (by rwa [upd_other (by decide)] at h), fun h => f3 (by rwa [upd_other (by decide)] at h), fun h => f4 (by rwa [upd_other (by decide)] at h), fun _ => rfl, fun h => f6 (by rwa [upd_other (by decide)] at h), fun h => f7 (by rwa [upd_other (by decide)] at h), fun h => f8 (by rwa [upd_other (by decide)] at h), fun _ => rfl, gD.otherAt (by simp) _, gO.otherAt (by simp; omega) _, ⟨r', gR.otherAt (by simp; omega) _, fun h => gr (by rwa [upd_other (by decide)] at h)⟩, ⟨_, gW.set m (by rw [HOL.out]; omega) _, fun _ => rfl, (fun h => by rw [upd_same] at h; cases h)⟩, gB.setCell (p := ⟨w.heap.size + 1, m, none⟩) (by simp) _, gF.trans ((KeepsOthers.setCell _ _ _).from _), keep1_t gK (Keep1.set (by simp) (by simp; omega) _)⟩
   | 11, ho =>
    have e8 : dn 8 = true := hdep ⟨8, .data⟩ (by cases ho; simp) rfl
    have e10 : dn 10 = true := hdep ⟨10, .chain⟩ (by cases ho; simp) rfl
    rw [HI.out] at hI
    obtain ⟨u23, u24, u25, u26, u27, u28, u29, u30, u31, u32, u33, u34, u35, rfl, f0, f1, f2, f3, f4, f5, f6, f7, f8, f9, gD, gO, ⟨r', gR, gr⟩, ⟨out', gW, go1, go0⟩, gB, gF, gK⟩ := hI
    obtain rfl := f8 e8
    refine opIn_of_list ho ?_
    cases ho
    clear hdep
    have hc := gR.cell
    have hf := gR.frozen
    gi_wp2
    rw [HI.out]
    exact ⟨_, _, _, _, _, _, _, _, _, _, _, _, _, rfl, fun h => f0 (by rwa [upd_other (by decide)] at h), fun h => f1 (by rwa [upd_other (by decide)] at h), fun h => f2 (by rwa [upd_other (by decide)] at h), fun h => f3 (by rwa [upd_other (by decide)] at h), fun h => f4 (by rwa [upd_other (by decide)] at h), fun h => f5 (by rwa [upd_other (by decide)] at h), fun h => f6 (by rwa [upd_other (by decide)] at h), fun h => f7 (by rwa [upd_other (by decide)] at h), fun _ => rfl, fun h => f9 (by rwa [upd_other (by decide)] at h), gD.other (by omega) _, gO.other (by omega) _, ⟨_, gR.set _, fun _ => rfl⟩, ⟨out', gW.box gR (by decide) _, fun h => go1 (by rwa [upd_other (by decide)] at h), fun h => go0 (by rwa [upd_other (by decide)] at h)⟩, gB.setCell (p := ⟨w1.heap.size + 1, 0, none⟩) (by simp; omega) _, gF.trans ((KeepsOthers.setCell _ _ _).from _), keep1_t gK (Keep1.set (by simp; omega) (by simp) _)⟩
   | k + 12, ho => simp at ho
  case hend =>
   intro dn a' W2 hI hall
   rw [HI.out] at hI
   obtain ⟨u23, u24, u25, u26, u27, u28, u29, u30, u31, u32, u33, u34, u35, rfl, f0, f1, f2, f3, f4, f5, f6, f7, f8, f9, gD, gO, ⟨r', gR, gr⟩, ⟨out', gW, go1, go0⟩, gB, gF, gK⟩ := hI
   obtain rfl := f0 (hall 0 (by decide))
   obtain rfl := f1 (hall 1 (by decide))
   obtain rfl := f2 (hall 2 (by decide))
   obtain rfl := f3 (hall 3 (by decide))
   obtain rfl := f4 (hall 4 (by decide))
   obtain rfl := f5 (hall 5 (by decide))
   obtain rfl := f6 (hall 6 (by decide))
   obtain rfl := f7 (hall 7 (by decide))
   obtain rfl := f8 (hall 8 (by decide))
   obtain rfl := f9 (hall 9 (by decide))
   obtain rfl := gr (hall 11 (by decide))
   obtain rfl := go1 (hall 10 (by decide))
   exact ⟨gF, gK, _, _, he0, he1, hLm.set _ ⟨hq0, hq1⟩, by rw [List.length_set]; exact HOL.out, by rw [HD3.out]; exact HST.out, gD, gO, gR, gW, gB⟩
 case done =>
  rintro D W hD ⟨r, out, hr0, hr1, hLm, hol, hval, bD, bO, bR, hown, hBW⟩ hK
  have hcO := bO.cell
  have hcR := bR.cell
  have HOL := Lib.hid hol
  have hv : val X = val out * d + r := by
   have := HA.out
   rw [show len - X.length = 0 by omega] at hval
   exact hval
  obtain ⟨hq, hr⟩ := div_unique hv hr0 hr1
  have hrep := trim_rep hLm
  rw [hq] at hrep
  have HREP := Lib.hid hrep
  have HR := Lib.hid hr
  clear hol hval hv hq hr hrep
  gi_wp2
  obtain ⟨v2, hv2⟩ : ∃ v2, v2 = Value.slice (some ⟨w.heap.size + 1, 0, none⟩) (trim out).length len := ⟨_, rfl⟩
  have hown2 : Own16 w.heap.size W v2 (trim out) := by
   obtain ⟨k, hk, e⟩ := trim_prefix out
   rw [hv2, e, show (out.take k).length = k by simp [Nat.min_eq_left hk]]
   exact hown.take k hk
  have hcall : ∀ W', W'.heap = W.heap → Calls Tryz.prog 137 #[.slice (some ⟨w.heap.size + 1, 0, none⟩) len len] W' fun e w' => e = .returned v2 ∧ w' = W' := fun W' hW' =>
   (trimmed_some (w.heap.size + 1) 0 len len out W' HOL.out (Nat.le_refl _) (by omega) (fun j hj => by
    have := (hown.at j (by rw [HOL.out]; exact hj)).1
    rw [World.cell?_of_block (w := W) (by rw [hW']), Nat.zero_add]; exact this)).mono fun e w' ⟨h1, h2⟩ => ⟨by rw [h1, hv2], h2.symm⟩
  clear hv2
  refine wpIn_wide.2 ?_
  go_quiet ((go_at_call 137; exact Calls.quiet_of_same (hcall _ rfl)))
  gi_wp2
  refine ⟨by simp, .inl ⟨_, _, rfl, run_takeDeferred (b := D) hK, ?_⟩⟩
  refine ⟨.tuple #[v2, .int .u32 r], by simp [results, Tryz.f103, go_sem], v2, trim out, by rw [HR.out], Own16.keptFrom (W := W.drewN nq) hown2 (grownBy_putObj' _ D _) (fun r e => by cases e; exact ⟨_, hK, rfl⟩), HREP.out, ?_⟩
  exact (below_drewN hBW nq).trans (belowK_b (w := w) (Nat.le_refl _) _ D _ _ (by omega) hK rfl rfl)
 case stop =>
  rintro D c k W hD hk h
  exact h.elim
end Go.Proofs.YtihdbjilolmfiaaGreatDoor
