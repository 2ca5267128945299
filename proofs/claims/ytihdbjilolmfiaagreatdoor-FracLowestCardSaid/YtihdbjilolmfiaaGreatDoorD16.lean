import Derived.Test.YtihdbjilolmfiaaGreatDoorD15
import Derived.Test.YtihdbjilolmfiaaGreatDoorD01
set_option maxRecDepth 100000
set_option maxHeartbeats 4000000
namespace Go.Proofs.YtihdbjilolmfiaaGreatDoor
open Go.RowKit Go.WM Go.WR
def readN (W : World) : Value → Nat
 | .slice (some a) len _ => (val ((List.range len).map fun j => intOf ((W.cell? ⟨a.block, a.off + j, none⟩).getD (.int .u16 0)))).toNat
 | _ => 0
theorem readN_eq {n₀ : Nat} {W : World} {v : Value} {zs : List Int} (h : Lims n₀ W v zs) : readN W v = (val zs).toNat := by
 rcases h with ⟨rfl, rfl⟩ | ⟨b, off, cap, rfl, hl, hb, hc⟩
 · rfl
 · have e : ((List.range zs.length).map fun j => intOf ((W.cell? ⟨b, off + j, none⟩).getD (.int .u16 0))) = zs := by
    refine List.ext_getElem (by simp) fun j h1 h2 => ?_
    have := hc j h2
    simp only [List.getElem_map, List.getElem_range, this, Option.getD_some]
    rw [List.getElem?_eq_getElem h2]
    rfl
   simp only [readN, e]
end Go.Proofs.YtihdbjilolmfiaaGreatDoor
namespace Go.Proofs.YtihdbjilolmfiaaGreatDoor
open Go.RowKit Go.WM Go.WR
attribute [local go_sem] Oper.semAt_some
def GcdPost (a b : Int) (w : World) (e : Ending) (w' : World) : Prop := ∃ (b2 : Bool) (p : Option Addr) (l c : Nat), e = .returned (.tuple #[.agg #[.bool b2, .slice p l c], .int .i64 0]) ∧ Wo w.heap.size w' (.agg #[.bool b2, .slice p l c]) (Int.gcd a b) ∧ Below w.heap.size w w'
theorem gcd_mod (m n : Int) : m.gcd (n % m) = m.gcd n := by rw [Int.emod_def]; exact Int.gcd_sub_mul_left_right m n (n / m)
theorem Gcd_ok (va vb : Value) (a b : Int) (w : World) (hA : Wn w.heap.size w va a) (hB : Wn w.heap.size w vb b) : Calls Tryz.prog 138 #[va, vb] w (GcdPost a b w) := by
 obtain ⟨sa, A, rfl, hLa, hRa, hca⟩ := hA
 obtain ⟨sb, B, rfl, hLb, hRb, hcb⟩ := hB
 obtain ⟨pa, la, ca, rfl⟩ := hLa.form
 obtain ⟨pb, lb, cb, rfl⟩ := hLb.form
 have hoa := rep_ok hRa hca
 have hob := rep_ok hRb hcb
 have hla := rep_short hRa hca
 have hlb := rep_short hRb hcb
 generalize decide (a < 0) = na at *
 generalize decide (b < 0) = nb at *
 have HOA := Lib.hid hoa
 have HOB := Lib.hid hob
 clear hoa hob
 obtain ⟨w4, hw4⟩ : ∃ w4, w4 = (((w.alloc (.cells #[.bool na, .slice pa la ca] 24)).alloc (.cells #[.bool nb, .slice pb lb cb] 24)).alloc (.cells #[.bool false, .slice none 0 0] 24)).alloc (.cells #[.bool na, .slice pa la ca, .bool nb, .slice pb lb cb] 24) := ⟨_, rfl⟩
 have hB4 : Below w.heap.size w w4 := by rw [hw4]; exact ((((Below.refl _ w).alloc (Nat.le_refl _) _).alloc (by simp) _).alloc (by simp; omega) _).alloc (by simp; omega) _
 have hs4 : w4.heap.size = w.heap.size + 4 := by rw [hw4]; simp
 obtain ⟨q0, q1, q2, q3⟩ := alloc4 w (.cells #[.bool na, .slice pa la ca] 24) (.cells #[.bool nb, .slice pb lb cb] 24) (.cells #[.bool false, .slice none 0 0] 24) (.cells #[.bool na, .slice pa la ca, .bool nb, .slice pb lb cb] 24)
 rw [← hw4] at q0 q1 q2 q3
 go_enter Tryz.func138, Tryz.ntmps138
 go_wp2_with (go_at_call 95; rw [← hw4]; refine (valid_two (w.heap.size + 1 + 1 + 1) na nb (.slice pa la ca) (.slice pb lb cb) A B w4 (by omega) (by omega) (by omega) (cell_of q3 0 rfl) (cell_of q3 1 rfl) (cell_of q3 2 rfl) (cell_of q3 3 rfl) ((hLa.below hB4).mono hB4.size) ((hLb.below hB4).mono hB4.size)).mono ?_; rintro e w5 ⟨rfl, hb5⟩; rw [HOA.out, HOB.out]; clear hw4; have p0 := (hb5.block _ (show w.heap.size < w4.heap.size by omega)).trans q0; have p1 := (hb5.block _ (show w.heap.size + 1 < w4.heap.size by omega)).trans q1; have p2 := (hb5.block _ (show w.heap.size + 1 + 1 < w4.heap.size by omega)).trans q2; have c0 := cell_of p0 0 rfl; have c1 := cell_of p0 1 rfl; have c2 := cell_of p1 0 rfl; have c3 := cell_of p1 1 rfl; have c4 := cell_of p2 0 rfl; have c5 := cell_of p2 1 rfl; have f4 := frozen_of p2 0; have f5 := frozen_of p2 1; have hs5 := hb5.size; have hB5 := hB4.trans (hb5.mono hB4.size))
 clear q0 q1 q2 q3 hB4 c0 c1 c2 c3 c4 c5 f4 f5
 have k1 : ∀ W, Below w5.heap.size w5 W → W.cell? ⟨w.heap.size, 1, none⟩ = some (.slice pa la ca) := fun W h => cell_of ((h.block _ (by omega)).trans p0) 1 rfl
 have k3 : ∀ W, Below w5.heap.size w5 W → W.cell? ⟨w.heap.size + 1, 1, none⟩ = some (.slice pb lb cb) := fun W h => cell_of ((h.block _ (by omega)).trans p1) 1 rfl
 obtain ⟨IA, HIA⟩ : ∃ I : (Nat → Bool) → Act → World → Prop, Hid (I = (fun dn a' W2 => ∃ u16 u17 u18 u19 u20 u21 u6 u7 : Value, ∃ px : Option Addr, ∃ lx : Nat, ∃ cx : Nat, ∃ py : Option Addr, ∃ ly : Nat, ∃ cy : Nat, a' = { tmps := #[.agg #[.bool na, .slice pa la ca], .agg #[.bool nb, .slice pb lb cb], .pointer (some ⟨w.heap.size, 0, none⟩), .pointer (some ⟨(w.heap.size + 1), 0, none⟩), .pointer (some ⟨(w.heap.size + 1 + 1), 0, none⟩), .int .i64 0, u6, u7, undef, undef, .agg #[.bool na, .slice pa la ca], .agg #[.bool nb, .slice pb lb cb], .slice (some ⟨(w.heap.size + 1 + 1 + 1), 0, none⟩) 2 2, .bool true, .bool false, undef, u16, u17, u18, u19, u20, u21, undef, undef, undef, undef, undef, undef, undef, undef, undef, undef, undef, undef, undef], defers := [] } ∧ (dn 0 = true → u16 = .pointer (some ⟨w.heap.size, 1, none⟩)) ∧ (dn 1 = true → u17 = .slice pa la ca) ∧ (dn 2 = true → u18 = .slice px lx cx) ∧ (dn 3 = true → u19 = .pointer (some ⟨(w.heap.size + 1), 1, none⟩)) ∧ (dn 4 = true → u20 = .slice pb lb cb) ∧ (dn 5 = true → u21 = .slice py ly cy) ∧ (dn 6 = true → u6 = .slice px lx cx) ∧ (dn 7 = true → u7 = .slice py ly cy) ∧ Below w5.heap.size w5 W2 ∧ (dn 2 = true → Own16 w5.heap.size W2 (.slice px lx cx) A) ∧ (dn 5 = true → Own16 w5.heap.size W2 (.slice py ly cy) B) ∧ Hid (dn 6 = true → dn 2 = true) ∧ Hid (dn 7 = true → dn 5 = true))) := ⟨_, rfl⟩
 refine (wpIn_wide (n := 9)).1 ?_
 refine wpIn_region_conf IA (n := 9) (by kernel_rfl) (by kernel_rfl) ?h0A ?hstepA ?hendA
 case h0A =>
  rw [HIA.out]
  exact ⟨undef, undef, undef, undef, undef, undef, undef, undef, none, 0, 0, none, 0, 0, rfl, (fun h => by cases h), (fun h => by cases h), (fun h => by cases h), (fun h => by cases h), (fun h => by cases h), (fun h => by cases h), (fun h => by cases h), (fun h => by cases h), (Below.refl _ _).drew, (fun h => by cases h), (fun h => by cases h), (Lib.hid (fun h => by cases h)), (Lib.hid (fun h => by cases h))⟩
 case hstepA =>
  intro dn a' W2 hI i o ho hd hdep
  match i, ho with
  | 0, ho =>
   rw [HIA.out] at hI
   obtain ⟨u16, u17, u18, u19, u20, u21, u6, u7, px, lx, cx, py, ly, cy, rfl, f0, f1, f2, f3, f4, f5, f6, f7, gB, g2, g5, k6_2, k7_5⟩ := hI
   refine opIn_of_list ho ?_
   cases ho
   clear hdep
   gi_wp2
   rw [HIA.out]
   exact ⟨_, _, _, _, _, _, _, _, _, _, _, _, _, _, rfl, fun _ => rfl, lf f1, lf f2, lf f3, lf f4, lf f5, lf f6, lf f7, gB, lf g2, lf g5, (Lib.hid (fun h0 => upd_mono (k6_2.out (lu h0)))), (Lib.hid (fun h0 => upd_mono (k7_5.out (lu h0))))⟩
  | 1, ho =>
   have e0 : dn 0 = true := hdep ⟨0, .data⟩ (by cases ho; simp) rfl
   rw [HIA.out] at hI
   obtain ⟨u16, u17, u18, u19, u20, u21, u6, u7, px, lx, cx, py, ly, cy, rfl, f0, f1, f2, f3, f4, f5, f6, f7, gB, g2, g5, k6_2, k7_5⟩ := hI
   obtain rfl := (f0 e0).symm
   refine opIn_of_list ho ?_
   cases ho
   clear hdep
   have hc0 := k1 _ gB
   gi_wp2
   rw [HIA.out]
   exact ⟨_, _, _, _, _, _, _, _, _, _, _, _, _, _, rfl, fun _ => rfl, fun _ => rfl, lf f2, lf f3, lf f4, lf f5, lf f6, lf f7, gB, lf g2, lf g5, (Lib.hid (fun h0 => upd_mono (k6_2.out (lu h0)))), (Lib.hid (fun h0 => upd_mono (k7_5.out (lu h0))))⟩
  | 2, ho =>
   have e1 : dn 1 = true := hdep ⟨1, .data⟩ (by cases ho; simp) rfl
   rw [HIA.out] at hI
   obtain ⟨u16, u17, u18, u19, u20, u21, u6, u7, px, lx, cx, py, ly, cy, rfl, f0, f1, f2, f3, f4, f5, f6, f7, gB, g2, g5, k6_2, k7_5⟩ := hI
   obtain rfl := (f1 e1).symm
   refine opIn_of_list ho ?_
   cases ho
   clear hdep
   gi_wp2
   refine ⟨trivial, ?_⟩
   refine CallsIn.mono ((callsIn_wide (n := 8)).2 (clone_any (Value.slice pa la ca) A _ (by omega) ((hLa.below hB5).mono hB5.size |>.below gB |>.mono gB.size))) ?_
   rintro e w6 ⟨vv, rfl, hown, hb6⟩
   replace hown := hown.mono gB.size
   obtain ⟨pp, ll, cc, rfl⟩ := hown.shape
   gi_wp2
   rw [HIA.out]
   exact ⟨_, _, _, _, _, _, _, _, pp, ll, cc, _, _, _, rfl, lf f0, fun _ => rfl, fun _ => rfl, lf f3, lf f4, lf f5, (fun h0 => absurd (k6_2.out (lu h0)) (by rw [hd]; decide)), lf f7, gB.trans (hb6.mono gB.size), (fun _ => hown), (fun h0 => (g5 (lu h0)).below hb6), (Lib.hid (fun _ => upd_same _ _)), (Lib.hid (fun h0 => upd_mono (k7_5.out (lu h0))))⟩
  | 3, ho =>
   rw [HIA.out] at hI
   obtain ⟨u16, u17, u18, u19, u20, u21, u6, u7, px, lx, cx, py, ly, cy, rfl, f0, f1, f2, f3, f4, f5, f6, f7, gB, g2, g5, k6_2, k7_5⟩ := hI
   refine opIn_of_list ho ?_
   cases ho
   clear hdep
   gi_wp2
   rw [HIA.out]
   exact ⟨_, _, _, _, _, _, _, _, _, _, _, _, _, _, rfl, lf f0, lf f1, lf f2, fun _ => rfl, lf f4, lf f5, lf f6, lf f7, gB, lf g2, lf g5, (Lib.hid (fun h0 => upd_mono (k6_2.out (lu h0)))), (Lib.hid (fun h0 => upd_mono (k7_5.out (lu h0))))⟩
  | 4, ho =>
   have e3 : dn 3 = true := hdep ⟨3, .data⟩ (by cases ho; simp) rfl
   rw [HIA.out] at hI
   obtain ⟨u16, u17, u18, u19, u20, u21, u6, u7, px, lx, cx, py, ly, cy, rfl, f0, f1, f2, f3, f4, f5, f6, f7, gB, g2, g5, k6_2, k7_5⟩ := hI
   obtain rfl := (f3 e3).symm
   refine opIn_of_list ho ?_
   cases ho
   clear hdep
   have hc0 := k3 _ gB
   gi_wp2
   rw [HIA.out]
   exact ⟨_, _, _, _, _, _, _, _, _, _, _, _, _, _, rfl, lf f0, lf f1, lf f2, fun _ => rfl, fun _ => rfl, lf f5, lf f6, lf f7, gB, lf g2, lf g5, (Lib.hid (fun h0 => upd_mono (k6_2.out (lu h0)))), (Lib.hid (fun h0 => upd_mono (k7_5.out (lu h0))))⟩
  | 5, ho =>
   have e4 : dn 4 = true := hdep ⟨4, .data⟩ (by cases ho; simp) rfl
   have e2 : dn 2 = true := hdep ⟨2, .chain⟩ (by cases ho; simp) rfl
   rw [HIA.out] at hI
   obtain ⟨u16, u17, u18, u19, u20, u21, u6, u7, px, lx, cx, py, ly, cy, rfl, f0, f1, f2, f3, f4, f5, f6, f7, gB, g2, g5, k6_2, k7_5⟩ := hI
   obtain rfl := (f4 e4).symm
   obtain rfl := (f2 e2).symm
   refine opIn_of_list ho ?_
   cases ho
   clear hdep
   gi_wp2
   refine ⟨trivial, ?_⟩
   refine CallsIn.mono ((callsIn_wide (n := 8)).2 (clone_any (Value.slice pb lb cb) B _ (by omega) ((hLb.below hB5).mono hB5.size |>.below gB |>.mono gB.size))) ?_
   rintro e w6 ⟨vv, rfl, hown, hb6⟩
   replace hown := hown.mono gB.size
   obtain ⟨pp, ll, cc, rfl⟩ := hown.shape
   gi_wp2
   rw [HIA.out]
   exact ⟨_, _, _, _, _, _, _, _, _, _, _, pp, ll, cc, rfl, lf f0, lf f1, fun _ => rfl, lf f3, fun _ => rfl, fun _ => rfl, lf f6, (fun h0 => absurd (k7_5.out (lu h0)) (by rw [hd]; decide)), gB.trans (hb6.mono gB.size), (fun h0 => (g2 (lu h0)).below hb6), (fun _ => hown), (Lib.hid (fun h0 => upd_mono (k6_2.out (lu h0)))), (Lib.hid (fun _ => upd_same _ _))⟩
  | 6, ho =>
   have e2 : dn 2 = true := hdep ⟨2, .data⟩ (by cases ho; simp) rfl
   have e5 : dn 5 = true := hdep ⟨5, .chain⟩ (by cases ho; simp) rfl
   rw [HIA.out] at hI
   obtain ⟨u16, u17, u18, u19, u20, u21, u6, u7, px, lx, cx, py, ly, cy, rfl, f0, f1, f2, f3, f4, f5, f6, f7, gB, g2, g5, k6_2, k7_5⟩ := hI
   obtain rfl := (f2 e2).symm
   obtain rfl := (f5 e5).symm
   refine opIn_of_list ho ?_
   cases ho
   clear hdep
   gi_wp2
   rw [HIA.out]
   exact ⟨_, _, _, _, _, _, _, _, _, _, _, _, _, _, rfl, lf f0, lf f1, fun _ => rfl, lf f3, lf f4, fun _ => rfl, fun _ => rfl, lf f7, gB, lf g2, lf g5, (Lib.hid (fun _ => upd_mono e2)), (Lib.hid (fun h0 => upd_mono (k7_5.out (lu h0))))⟩
  | 7, ho =>
   have e5 : dn 5 = true := hdep ⟨5, .data⟩ (by cases ho; simp) rfl
   have e6 : dn 6 = true := hdep ⟨6, .chain⟩ (by cases ho; simp) rfl
   rw [HIA.out] at hI
   obtain ⟨u16, u17, u18, u19, u20, u21, u6, u7, px, lx, cx, py, ly, cy, rfl, f0, f1, f2, f3, f4, f5, f6, f7, gB, g2, g5, k6_2, k7_5⟩ := hI
   obtain rfl := (f5 e5).symm
   obtain rfl := (f6 e6).symm
   refine opIn_of_list ho ?_
   cases ho
   clear hdep
   gi_wp2
   rw [HIA.out]
   exact ⟨_, _, _, _, _, _, _, _, _, _, _, _, _, _, rfl, lf f0, lf f1, lf f2, lf f3, lf f4, fun _ => rfl, fun _ => rfl, fun _ => rfl, gB, lf g2, lf g5, (Lib.hid (fun h0 => upd_mono (k6_2.out (lu h0)))), (Lib.hid (fun _ => upd_mono e5))⟩
  | k + 8, ho => simp at ho
 case hendA =>
  intro dn a' W2 hI hall
  rw [HIA.out] at hI
  obtain ⟨u16, u17, u18, u19, u20, u21, u6, u7, px, lx, cx, py, ly, cy, rfl, f0, f1, f2, f3, f4, f5, f6, f7, gB, g2, g5, k6_2, k7_5⟩ := hI
  have G2 := g2 (hall 2 (by decide))
  have G5 := g5 (hall 5 (by decide))
  obtain rfl := (f0 (hall 0 (by decide))).symm
  obtain rfl := (f1 (hall 1 (by decide))).symm
  obtain rfl := (f2 (hall 2 (by decide))).symm
  obtain rfl := (f3 (hall 3 (by decide))).symm
  obtain rfl := (f4 (hall 4 (by decide))).symm
  obtain rfl := (f5 (hall 5 (by decide))).symm
  obtain rfl := (f6 (hall 6 (by decide))).symm
  obtain rfl := (f7 (hall 7 (by decide))).symm
  clear hall g2 g5 HIA
  have hsW := gB.size
  go_wp2
  go_loopw [6, 7] (fun xv yv wr => ∃ (px : Option Addr) (lx cx : Nat) (py : Option Addr) (ly cy : Nat) (X Y : List Int) (n m : Int), xv = .slice px lx cx ∧ yv = .slice py ly cy ∧ Rep X n ∧ Rep Y m ∧ Int.gcd n m = Int.gcd a b ∧ n < Cap ∧ m < Cap ∧
   Own16 w5.heap.size wr (.slice px lx cx) X ∧ Own16 w5.heap.size wr (.slice py ly cy) Y ∧ Below w5.heap.size w5 wr) (fun _ yv wr => readN wr yv)
  case atStart => exact ⟨px, lx, cx, py, ly, cy, A, B, _, _, rfl, rfl, hRa, hRb, by simp [Int.gcd], hca, hcb, G2, G5, gB⟩
  case round =>
   obtain ⟨px, lx, cx, py, ly, cy, X, Y, n, m, rfl, rfl, hRx, hRy, hg, hnc, hmc, hox, hoy, hBw⟩ := hrel
   have hlx := hRx.cap.2 hnc
   have hly := hRy.cap.2 hmc
   have hpos := hRy.pos
   have hLY := hoy.lims.cells.1
   have HG := Lib.hid hg
   clear hg
   by_cases hm : 0 < m
   · have hy0 : 0 < ly := by omega
     have HLY := Lib.hid hLY
     clear hLY hpos
     go_wp2_with (go_at_call 126; refine (div_any (.slice px lx cx) (.slice py ly cy) X Y n m wr hRx hRy hm (by omega) (by omega) hox.lims hoy.lims).mono ?_; rintro e w7 ⟨vq, vr, zq, zr, rfl, hoq, hor, hrq, hrr, hb7⟩; obtain ⟨pq, lq, cq, rfl⟩ := hoq.shape; obtain ⟨pr, lr, cr, rfl⟩ := hor.shape)
     go_roundw
     case rel => exact ⟨py, ly, cy, pr, lr, cr, Y, zr, m, n % m, rfl, rfl, hRy, hrr, by rw [← HG.out, Int.gcd_comm n m, gcd_mod], hmc, by have := Int.emod_lt_of_pos n hm; omega, hoy.below hb7, hor.mono hBw.size, hBw.trans (hb7.mono hBw.size)⟩
     case measure =>
      rw [readN_eq hor.lims, readN_eq hoy.lims, hrr.eq, hRy.eq]
      have := Int.emod_lt_of_pos n hm
      omega
   · have hm0 : m = 0 := by have := hRy.nonneg; omega
     subst hm0
     have hly0 : ly = 0 := by omega
     subst hly0
     have r2 := (hBw.block _ (show w.heap.size + 1 + 1 < w5.heap.size by omega)).trans p2
     have d4 := cell_of r2 0 rfl
     have d5 := cell_of r2 1 rfl
     have g4 := frozen_of r2 0
     have g5 := frozen_of r2 1
     have hgn : n = (Int.gcd a b : Int) := by have := HG.out; rw [Int.gcd_zero_right] at this; have := hRx.nonneg; omega
     have HGN := Lib.hid hgn
     clear hgn hLY
     go_wp2
     obtain ⟨t0, t1⟩ := put2_cell r2 (.bool false) (.slice px lx cx)
     have hW : Wo w.heap.size wr (.agg #[.bool false, .slice px lx cx]) n := Wo.of false (hox.mono hB5.size) hRx hnc
     refine bodyPost_ret (v := .tuple #[.agg #[.bool false, .slice px lx cx], .int .i64 0]) (by simp [results, Tryz.results138, go_sem, show (wr.setCell ⟨w.heap.size + 1 + 1, 0, none⟩ (.bool false)).setCell ⟨w.heap.size + 1 + 1, 1, none⟩ (.slice px lx cx) = put2 wr (w.heap.size + 1 + 1) (.bool false) (.slice px lx cx) from rfl, t0, t1]) rfl ⟨false, px, lx, cx, rfl, ?_, (hB5.trans (hBw.mono hB5.size)).trans ((put2_only _ _ _ _).below (by omega))⟩
     rw [← HGN.out]
     exact Wo.put2 r2 (by decide) _ _ hW
end Go.Proofs.YtihdbjilolmfiaaGreatDoor
