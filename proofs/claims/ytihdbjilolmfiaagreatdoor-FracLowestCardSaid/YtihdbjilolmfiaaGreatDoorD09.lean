import Derived.Test.YtihdbjilolmfiaaGreatDoorD08
import Derived.Test.YtihdbjilolmfiaaGreatDoorD01
set_option maxRecDepth 100000
set_option maxHeartbeats 4000000
namespace Go.Proofs.YtihdbjilolmfiaaGreatDoor
open Go.RowKit Go.WM Go.WR
attribute [local go_sem] Oper.semAt_some
theorem lz16 (x : Int) (w : World) (h0 : 0 ≤ x) (h1 : x ≤ 65535) : Calls Tryz.prog 169 #[.int .u16 x] w fun e w' => e = .returned (.int .i64 (16 - (Lib.bitLen x.toNat : Int))) ∧ w = w' :=
 (Tryz.bits_LeadingZeros16 x w h0 h1).mono fun _ _ ⟨he, hw⟩ => ⟨he, hw.symm⟩
theorem div_long (px py : Option Addr) (lx cx cy k : Nat) (X Y : List Int) (n m : Int) (w : World) (hX : Rep X n) (hY : Rep Y m) (hlx : lx ≤ 35184372088830) (hnm : m ≤ n) 
 (hA : Lims w.heap.size w (.slice px lx cx) X) (hB : Lims w.heap.size w (.slice py (k + 2) cy) Y) :
 Calls Tryz.prog 126 #[.slice px lx cx, .slice py (k + 2) cy] w (DivPost n m w) := by
 obtain ⟨i0, hi, hz0, hz1', hz2'⟩ := info_parts info48
 have HX := Lib.hid hA.cells.1
 have HY := Lib.hid hB.cells.1
 have hle : k + 2 ≤ lx := by have h := len_le_of_val hY.lm hY.nz hX.lm (by rw [hX.eq, hY.eq]; exact hnm); rw [HY.out, HX.out]; exact h
 obtain ⟨by', oy, rfl, hby, hcy, hcY⟩ := hB.cells.2 (by omega)
 have htopc := hcY (k + 1) (by omega)
 have htopn : Y[k + 1]?.getD 0 ≠ 0 := by
  have h := hY.nz.last (by intro e; have := HY.out; simp [e] at this)
  rwa [← HY.out] at h
 obtain ⟨t0, t1⟩ := hY.lm.getD (k + 1)
 have t2 : 1 ≤ Y[k + 1]?.getD 0 := by omega
 clear htopn
 have hcmp : 0 ≤ cmpI n m := cmpI_le.2 hnm
 have hA1 := hA.below ((Below.refl _ w).alloc (Nat.le_refl _) (.cells #[.slice none 0 0] 22))
 have hB1 := hB.below ((Below.refl _ w).alloc (Nat.le_refl _) (.cells #[.slice none 0 0] 22))
 have bR0 := Boxed.new w 22 (.slice none 0 0)
 refine (callsIn_wide (n := 9)).1 ?_
 refine callsIn_of_wp_marks Tryz.func126 rfl trivial ?_ rfl
 simp only [Tryz.ntmps126, List.size_toArray, List.length_cons, List.length_nil, Nat.reduceAdd, Nat.reduceSub, Array.replicate_succ, Array.replicate_zero, List.push_toArray, List.append_toArray, List.nil_append, List.cons_append]
 gi_wp2_with (first | (refine ⟨trivial, ?_⟩; gi_at_call 130; refine ((callsIn_wide (n := 8)).2 (compare_any _ _ X Y n m _ hX hY (by have := HX.out; omega) (by have := HY.out; omega) (hA1.mono (by simp)) (hB1.mono (by simp)))).mono ?_; rintro e w1 ⟨rfl, hb1⟩; have hB2 : Below w.heap.size w w1 := ((Below.refl _ w).alloc (Nat.le_refl _) _).trans (hb1.mono (by simp)); have bR1 : Boxed w1 w.heap.size 22 (.slice none 0 0) := (hb1.block w.heap.size (by simp)).trans bR0; have hcy1 : w1.cell? ⟨by', oy + (k + 1), none⟩ = some (.int .u16 (Y[k + 1]?.getD 0)) := (hB2.cell (p := ⟨by', oy + (k + 1), none⟩) hby).trans htopc) | (refine ⟨trivial, ?_⟩; gi_at_call 169; refine ((callsIn_wide (n := 8)).2 (lz16 _ _ (by omega) (by omega))).mono ?_; rintro e w2 ⟨rfl, rfl⟩))
 obtain ⟨sh, hsh, hshe, hsh1, hsh2⟩ := WB.lead_shift t2 t1
 rw [hshe]
 clear hshe
 have bR2 : Boxed ((w1.alloc (.cells #[.int .i64 ((k : Int) + 2)] 3)).drew) w.heap.size 22 (.slice none 0 0) := bR1.alloc _
 have b92 : Boxed ((w1.alloc (.cells #[.int .i64 ((k : Int) + 2)] 3)).drew) w1.heap.size 3 (.int .i64 ((k : Int) + 2)) := Boxed.new _ _ _
 have hB3 : Below w.heap.size w ((w1.alloc (.cells #[.int .i64 ((k : Int) + 2)] 3)).drew) := (hB2.alloc hB2.size _).drew
 -- REG7
 obtain ⟨I, HI⟩ : ∃ I : (Nat → Bool) → Act → World → Prop, Hid (I = (fun dn a' W2 => ∃ u10 u11 u47 u48 u49 u50 u51 u52 u53 u54 : Value, ∃ b10 b11 g1 g2 : Nat, ∃ z1 z2 : List Int, a' = { tmps := #[.slice px lx cx, .slice (some ⟨by', oy, none⟩) (k + 2) cy, undef, undef, .pointer (some ⟨w.heap.size, 0, none⟩), .slice none 0 0, undef, undef, .int .i64 (sh : Int), .pointer (some ⟨w1.heap.size, 0, none⟩), u10, u11, undef, undef, undef, .slice px lx cx, .slice (some ⟨by', oy, none⟩) (k + 2) cy, .int .i64 (cmpI n m), .bool (decide (cmpI n m < 0)), undef, undef, .slice (some ⟨by', oy, none⟩) (k + 2) cy, .int .i64 ((k : Int) + 2), .bool false, undef, undef, undef, undef, undef, undef, undef, undef, undef, undef, undef, undef, undef, undef, .slice (some ⟨by', oy, none⟩) (k + 2) cy, .slice (some ⟨by', oy, none⟩) (k + 2) cy, .int .i64 ((k : Int) + 2), .int .i64 ((k : Int) + 2 - 1), .pointer (some ⟨by', oy + (k + 1), none⟩), .int .u16 (Y[k + 1]?.getD 0), .int .i64 (sh : Int), .slice (some ⟨by', oy, none⟩) (k + 2) cy, .int .i64 ((k : Int) + 2), u47, u48, u49, u50, u51, u52, u53, u54, undef, undef, undef, undef, undef, undef, undef, undef, undef, undef, undef, undef, undef, undef, undef, undef, undef, undef, undef, undef, undef, undef, undef, undef, undef, undef, undef, undef, undef, undef, undef, undef, undef, undef], defers := [] } ∧ (dn 0 = true → u47 = .slice px lx cx) ∧ (dn 1 = true → u48 = .int .i64 (sh : Int)) ∧ (dn 2 = true → u49 = .slice (some ⟨g1, 0, none⟩) (lx + 1) (lx + 1)) ∧ (dn 3 = true → u50 = .slice (some ⟨by', oy, none⟩) (k + 2) cy) ∧ (dn 4 = true → u51 = .int .i64 (sh : Int)) ∧ (dn 5 = true → u52 = .slice (some ⟨g2, 0, none⟩) (k + 2 + 1) (k + 2 + 1)) ∧ (dn 6 = true → u53 = .int .i64 ((k : Int) + 2)) ∧ (dn 7 = true → u54 = .slice (some ⟨g2, 0, none⟩) (k + 2) (k + 2 + 1)) ∧ (dn 8 = true → u10 = .pointer (some ⟨b10, 0, none⟩)) ∧ (dn 9 = true → u11 = .pointer (some ⟨b11, 0, none⟩)) ∧ Boxed W2 w.heap.size 22 (.slice none 0 0) ∧ Boxed W2 w1.heap.size 3 (.int .i64 ((k : Int) + 2)) ∧ Below w.heap.size w W2 ∧ (dn 2 = true → Own16 (w1.heap.size + 1) W2 (.slice (some ⟨g1, 0, none⟩) (lx + 1) (lx + 1)) z1 ∧ Lm z1 ∧ val z1 = val X * 2 ^ sh) ∧ (dn 5 = true → Own16 (w1.heap.size + 1) W2 (.slice (some ⟨g2, 0, none⟩) (k + 2 + 1) (k + 2 + 1)) z2 ∧ Lm z2 ∧ val z2 = val Y * 2 ^ sh) ∧ (dn 2 = true → dn 5 = true → g1 ≠ g2) ∧ (dn 8 = true → w1.heap.size + 1 ≤ b10) ∧ (dn 9 = true → w1.heap.size + 1 ≤ b11) ∧ (dn 8 = true → dn 9 = true → b10 ≠ b11) ∧ (dn 8 = true → dn 10 = false → Boxed W2 b10 22 (.slice none 0 0)) ∧ (dn 10 = true → Boxed W2 b10 22 (.slice (some ⟨g1, 0, none⟩) (lx + 1) (lx + 1))) ∧ (dn 9 = true → dn 11 = false → Boxed W2 b11 22 (.slice none 0 0)) ∧ (dn 11 = true → Boxed W2 b11 22 (.slice (some ⟨g2, 0, none⟩) (k + 2) (k + 2 + 1))) ∧ (dn 10 = true → dn 8 = true ∧ dn 2 = true) ∧ (dn 11 = true → dn 9 = true ∧ dn 10 = true ∧ dn 7 = true) ∧ (dn 7 = true → dn 5 = true))) := ⟨_, rfl⟩
 refine wpIn_region_conf I (by kernel_rfl) (by kernel_rfl) ?h0 ?hstep ?hend
 case h0 =>
  rw [HI.out]
  exact ⟨undef, undef, undef, undef, undef, undef, undef, undef, undef, undef, 0, 0, 0, 0, [], [], rfl, (fun h => by cases h), (fun h => by cases h), (fun h => by cases h), (fun h => by cases h), (fun h => by cases h), (fun h => by cases h), (fun h => by cases h), (fun h => by cases h), (fun h => by cases h), (fun h => by cases h), bR2, b92, hB3, (fun h => by cases h), (fun h => by cases h), (fun h => by cases h), (fun h => by cases h), (fun h => by cases h), (fun h => by cases h), (fun h => by cases h), (fun h => by cases h), (fun h => by cases h), (fun h => by cases h), (fun h => by cases h), (fun h => by cases h), (fun h => by cases h)⟩
 case hstep =>
  intro dn a' W2 hI i o ho hd hdep
  match i, ho with
  | 0, ho =>
   rw [HI.out] at hI
   obtain ⟨u10, u11, u47, u48, u49, u50, u51, u52, u53, u54, b10, b11, g1, g2, z1, z2, rfl, f0, f1, f2, f3, f4, f5, f6, f7, f8, f9, gR, g9, gB, gz1, gz2, gne, gb10, gb11, gbb, gA0, gA1, gC0, gC1, gd10, gd11, gd7⟩ := hI
   refine opIn_of_list ho ?_
   cases ho
   clear hdep
   gi_wp2
   rw [HI.out]
   exact ⟨_, _, _, _, _, _, _, _, _, _, b10, b11, g1, g2, z1, z2, rfl, fun _ => rfl, lf f1, lf f2, lf f3, lf f4, lf f5, lf f6, lf f7, lf f8, lf f9, gR, g9, gB, lf gz1, lf gz2, (fun h0 h1 => gne (lu h0) (lu h1)), lf gb10, lf gb11, (fun h0 h1 => gbb (lu h0) (lu h1)), (fun h0 h1 => gA0 (lu h0) (lu h1)), lf gA1, (fun h0 h1 => gC0 (lu h0) (lu h1)), lf gC1, (fun h0 => ⟨upd_mono (gd10 (lu h0)).1, upd_mono (gd10 (lu h0)).2⟩), (fun h0 => ⟨upd_mono (gd11 (lu h0)).1, upd_mono (gd11 (lu h0)).2.1, upd_mono (gd11 (lu h0)).2.2⟩), (fun h0 => upd_mono (gd7 (lu h0)))⟩
  | 1, ho =>
   rw [HI.out] at hI
   obtain ⟨u10, u11, u47, u48, u49, u50, u51, u52, u53, u54, b10, b11, g1, g2, z1, z2, rfl, f0, f1, f2, f3, f4, f5, f6, f7, f8, f9, gR, g9, gB, gz1, gz2, gne, gb10, gb11, gbb, gA0, gA1, gC0, gC1, gd10, gd11, gd7⟩ := hI
   refine opIn_of_list ho ?_
   cases ho
   clear hdep
   gi_wp2
   rw [HI.out]
   exact ⟨_, _, _, _, _, _, _, _, _, _, b10, b11, g1, g2, z1, z2, rfl, lf f0, fun _ => rfl, lf f2, lf f3, lf f4, lf f5, lf f6, lf f7, lf f8, lf f9, gR, g9, gB, lf gz1, lf gz2, (fun h0 h1 => gne (lu h0) (lu h1)), lf gb10, lf gb11, (fun h0 h1 => gbb (lu h0) (lu h1)), (fun h0 h1 => gA0 (lu h0) (lu h1)), lf gA1, (fun h0 h1 => gC0 (lu h0) (lu h1)), lf gC1, (fun h0 => ⟨upd_mono (gd10 (lu h0)).1, upd_mono (gd10 (lu h0)).2⟩), (fun h0 => ⟨upd_mono (gd11 (lu h0)).1, upd_mono (gd11 (lu h0)).2.1, upd_mono (gd11 (lu h0)).2.2⟩), (fun h0 => upd_mono (gd7 (lu h0)))⟩
  | 2, ho =>
   have e0 : dn 0 = true := hdep ⟨0, .data⟩ (by cases ho; simp) rfl
   have e1 : dn 1 = true := hdep ⟨1, .data⟩ (by cases ho; simp) rfl
   rw [HI.out] at hI
   obtain ⟨u10, u11, u47, u48, u49, u50, u51, u52, u53, u54, b10, b11, g1, g2, z1, z2, rfl, f0, f1, f2, f3, f4, f5, f6, f7, f8, f9, gR, g9, gB, gz1, gz2, gne, gb10, gb11, gbb, gA0, gA1, gC0, gC1, gd10, gd11, gd7⟩ := hI
   obtain rfl := f0 e0
   obtain rfl := f1 e1
   refine opIn_of_list ho ?_
   cases ho
   clear hdep
   gi_wp2_with (refine ⟨trivial, ?_⟩; gi_at_call 170; refine ((callsIn_wide (n := 8)).2 (shifted_some _ _ _ sh X W2 hX.lm (by omega) hsh ((hA.below gB).mono gB.size))).mono ?_; rintro e w3 ⟨zz, rfl, hown, hLz, hvz, hb3⟩)
   rw [HI.out]
   exact ⟨_, _, _, _, _, _, _, _, _, _, b10, b11, _, g2, zz, z2, rfl, fun _ => rfl, fun _ => rfl, fun _ => rfl, lf f3, lf f4, lf f5, lf f6, lf f7, lf f8, lf f9, gR.below hb3 gR.lt, g9.below hb3 g9.lt, gB.trans (hb3.mono gB.size), fun _ => ⟨hown.mono (by have := g9.lt; omega), hLz, hvz⟩, fun h0 => ⟨(gz2 (lu h0)).1.below hb3, (gz2 (lu h0)).2⟩, fun _ h1 => Nat.ne_of_gt (gz2 (lu h1)).1.lt, lf gb10, lf gb11, (fun h0 h1 => gbb (lu h0) (lu h1)), fun h0 h1 => (gA0 (lu h0) (lu h1)).below hb3 (gA0 (lu h0) (lu h1)).lt, (fun h0 => absurd (gd10 (lu h0)).2 (by rw [hd]; decide)), fun h0 h1 => (gC0 (lu h0) (lu h1)).below hb3 (gC0 (lu h0) (lu h1)).lt, fun h0 => (gC1 (lu h0)).below hb3 (gC1 (lu h0)).lt, (fun h0 => ⟨upd_mono (gd10 (lu h0)).1, upd_mono (gd10 (lu h0)).2⟩), (fun h0 => ⟨upd_mono (gd11 (lu h0)).1, upd_mono (gd11 (lu h0)).2.1, upd_mono (gd11 (lu h0)).2.2⟩), (fun h0 => upd_mono (gd7 (lu h0)))⟩
  | 3, ho =>
   rw [HI.out] at hI
   obtain ⟨u10, u11, u47, u48, u49, u50, u51, u52, u53, u54, b10, b11, g1, g2, z1, z2, rfl, f0, f1, f2, f3, f4, f5, f6, f7, f8, f9, gR, g9, gB, gz1, gz2, gne, gb10, gb11, gbb, gA0, gA1, gC0, gC1, gd10, gd11, gd7⟩ := hI
   refine opIn_of_list ho ?_
   cases ho
   clear hdep
   gi_wp2
   rw [HI.out]
   exact ⟨_, _, _, _, _, _, _, _, _, _, b10, b11, g1, g2, z1, z2, rfl, lf f0, lf f1, lf f2, fun _ => rfl, lf f4, lf f5, lf f6, lf f7, lf f8, lf f9, gR, g9, gB, lf gz1, lf gz2, (fun h0 h1 => gne (lu h0) (lu h1)), lf gb10, lf gb11, (fun h0 h1 => gbb (lu h0) (lu h1)), (fun h0 h1 => gA0 (lu h0) (lu h1)), lf gA1, (fun h0 h1 => gC0 (lu h0) (lu h1)), lf gC1, (fun h0 => ⟨upd_mono (gd10 (lu h0)).1, upd_mono (gd10 (lu h0)).2⟩), (fun h0 => ⟨upd_mono (gd11 (lu h0)).1, upd_mono (gd11 (lu h0)).2.1, upd_mono (gd11 (lu h0)).2.2⟩), (fun h0 => upd_mono (gd7 (lu h0)))⟩
  | 4, ho =>
   rw [HI.out] at hI
   obtain ⟨u10, u11, u47, u48, u49, u50, u51, u52, u53, u54, b10, b11, g1, g2, z1, z2, rfl, f0, f1, f2, f3, f4, f5, f6, f7, f8, f9, gR, g9, gB, gz1, gz2, gne, gb10, gb11, gbb, gA0, gA1, gC0, gC1, gd10, gd11, gd7⟩ := hI
   refine opIn_of_list ho ?_
   cases ho
   clear hdep
   gi_wp2
   rw [HI.out]
   exact ⟨_, _, _, _, _, _, _, _, _, _, b10, b11, g1, g2, z1, z2, rfl, lf f0, lf f1, lf f2, lf f3, fun _ => rfl, lf f5, lf f6, lf f7, lf f8, lf f9, gR, g9, gB, lf gz1, lf gz2, (fun h0 h1 => gne (lu h0) (lu h1)), lf gb10, lf gb11, (fun h0 h1 => gbb (lu h0) (lu h1)), (fun h0 h1 => gA0 (lu h0) (lu h1)), lf gA1, (fun h0 h1 => gC0 (lu h0) (lu h1)), lf gC1, (fun h0 => ⟨upd_mono (gd10 (lu h0)).1, upd_mono (gd10 (lu h0)).2⟩), (fun h0 => ⟨upd_mono (gd11 (lu h0)).1, upd_mono (gd11 (lu h0)).2.1, upd_mono (gd11 (lu h0)).2.2⟩), (fun h0 => upd_mono (gd7 (lu h0)))⟩
  | 5, ho =>
   have e3 : dn 3 = true := hdep ⟨3, .data⟩ (by cases ho; simp) rfl
   have e4 : dn 4 = true := hdep ⟨4, .data⟩ (by cases ho; simp) rfl
   have e2 : dn 2 = true := hdep ⟨2, .chain⟩ (by cases ho; simp) rfl
   rw [HI.out] at hI
   obtain ⟨u10, u11, u47, u48, u49, u50, u51, u52, u53, u54, b10, b11, g1, g2, z1, z2, rfl, f0, f1, f2, f3, f4, f5, f6, f7, f8, f9, gR, g9, gB, gz1, gz2, gne, gb10, gb11, gbb, gA0, gA1, gC0, gC1, gd10, gd11, gd7⟩ := hI
   obtain rfl := f3 e3
   obtain rfl := f4 e4
   obtain rfl := f2 e2
   refine opIn_of_list ho ?_
   cases ho
   clear hdep
   gi_wp2_with (refine ⟨trivial, ?_⟩; gi_at_call 170; refine ((callsIn_wide (n := 8)).2 (shifted_some _ _ _ sh Y W2 hY.lm (by omega) hsh ((hB.below gB).mono gB.size))).mono ?_; rintro e w3 ⟨zz, rfl, hown, hLz, hvz, hb3⟩)
   rw [HI.out]
   exact ⟨_, _, _, _, _, _, _, _, _, _, b10, b11, g1, _, z1, zz, rfl, lf f0, lf f1, fun _ => rfl, fun _ => rfl, fun _ => rfl, fun _ => rfl, lf f6, (fun h0 => absurd (gd7 (lu h0)) (by rw [hd]; decide)), lf f8, lf f9, gR.below hb3 gR.lt, g9.below hb3 g9.lt, gB.trans (hb3.mono gB.size), fun h0 => ⟨(gz1 (lu h0)).1.below hb3, (gz1 (lu h0)).2⟩, fun _ => ⟨hown.mono (by have := g9.lt; omega), hLz, hvz⟩, fun h0 _ => Nat.ne_of_lt (gz1 (lu h0)).1.lt, lf gb10, lf gb11, (fun h0 h1 => gbb (lu h0) (lu h1)), fun h0 h1 => (gA0 (lu h0) (lu h1)).below hb3 (gA0 (lu h0) (lu h1)).lt, fun h0 => (gA1 (lu h0)).below hb3 (gA1 (lu h0)).lt, fun h0 h1 => (gC0 (lu h0) (lu h1)).below hb3 (gC0 (lu h0) (lu h1)).lt, (fun h0 => absurd (gd7 (gd11 (lu h0)).2.2) (by rw [hd]; decide)), (fun h0 => ⟨upd_mono (gd10 (lu h0)).1, upd_mono (gd10 (lu h0)).2⟩), (fun h0 => ⟨upd_mono (gd11 (lu h0)).1, upd_mono (gd11 (lu h0)).2.1, upd_mono (gd11 (lu h0)).2.2⟩), (fun h0 => upd_mono (gd7 (lu h0)))⟩
  | 6, ho =>
   rw [HI.out] at hI
   obtain ⟨u10, u11, u47, u48, u49, u50, u51, u52, u53, u54, b10, b11, g1, g2, z1, z2, rfl, f0, f1, f2, f3, f4, f5, f6, f7, f8, f9, gR, g9, gB, gz1, gz2, gne, gb10, gb11, gbb, gA0, gA1, gC0, gC1, gd10, gd11, gd7⟩ := hI
   refine opIn_of_list ho ?_
   cases ho
   clear hdep
   have hc := g9.cell
   gi_wp2
   rw [HI.out]
   exact ⟨_, _, _, _, _, _, _, _, _, _, b10, b11, g1, g2, z1, z2, rfl, lf f0, lf f1, lf f2, lf f3, lf f4, lf f5, fun _ => rfl, lf f7, lf f8, lf f9, gR, g9, gB, lf gz1, lf gz2, (fun h0 h1 => gne (lu h0) (lu h1)), lf gb10, lf gb11, (fun h0 h1 => gbb (lu h0) (lu h1)), (fun h0 h1 => gA0 (lu h0) (lu h1)), lf gA1, (fun h0 h1 => gC0 (lu h0) (lu h1)), lf gC1, (fun h0 => ⟨upd_mono (gd10 (lu h0)).1, upd_mono (gd10 (lu h0)).2⟩), (fun h0 => ⟨upd_mono (gd11 (lu h0)).1, upd_mono (gd11 (lu h0)).2.1, upd_mono (gd11 (lu h0)).2.2⟩), (fun h0 => upd_mono (gd7 (lu h0)))⟩
  | 7, ho =>
   have e5 : dn 5 = true := hdep ⟨5, .data⟩ (by cases ho; simp) rfl
   have e6 : dn 6 = true := hdep ⟨6, .data⟩ (by cases ho; simp) rfl
   rw [HI.out] at hI
   obtain ⟨u10, u11, u47, u48, u49, u50, u51, u52, u53, u54, b10, b11, g1, g2, z1, z2, rfl, f0, f1, f2, f3, f4, f5, f6, f7, f8, f9, gR, g9, gB, gz1, gz2, gne, gb10, gb11, gbb, gA0, gA1, gC0, gC1, gd10, gd11, gd7⟩ := hI
   obtain rfl := f5 e5
   obtain rfl := f6 e6
   refine opIn_of_list ho ?_
   cases ho
   clear hdep
   gi_wp2
   rw [HI.out]
   exact ⟨_, _, _, _, _, _, _, _, _, _, b10, b11, g1, g2, z1, z2, rfl, lf f0, lf f1, lf f2, lf f3, lf f4, fun _ => rfl, fun _ => rfl, fun _ => rfl, lf f8, lf f9, gR, g9, gB, lf gz1, lf gz2, (fun h0 h1 => gne (lu h0) (lu h1)), lf gb10, lf gb11, (fun h0 h1 => gbb (lu h0) (lu h1)), (fun h0 h1 => gA0 (lu h0) (lu h1)), lf gA1, (fun h0 h1 => gC0 (lu h0) (lu h1)), lf gC1, (fun h0 => ⟨upd_mono (gd10 (lu h0)).1, upd_mono (gd10 (lu h0)).2⟩), (fun h0 => ⟨upd_mono (gd11 (lu h0)).1, upd_mono (gd11 (lu h0)).2.1, upd_mono (gd11 (lu h0)).2.2⟩), (fun _ => upd_mono e5)⟩
  | 8, ho =>
   rw [HI.out] at hI
   obtain ⟨u10, u11, u47, u48, u49, u50, u51, u52, u53, u54, b10, b11, g1, g2, z1, z2, rfl, f0, f1, f2, f3, f4, f5, f6, f7, f8, f9, gR, g9, gB, gz1, gz2, gne, gb10, gb11, gbb, gA0, gA1, gC0, gC1, gd10, gd11, gd7⟩ := hI
   refine opIn_of_list ho ?_
   cases ho
   clear hdep
   have h10 : dn 10 = false := by cases h : dn 10 with | false => rfl | true => exact absurd (gd10 h).1 (by rw [hd]; decide)
   have hb11 : dn 9 = true → W2.heap.size ≠ b11 := fun h => by cases h11 : dn 11 with | false => exact Nat.ne_of_gt (gC0 h h11).lt | true => exact Nat.ne_of_gt (gC1 h11).lt
   gi_wp2
   rw [HI.out]
   exact ⟨_, _, _, _, _, _, _, _, _, _, _, b11, g1, g2, z1, z2, rfl, lf f0, lf f1, lf f2, lf f3, lf f4, lf f5, lf f6, lf f7, fun _ => rfl, lf f9, gR.below ((Below.refl W2.heap.size W2).alloc (Nat.le_refl _) (.cells #[Value.slice none 0 0] 22)) gR.lt, g9.below ((Below.refl W2.heap.size W2).alloc (Nat.le_refl _) (.cells #[Value.slice none 0 0] 22)) g9.lt, gB.trans (((Below.refl W2.heap.size W2).alloc (Nat.le_refl _) (.cells #[Value.slice none 0 0] 22)).mono gB.size), fun h0 => ⟨(gz1 (lu h0)).1.below ((Below.refl W2.heap.size W2).alloc (Nat.le_refl _) (.cells #[Value.slice none 0 0] 22)), (gz1 (lu h0)).2⟩, fun h0 => ⟨(gz2 (lu h0)).1.below ((Below.refl W2.heap.size W2).alloc (Nat.le_refl _) (.cells #[Value.slice none 0 0] 22)), (gz2 (lu h0)).2⟩, (fun h0 h1 => gne (lu h0) (lu h1)), fun _ => (by have := g9.lt; omega), lf gb11, fun _ h1 => hb11 (lu h1), fun _ _ => Boxed.new _ _ _, fun h0 => by rw [upd_other (by decide)] at h0; exact absurd h0 (by rw [h10]; decide), fun h0 h1 => (gC0 (lu h0) (lu h1)).below ((Below.refl W2.heap.size W2).alloc (Nat.le_refl _) (.cells #[Value.slice none 0 0] 22)) (gC0 (lu h0) (lu h1)).lt, fun h0 => (gC1 (lu h0)).below ((Below.refl W2.heap.size W2).alloc (Nat.le_refl _) (.cells #[Value.slice none 0 0] 22)) (gC1 (lu h0)).lt, (fun h0 => ⟨upd_mono (gd10 (lu h0)).1, upd_mono (gd10 (lu h0)).2⟩), (fun h0 => ⟨upd_mono (gd11 (lu h0)).1, upd_mono (gd11 (lu h0)).2.1, upd_mono (gd11 (lu h0)).2.2⟩), (fun h0 => upd_mono (gd7 (lu h0)))⟩
  | 9, ho =>
   rw [HI.out] at hI
   obtain ⟨u10, u11, u47, u48, u49, u50, u51, u52, u53, u54, b10, b11, g1, g2, z1, z2, rfl, f0, f1, f2, f3, f4, f5, f6, f7, f8, f9, gR, g9, gB, gz1, gz2, gne, gb10, gb11, gbb, gA0, gA1, gC0, gC1, gd10, gd11, gd7⟩ := hI
   refine opIn_of_list ho ?_
   cases ho
   clear hdep
   have h11 : dn 11 = false := by cases h : dn 11 with | false => rfl | true => exact absurd (gd11 h).1 (by rw [hd]; decide)
   have hb10 : dn 8 = true → b10 ≠ W2.heap.size := fun h => by cases h10 : dn 10 with | false => exact Nat.ne_of_lt (gA0 h h10).lt | true => exact Nat.ne_of_lt (gA1 h10).lt
   gi_wp2
   rw [HI.out]
   exact ⟨_, _, _, _, _, _, _, _, _, _, b10, _, g1, g2, z1, z2, rfl, lf f0, lf f1, lf f2, lf f3, lf f4, lf f5, lf f6, lf f7, lf f8, fun _ => rfl, gR.below ((Below.refl W2.heap.size W2).alloc (Nat.le_refl _) (.cells #[Value.slice none 0 0] 22)) gR.lt, g9.below ((Below.refl W2.heap.size W2).alloc (Nat.le_refl _) (.cells #[Value.slice none 0 0] 22)) g9.lt, gB.trans (((Below.refl W2.heap.size W2).alloc (Nat.le_refl _) (.cells #[Value.slice none 0 0] 22)).mono gB.size), fun h0 => ⟨(gz1 (lu h0)).1.below ((Below.refl W2.heap.size W2).alloc (Nat.le_refl _) (.cells #[Value.slice none 0 0] 22)), (gz1 (lu h0)).2⟩, fun h0 => ⟨(gz2 (lu h0)).1.below ((Below.refl W2.heap.size W2).alloc (Nat.le_refl _) (.cells #[Value.slice none 0 0] 22)), (gz2 (lu h0)).2⟩, (fun h0 h1 => gne (lu h0) (lu h1)), lf gb10, fun _ => (by have := g9.lt; omega), fun h0 _ => hb10 (lu h0), fun h0 h1 => (gA0 (lu h0) (lu h1)).below ((Below.refl W2.heap.size W2).alloc (Nat.le_refl _) (.cells #[Value.slice none 0 0] 22)) (gA0 (lu h0) (lu h1)).lt, fun h0 => (gA1 (lu h0)).below ((Below.refl W2.heap.size W2).alloc (Nat.le_refl _) (.cells #[Value.slice none 0 0] 22)) (gA1 (lu h0)).lt, fun _ _ => Boxed.new _ _ _, fun h0 => by rw [upd_other (by decide)] at h0; exact absurd h0 (by rw [h11]; decide), (fun h0 => ⟨upd_mono (gd10 (lu h0)).1, upd_mono (gd10 (lu h0)).2⟩), (fun h0 => ⟨upd_mono (gd11 (lu h0)).1, upd_mono (gd11 (lu h0)).2.1, upd_mono (gd11 (lu h0)).2.2⟩), (fun h0 => upd_mono (gd7 (lu h0)))⟩
  | 10, ho =>
   have e8 : dn 8 = true := hdep ⟨8, .data⟩ (by cases ho; simp) rfl
   have e2 : dn 2 = true := hdep ⟨2, .data⟩ (by cases ho; simp) rfl
   rw [HI.out] at hI
   obtain ⟨u10, u11, u47, u48, u49, u50, u51, u52, u53, u54, b10, b11, g1, g2, z1, z2, rfl, f0, f1, f2, f3, f4, f5, f6, f7, f8, f9, gR, g9, gB, gz1, gz2, gne, gb10, gb11, gbb, gA0, gA1, gC0, gC1, gd10, gd11, gd7⟩ := hI
   obtain rfl := f8 e8
   obtain rfl := f2 e2
   refine opIn_of_list ho ?_
   cases ho
   clear hdep
   have hc := (gA0 e8 hd).cell
   have hf := (gA0 e8 hd).frozen
   have h11 : dn 11 = false := by cases h : dn 11 with | false => rfl | true => exact absurd (gd11 h).2.1 (by rw [hd]; decide)
   gi_wp2
   rw [HI.out]
   exact ⟨_, _, _, _, _, _, _, _, _, _, b10, b11, g1, g2, z1, z2, rfl, lf f0, lf f1, fun _ => rfl, lf f3, lf f4, lf f5, lf f6, lf f7, fun _ => rfl, lf f9, gR.other (by have := gb10 e8; have := hB2.size; omega) _, g9.other (by have := gb10 e8; omega) _, gB.setCell (p := ⟨b10, 0, none⟩) (by have := gb10 e8; have := hB2.size; show w.heap.size ≤ b10; omega) _, fun _ => ⟨(gz1 e2).1.box (gA0 e8 hd) (by decide) _, (gz1 e2).2⟩, fun h0 => ⟨(gz2 (lu h0)).1.box (gA0 e8 hd) (by decide) _, (gz2 (lu h0)).2⟩, (fun h0 h1 => gne (lu h0) (lu h1)), lf gb10, lf gb11, (fun h0 h1 => gbb (lu h0) (lu h1)), (fun _ h1 => by rw [upd_same] at h1; cases h1), fun _ => (gA0 e8 hd).set _, fun h0 h1 => (gC0 (lu h0) (lu h1)).other (fun e => gbb e8 (lu h0) e.symm) _, fun h0 => absurd (lu h0) (by rw [h11]; decide), (fun _ => ⟨upd_mono e8, upd_mono e2⟩), fun h0 => absurd (lu h0) (by rw [h11]; decide), (fun h0 => upd_mono (gd7 (lu h0)))⟩
  | 11, ho =>
   have e9 : dn 9 = true := hdep ⟨9, .data⟩ (by cases ho; simp) rfl
   have e7 : dn 7 = true := hdep ⟨7, .data⟩ (by cases ho; simp) rfl
   have e10 : dn 10 = true := hdep ⟨10, .chain⟩ (by cases ho; simp) rfl
   rw [HI.out] at hI
   obtain ⟨u10, u11, u47, u48, u49, u50, u51, u52, u53, u54, b10, b11, g1, g2, z1, z2, rfl, f0, f1, f2, f3, f4, f5, f6, f7, f8, f9, gR, g9, gB, gz1, gz2, gne, gb10, gb11, gbb, gA0, gA1, gC0, gC1, gd10, gd11, gd7⟩ := hI
   obtain rfl := f9 e9
   obtain rfl := f7 e7
   refine opIn_of_list ho ?_
   cases ho
   clear hdep
   have hc := (gC0 e9 hd).cell
   have hf := (gC0 e9 hd).frozen
   have HB8 := Lib.hid (gd10 e10).1
   have E7 := Lib.hid e7
   have E10 := Lib.hid e10
   clear e7 e10
   gi_wp2
   rw [HI.out]
   exact ⟨_, _, _, _, _, _, _, _, _, _, b10, b11, g1, g2, z1, z2, rfl, lf f0, lf f1, lf f2, lf f3, lf f4, lf f5, lf f6, fun _ => rfl, lf f8, fun _ => rfl, gR.other (by have := gb11 e9; have := hB2.size; omega) _, g9.other (by have := gb11 e9; omega) _, gB.setCell (p := ⟨b11, 0, none⟩) (by have := gb11 e9; have := hB2.size; show w.heap.size ≤ b11; omega) _, fun h0 => ⟨(gz1 (lu h0)).1.box (gC0 e9 hd) (by decide) _, (gz1 (lu h0)).2⟩, fun h0 => ⟨(gz2 (lu h0)).1.box (gC0 e9 hd) (by decide) _, (gz2 (lu h0)).2⟩, (fun h0 h1 => gne (lu h0) (lu h1)), lf gb10, lf gb11, (fun h0 h1 => gbb (lu h0) (lu h1)), fun h0 h1 => (gA0 (lu h0) (lu h1)).other (gbb (lu h0) e9) _, fun h0 => (gA1 (lu h0)).other (gbb HB8.out e9) _, (fun _ h1 => by rw [upd_same] at h1; cases h1), fun _ => (gC0 e9 hd).set _, (fun h0 => ⟨upd_mono (gd10 (lu h0)).1, upd_mono (gd10 (lu h0)).2⟩), (fun _ => ⟨upd_mono e9, upd_mono E10.out, upd_mono E7.out⟩), (fun h0 => upd_mono (gd7 (lu h0)))⟩
  | k + 12, ho => simp at ho
 case hend =>
  intro dn a' W2 hI hall
  rw [HI.out] at hI
  obtain ⟨u10, u11, u47, u48, u49, u50, u51, u52, u53, u54, b10, b11, g1, g2, z1, z2, rfl, f0, f1, f2, f3, f4, f5, f6, f7, f8, f9, gR, g9, gB, gz1, gz2, gne, gb10, gb11, gbb, gA0, gA1, gC0, gC1, gd10, gd11, gd7⟩ := hI
  obtain rfl := f0 (hall 0 (by decide))
  obtain rfl := f1 (hall 1 (by decide))
  obtain rfl := f2 (hall 2 (by decide))
  obtain rfl := f3 (hall 3 (by decide))
  obtain rfl := f4 (hall 4 (by decide))
  obtain rfl := f5 (hall 5 (by decide))
  obtain rfl := f6 (hall 6 (by decide))
  obtain rfl := f7 (hall 7 (by decide))
  obtain rfl := f8 (hall 8 (by decide))
  obtain rfl := f9 (hall 9 (by decide))
  obtain ⟨hz1, hLz1, hvz1⟩ := gz1 (hall 2 (by decide))
  obtain ⟨hz2, hLz2, hvz2⟩ := gz2 (hall 5 (by decide))
  have hgne := gne (hall 2 (by decide)) (hall 5 (by decide))
  have bU := gA1 (hall 10 (by decide))
  have bV := gC1 (hall 11 (by decide))
  have hs1 := bR1.lt
  have hs10 := gb10 (hall 8 (by decide))
  have hs11 := gb11 (hall 9 (by decide))
  clear gz1 gz2 gne gb10 gb11 gbb gA0 gA1 gC0 gC1 gd10 gd11 gd7 hall f0 f1 f2 f3 f4 f5 f6 f7 f8 f9 hA1 hB1 hB2 bR1 hcy1 bR2 b92 hB3 HI
  obtain ⟨r, rfl⟩ : ∃ r, lx = k + 2 + r := ⟨lx - (k + 2), by omega⟩
  have hcR := gR.cell
  have hfR := gR.frozen
  have hc9 := g9.cell
  have hcU := bU.cell
  have hcV := bV.cell
  obtain ⟨w3, hrun, hown3, hgrow3⟩ := run_make_full (P := Tryz.prog) W2 w.heap.size 22 48 i0 (.int .u16 0) 1 Tryz.underlying22 hi hz0 hz1' .i64 .i64 (r + 1) (by rw [hz2']; omega) (by unfold maxLen; omega) gB.size
  rw [made16] at hown3
  have hB3 : Below W2.heap.size W2 w3 := (Below.refl _ _).grown hgrow3 (Nat.le_refl _) (fun k h => by cases h)
  have hq3 : Own16 w.heap.size w3 (.slice (some ⟨W2.heap.size, 0, none⟩) (r + 1) (r + 1)) (List.replicate (r + 1) 0) := by unfold Own16; rw [List.length_replicate]; exact hown3
  have e : ((r + 1 : Nat) : Int) = (k : Int) + 2 + (r : Int) + 1 - ((k : Int) + 2) := by omega
  rw [e] at hrun
  clear e
  have bR3 := gR.kept hgrow3 (fun h => by cases h)
  have hcR3 := bR3.cell
  have hfR3 := bR3.frozen
  gi_wp2_with (refine ⟨trivial, ?_⟩; gi_at_call 145; refine ((callsIn_wide (n := 8)).2 (down_any _ _ _ _)).mono ?_; rintro e w' ⟨rfl, rfl⟩)
  obtain ⟨Qv, hQv⟩ : ∃ Qv, Qv = Value.slice (some ⟨W2.heap.size, 0, none⟩) (r + 1) (r + 1) := ⟨_, rfl⟩
  rw [← hQv] at hq3
  have hqL := hq3.lt' hQv
  have bR4 := (bR3.set Qv).alloc (.cells #[Qv] 22)
  have g94 := ((g9.kept hgrow3 (fun h => by cases h)).otherAt (a := ⟨w.heap.size, 0, none⟩) (by simp only [ne_eq]; omega) Qv).alloc (.cells #[Qv] 22)
  have bU4 := ((bU.kept hgrow3 (fun h => by cases h)).otherAt (a := ⟨w.heap.size, 0, none⟩) (by simp only [ne_eq]; omega) Qv).alloc (.cells #[Qv] 22)
  have bV4 := ((bV.kept hgrow3 (fun h => by cases h)).otherAt (a := ⟨w.heap.size, 0, none⟩) (by simp only [ne_eq]; omega) Qv).alloc (.cells #[Qv] 22)
  have bA4 : Boxed ((w3.setCell ⟨w.heap.size, 0, none⟩ Qv).alloc (.cells #[Qv] 22)) w3.heap.size 22 Qv := by have h := Boxed.new (w3.setCell ⟨w.heap.size, 0, none⟩ Qv) 22 Qv; simpa using h
  have hz14 := ((hz1.below hB3).box bR3 (by decide) Qv).alloc (.cells #[Qv] 22)
  have hz24 := ((hz2.below hB3).box bR3 (by decide) Qv).alloc (.cells #[Qv] 22)
  have hq4 := (hq3.box bR3 (by decide) Qv).alloc (.cells #[Qv] 22)
  have hB4 : Below w.heap.size w ((w3.setCell ⟨w.heap.size, 0, none⟩ Qv).alloc (.cells #[Qv] 22)) := ((gB.trans (hB3.mono gB.size)).setCell (p := ⟨w.heap.size, 0, none⟩) (Nat.le_refl _) Qv).alloc (by have := gB.size; have := hB3.size; simp; omega) _
  have hz4 : ((w3.setCell ⟨w.heap.size, 0, none⟩ Qv).alloc (.cells #[Qv] 22)).heap.size = w3.heap.size + 1 := by simp
  subst hQv
  have hg1 := hz1.lt
  have hg2 := hz2.lt
  clear hrun hown3 hq3 bR3 hcR3 hfR3 hcR hfR hc9 hcU hcV gR g9 bU bV hz1 hz2 bR0
  generalize (w3.setCell ⟨w.heap.size, 0, none⟩ (.slice (some ⟨W2.heap.size, 0, none⟩) (r + 1) (r + 1))).alloc (.cells #[.slice (some ⟨W2.heap.size, 0, none⟩) (r + 1) (r + 1)] 22) = W0 at *
  have hs0 : w.heap.size ≤ W2.heap.size := gB.size
  obtain ⟨hG1, hG1'⟩ : g1 < W2.heap.size ∧ g2 < W2.heap.size := ⟨hg1, hg2⟩
  generalize W2.heap.size = gq at *
  generalize w3.heap.size = bq at *
  have hl1 : z1.length = k + 2 + r + 1 := hz14.len.1.symm
  have hl2 : z2.length = k + 3 := hz24.len.1.symm
  obtain ⟨hV1, hV2, hV3, hV4⟩ := dtop (k := k) hY.lm HY.out.symm hLz2 hl2 (pow_pos2 sh) hvz2 hsh1 (pow_up hsh hsh2)
  have hst := dstart hX.lm HX.out.symm hLz1 hl1 hsh hvz1 hV3
  have hm0 : 0 < m := by
   have h1 := hY.len_ge (by intro e; have := HY.out; rw [e] at this; simp at this)
   have := pow_pos' (Y.length - 1)
   omega
  obtain ⟨V, hV⟩ : ∃ V, V = z2.take (k + 2) := ⟨_, rfl⟩
  have hVl : V.length = k + 2 := by rw [hV, List.length_take]; omega
  have hVt : V[k + 1]?.getD 0 = z2[k + 1]?.getD 0 := by rw [hV, List.getElem?_take_of_lt (by omega)]
  have hVL : Lm V := by rw [hV]; exact hLz2.take _
  rw [← hV] at hV1
  rw [← hV1] at hV3 hV4 hst
  rw [← hVt] at hV2
  clear hVt
  have HV1 := Lib.hid hV1
  have HVL := Lib.hid hVl
  have HL1 := Lib.hid hl1
  have HST := Lib.hid hst
  have HV := Lib.hid hV
  have HVZ := Lib.hid hvz1
  clear hV hVl hl1 hl2 hst hV1 hvz1 hvz2
  refine' wpIn_rangeK (n := 9) (gf := 176) (lb := #[.pointer (some ⟨bq, 0, none⟩)]) (N := r + 1) rfl (by omega) rfl trivial (enters_of Tryz.func176 (by kernel_rfl) rfl)
   (by
    have h := downw_seq Fence.wide 8 trivial rfl (by omega) bq w.heap.size gq (r + 1) (List.replicate (r + 1) 0) (by simp; omega) W0 (by omega) (by simpa using bA4) (fun j hj => (hq4.at j hj).1)
    simpa using h) keepQ_t (keepQ_b (by omega) (by omega)) (fun _ => rfl)
   (fun j W => ∃ A S C Q : List Int, A.length = r + 1 - j ∧ S.length = k + 2 ∧ Lm A ∧ Lm S ∧ Lm Q ∧ Q.length = r + 1 ∧ val S < val V ∧ val z1 = val A + 65536 ^ (r + 1 - j) * (val S + val V * val (Q.drop (r + 1 - j))) ∧
    Own16 (w1.heap.size + 1) W (.slice (some ⟨g1, 0, none⟩) (k + 2 + r + 1) (k + 2 + r + 1)) (A ++ S ++ C) ∧ Own16 w.heap.size W (.slice (some ⟨gq, 0, none⟩) (r + 1) (r + 1)) Q ∧ Own16 (w1.heap.size + 1) W (.slice (some ⟨g2, 0, none⟩) (k + 2 + 1) (k + 2 + 1)) z2 ∧
    Boxed W w.heap.size 22 (.slice (some ⟨gq, 0, none⟩) (r + 1) (r + 1)) ∧ Boxed W w1.heap.size 3 (.int .i64 ((k : Int) + 2)) ∧ Boxed W b10 22 (.slice (some ⟨g1, 0, none⟩) (k + 2 + r + 1) (k + 2 + r + 1)) ∧ Boxed W b11 22 (.slice (some ⟨g2, 0, none⟩) (k + 2) (k + 2 + 1)) ∧ Boxed W bq 22 (.slice (some ⟨gq, 0, none⟩) (r + 1) (r + 1)) ∧ Below w.heap.size w W)
   (fun c _ W => False)
   ?hI ?hIx ?h0 _ ?assign ?body ?done ?stop
  case hI =>
   rintro j W W' row ⟨A, S, C, Q, h1, h2, h3, h4, h5, h6, h7, h8, o1, o2, o3, c1, c2, c3, c4, c5, hB⟩ hg hr
   have hk : ∀ {B t : Nat} {v : Value}, Boxed W B t v → Boxed W' B t v := fun hb => hb.kept hg (fun e => by obtain ⟨_, o, ho, hc⟩ := hr _ e.symm; rw [show W.heap[_]? = _ from hb] at ho; cases ho; cases hc)
   exact ⟨A, S, C, Q, h1, h2, h3, h4, h5, h6, h7, h8, o1.keptFrom hg (fun r e => (hr r e).2), o2.keptFrom hg (fun r e => (hr r e).2), o3.keptFrom hg (fun r e => (hr r e).2), hk c1, hk c2, hk c3, hk c4, hk c5, hB.grown hg (by have := hB.size; omega) (fun k e => by have := (hr k e).1; have := hB4.size; omega)⟩
  case hIx => exact fun c => ownFrom_pure _ _
  case h0 =>
   refine ⟨z1.take (r + 1), z1.drop (r + 1), [], List.replicate (r + 1) 0, by have := HL1.out; rw [List.length_take]; omega, by have := HL1.out; rw [List.length_drop]; omega, hLz1.take _, hLz1.drop _, Lm.replicate _, by simp, HST.out, ?_, by simpa using hz14, hq4, hz24, bR4, g94, bU4, bV4, bA4, hB4⟩
   rw [Nat.sub_zero, List.drop_eq_nil_of_le (show (List.replicate (r + 1) (0 : Int)).length ≤ r + 1 by simp)]
   have h := val_split z1 (r + 1)
   rw [Nat.min_eq_left (by have := HL1.out; omega)] at h
   rw [h]; simp [val]
  case assign =>
   intro l x W K hK
   simp only [downs]
   gi_wp2
   exact hK
  case body =>
   rintro l j W ⟨A, S, C, Q, h1, h2, h3, h4, h5, h6, h7, h8, o1, o2, o3, c1, c2, c3, c4, c5, hB⟩ hj
   obtain ⟨ix, hi⟩ : ∃ ix, ix = r - j := ⟨_, rfl⟩
   have hi2 : r + 1 - (j + 1) = ix := by omega
   have hi3 : r + 1 - j = ix + 1 := by omega
   have hir : ix ≤ r := by omega
   have hji : ix + j = r := by omega
   rw [hi3] at h1 h8
   have hAA : A = A.take ix ++ [A[ix]?.getD 0] := by rw [← take_snoc (by omega), List.take_of_length_le (by omega)]
   obtain ⟨S1, hS1⟩ : ∃ S1, S1 = A[ix]?.getD 0 :: S := ⟨_, rfl⟩
   have hLS1 : Lm S1 := by rw [hS1]; exact Lm.cons (h3.getD ix) h4
   have hS1L : S1.length = k + 3 := by rw [hS1, List.length_cons, h2]
   have hlt : val S1 < 65536 * val V := by rw [hS1]; exact dround_lt h3 h7
   have o1' : Own16 (w1.heap.size + 1) W (.slice (some ⟨g1, 0, none⟩) (k + 2 + r + 1) (k + 2 + r + 1)) (A.take ix ++ S1 ++ C) := by
    have e : A.take ix ++ S1 ++ C = A ++ S ++ C := by
     conv => rhs; rw [hAA]
     rw [hS1]; simp
    rw [e]; exact o1
   clear o1
   have o1 := o1'
   have HS1 := Lib.hid hS1
   have HS1L := Lib.hid hS1L
   have HLT := Lib.hid hlt
   have HAL := Lib.hid h1
   have HQL := Lib.hid h6
   have HZ := Lib.hid h8
   have HI2 := Lib.hid hi2
   have HI := Lib.hid hi
   have HJI := Lib.hid hji
   have hVp : 0 < val V := by have := pow_pos' (k + 1); omega
   clear o1' hAA hS1 hS1L hlt h1 h2 h6 h8 hi2 hi3 hji
   rw [← hi]
   clear hi
   gi_wp2
   obtain ⟨I9, HI9⟩ : ∃ I : (Nat → Bool) → Act → World → Prop, Hid (I = (fun dn a' W5 => ∃ u64 u65 u66 u67 u68 u69 u70 u71 u72 u73 u74 u75 : Value, a' = { tmps := #[.slice px (k + 2 + r) cx, .slice (some ⟨by', oy, none⟩) (k + 2) cy, undef, undef, .pointer (some ⟨w.heap.size, 0, none⟩), .slice none 0 0, undef, undef, .int .i64 (sh : Int), .pointer (some ⟨w1.heap.size, 0, none⟩), .pointer (some ⟨b10, 0, none⟩), .pointer (some ⟨b11, 0, none⟩), .int .i64 (ix : Int), undef, undef, .slice px (k + 2 + r) cx, .slice (some ⟨by', oy, none⟩) (k + 2) cy, .int .i64 (cmpI n m), .bool (decide (cmpI n m < 0)), undef, undef, .slice (some ⟨by', oy, none⟩) (k + 2) cy, .int .i64 ((k : Int) + 2), .bool false, undef, undef, undef, undef, undef, undef, undef, undef, undef, undef, undef, undef, undef, undef, .slice (some ⟨by', oy, none⟩) (k + 2) cy, .slice (some ⟨by', oy, none⟩) (k + 2) cy, .int .i64 ((k : Int) + 2), .int .i64 ((k : Int) + 2 - 1), .pointer (some ⟨by', oy + (k + 1), none⟩), .int .u16 (Y[k + 1]?.getD 0), .int .i64 (sh : Int), .slice (some ⟨by', oy, none⟩) (k + 2) cy, .int .i64 ((k : Int) + 2), .slice px (k + 2 + r) cx, .int .i64 (sh : Int), .slice (some ⟨g1, 0, none⟩) (k + 2 + r + 1) (k + 2 + r + 1), .slice (some ⟨by', oy, none⟩) (k + 2) cy, .int .i64 (sh : Int), .slice (some ⟨g2, 0, none⟩) (k + 2 + 1) (k + 2 + 1), .int .i64 ((k : Int) + 2), .slice (some ⟨g2, 0, none⟩) (k + 2) (k + 2 + 1), .slice (some ⟨g1, 0, none⟩) (k + 2 + r + 1) (k + 2 + r + 1), .int .i64 ((k : Int) + 2 + (r : Int) + 1), .int .i64 ((k : Int) + 2), .int .i64 ((k : Int) + 2 + (r : Int) + 1 - ((k : Int) + 2)), .slice (some ⟨gq, 0, none⟩) (r + 1) (r + 1), .slice (some ⟨gq, 0, none⟩) (r + 1) (r + 1), .func (Fn.func 176) #[] #[.pointer (some ⟨bq, 0, none⟩)], .int .i64 (ix : Int), .int .u16 ((List.replicate (r + 1) (0 : Int))[ix]?.getD 0), u64, u65, u66, u67, u68, u69, u70, u71, u72, u73, u74, u75, undef, undef, undef, undef, undef, undef, undef, undef, undef, undef, undef, undef, undef], defers := [] } ∧ (dn 0 = true → u64 = .slice (some ⟨gq, 0, none⟩) (r + 1) (r + 1)) ∧ (dn 1 = true → u65 = .int .i64 (ix : Int)) ∧ (dn 2 = true → u66 = .slice (some ⟨g1, 0, none⟩) (k + 2 + r + 1) (k + 2 + r + 1)) ∧ (dn 3 = true → u67 = .int .i64 (ix : Int)) ∧ (dn 4 = true → u68 = .int .i64 (ix : Int)) ∧ (dn 5 = true → u69 = .int .i64 ((k : Int) + 2)) ∧ (dn 6 = true → u70 = .int .i64 ((ix : Int) + ((k : Int) + 2))) ∧ (dn 7 = true → u71 = .int .i64 ((ix : Int) + ((k : Int) + 2) + 1)) ∧ (dn 8 = true → u72 = .slice (some ⟨g1, ix, none⟩) (k + 3) (k + 2 + r + 1 - ix)) ∧ (dn 9 = true → u73 = .slice (some ⟨g2, 0, none⟩) (k + 2) (k + 2 + 1)) ∧ (dn 10 = true → u74 = .int .u16 (val S1 / val V)) ∧ (dn 11 = true → u75 = .pointer (some ⟨gq, ix, none⟩)) ∧ (∃ U, Own16 (w1.heap.size + 1) W5 (.slice (some ⟨g1, 0, none⟩) (k + 2 + r + 1) (k + 2 + r + 1)) U ∧ (dn 10 = false → U = A.take ix ++ S1 ++ C) ∧ (dn 10 = true → ∃ S' : List Int, Lm S' ∧ S'.length = k + 3 ∧ val S' = val S1 % val V ∧ U = A.take ix ++ S' ++ C)) ∧ (∃ Q', Own16 w.heap.size W5 (.slice (some ⟨gq, 0, none⟩) (r + 1) (r + 1)) Q' ∧ (dn 12 = true → Q' = Q.set ix (val S1 / val V)) ∧ (dn 12 = false → Q' = Q)) ∧ Own16 (w1.heap.size + 1) W5 (.slice (some ⟨g2, 0, none⟩) (k + 2 + 1) (k + 2 + 1)) z2 ∧ Boxed W5 w.heap.size 22 (.slice (some ⟨gq, 0, none⟩) (r + 1) (r + 1)) ∧ Boxed W5 w1.heap.size 3 (.int .i64 ((k : Int) + 2)) ∧ Boxed W5 b10 22 (.slice (some ⟨g1, 0, none⟩) (k + 2 + r + 1) (k + 2 + r + 1)) ∧ Boxed W5 b11 22 (.slice (some ⟨g2, 0, none⟩) (k + 2) (k + 2 + 1)) ∧ Boxed W5 bq 22 (.slice (some ⟨gq, 0, none⟩) (r + 1) (r + 1)) ∧ Below w.heap.size w W5 ∧ KeepsFrom W0.heap.size W W5 ∧ KeepQ w.heap.size bq 22 gq (r + 1) j W W5)) := ⟨_, rfl⟩
   refine wpIn_region_conf I9 (by kernel_rfl) (by kernel_rfl) ?h09 ?hstep9 ?hend9
   case h09 =>
    rw [HI9.out]
    exact ⟨undef, undef, undef, undef, undef, undef, undef, undef, undef, undef, undef, undef, rfl, (fun h => by cases h), (fun h => by cases h), (fun h => by cases h), (fun h => by cases h), (fun h => by cases h), (fun h => by cases h), (fun h => by cases h), (fun h => by cases h), (fun h => by cases h), (fun h => by cases h), (fun h => by cases h), (fun h => by cases h), ⟨_, o1, fun _ => rfl, (fun h => by cases h)⟩, ⟨Q, o2, (fun h => by cases h), fun _ => rfl⟩, o3, c1, c2, c3, c4, c5, hB.drew, (KeepsOthers.drew _).from _, keepQ_t j (KeepQ.refl _ _ _ _ _ _ _) ⟨⟨(Below.refl _ _).drew, fun _ h => h⟩, fun _ _ => rfl⟩⟩
   case hstep9 =>
    intro dn a' W5 hI i o ho hd hdep
    match i, ho with
    | 0, ho =>
     rw [HI9.out] at hI
     obtain ⟨u64, u65, u66, u67, u68, u69, u70, u71, u72, u73, u74, u75, rfl, f0, f1, f2, f3, f4, f5, f6, f7, f8, f9, f10, f11, ⟨U, gU, gu0, gu1⟩, ⟨Q', gQ, gq1, gq0⟩, gv, c1, c2, c3, c4, c5, gB, gF, gK⟩ := hI
     refine opIn_of_list ho ?_
     cases ho
     clear hdep
     have hc := c1.cell
     gi_wp2
     rw [HI9.out]
     exact ⟨_, _, _, _, _, _, _, _, _, _, _, _, rfl, fun _ => rfl, lf f1, lf f2, lf f3, lf f4, lf f5, lf f6, lf f7, lf f8, lf f9, lf f10, lf f11, ⟨U, gU, fun h => gu0 (by simpa [upd] using h), fun h => gu1 (by simpa [upd] using h)⟩, ⟨Q', gQ, fun h => gq1 (by simpa [upd] using h), fun h => gq0 (by simpa [upd] using h)⟩, gv, c1, c2, c3, c4, c5, gB, gF, gK⟩
    | 1, ho =>
     rw [HI9.out] at hI
     obtain ⟨u64, u65, u66, u67, u68, u69, u70, u71, u72, u73, u74, u75, rfl, f0, f1, f2, f3, f4, f5, f6, f7, f8, f9, f10, f11, ⟨U, gU, gu0, gu1⟩, ⟨Q', gQ, gq1, gq0⟩, gv, c1, c2, c3, c4, c5, gB, gF, gK⟩ := hI
     refine opIn_of_list ho ?_
     cases ho
     clear hdep
     gi_wp2
     rw [HI9.out]
     exact ⟨_, _, _, _, _, _, _, _, _, _, _, _, rfl, lf f0, fun _ => rfl, lf f2, lf f3, lf f4, lf f5, lf f6, lf f7, lf f8, lf f9, lf f10, lf f11, ⟨U, gU, fun h => gu0 (by simpa [upd] using h), fun h => gu1 (by simpa [upd] using h)⟩, ⟨Q', gQ, fun h => gq1 (by simpa [upd] using h), fun h => gq0 (by simpa [upd] using h)⟩, gv, c1, c2, c3, c4, c5, gB, gF, gK⟩
    | 2, ho =>
     rw [HI9.out] at hI
     obtain ⟨u64, u65, u66, u67, u68, u69, u70, u71, u72, u73, u74, u75, rfl, f0, f1, f2, f3, f4, f5, f6, f7, f8, f9, f10, f11, ⟨U, gU, gu0, gu1⟩, ⟨Q', gQ, gq1, gq0⟩, gv, c1, c2, c3, c4, c5, gB, gF, gK⟩ := hI
     refine opIn_of_list ho ?_
     cases ho
     clear hdep
     have hc := c3.cell
     gi_wp2
     rw [HI9.out]
     exact ⟨_, _, _, _, _, _, _, _, _, _, _, _, rfl, lf f0, lf f1, fun _ => rfl, lf f3, lf f4, lf f5, lf f6, lf f7, lf f8, lf f9, lf f10, lf f11, ⟨U, gU, fun h => gu0 (by simpa [upd] using h), fun h => gu1 (by simpa [upd] using h)⟩, ⟨Q', gQ, fun h => gq1 (by simpa [upd] using h), fun h => gq0 (by simpa [upd] using h)⟩, gv, c1, c2, c3, c4, c5, gB, gF, gK⟩
    | 3, ho =>
     rw [HI9.out] at hI
     obtain ⟨u64, u65, u66, u67, u68, u69, u70, u71, u72, u73, u74, u75, rfl, f0, f1, f2, f3, f4, f5, f6, f7, f8, f9, f10, f11, ⟨U, gU, gu0, gu1⟩, ⟨Q', gQ, gq1, gq0⟩, gv, c1, c2, c3, c4, c5, gB, gF, gK⟩ := hI
     refine opIn_of_list ho ?_
     cases ho
     clear hdep
     gi_wp2
     rw [HI9.out]
     exact ⟨_, _, _, _, _, _, _, _, _, _, _, _, rfl, lf f0, lf f1, lf f2, fun _ => rfl, lf f4, lf f5, lf f6, lf f7, lf f8, lf f9, lf f10, lf f11, ⟨U, gU, fun h => gu0 (by simpa [upd] using h), fun h => gu1 (by simpa [upd] using h)⟩, ⟨Q', gQ, fun h => gq1 (by simpa [upd] using h), fun h => gq0 (by simpa [upd] using h)⟩, gv, c1, c2, c3, c4, c5, gB, gF, gK⟩
    | 4, ho =>
     rw [HI9.out] at hI
     obtain ⟨u64, u65, u66, u67, u68, u69, u70, u71, u72, u73, u74, u75, rfl, f0, f1, f2, f3, f4, f5, f6, f7, f8, f9, f10, f11, ⟨U, gU, gu0, gu1⟩, ⟨Q', gQ, gq1, gq0⟩, gv, c1, c2, c3, c4, c5, gB, gF, gK⟩ := hI
     refine opIn_of_list ho ?_
     cases ho
     clear hdep
     gi_wp2
     rw [HI9.out]
     exact ⟨_, _, _, _, _, _, _, _, _, _, _, _, rfl, lf f0, lf f1, lf f2, lf f3, fun _ => rfl, lf f5, lf f6, lf f7, lf f8, lf f9, lf f10, lf f11, ⟨U, gU, fun h => gu0 (by simpa [upd] using h), fun h => gu1 (by simpa [upd] using h)⟩, ⟨Q', gQ, fun h => gq1 (by simpa [upd] using h), fun h => gq0 (by simpa [upd] using h)⟩, gv, c1, c2, c3, c4, c5, gB, gF, gK⟩
    | 5, ho =>
     rw [HI9.out] at hI
     obtain ⟨u64, u65, u66, u67, u68, u69, u70, u71, u72, u73, u74, u75, rfl, f0, f1, f2, f3, f4, f5, f6, f7, f8, f9, f10, f11, ⟨U, gU, gu0, gu1⟩, ⟨Q', gQ, gq1, gq0⟩, gv, c1, c2, c3, c4, c5, gB, gF, gK⟩ := hI
     refine opIn_of_list ho ?_
     cases ho
     clear hdep
     have hc := c2.cell
     gi_wp2
     rw [HI9.out]
     exact ⟨_, _, _, _, _, _, _, _, _, _, _, _, rfl, lf f0, lf f1, lf f2, lf f3, lf f4, fun _ => rfl, lf f6, lf f7, lf f8, lf f9, lf f10, lf f11, ⟨U, gU, fun h => gu0 (by simpa [upd] using h), fun h => gu1 (by simpa [upd] using h)⟩, ⟨Q', gQ, fun h => gq1 (by simpa [upd] using h), fun h => gq0 (by simpa [upd] using h)⟩, gv, c1, c2, c3, c4, c5, gB, gF, gK⟩
    | 6, ho =>
     have e4 : dn 4 = true := hdep ⟨4, .data⟩ (by cases ho; simp) rfl
     have e5 : dn 5 = true := hdep ⟨5, .data⟩ (by cases ho; simp) rfl
     rw [HI9.out] at hI
     obtain ⟨u64, u65, u66, u67, u68, u69, u70, u71, u72, u73, u74, u75, rfl, f0, f1, f2, f3, f4, f5, f6, f7, f8, f9, f10, f11, ⟨U, gU, gu0, gu1⟩, ⟨Q', gQ, gq1, gq0⟩, gv, c1, c2, c3, c4, c5, gB, gF, gK⟩ := hI
     obtain rfl := f4 e4
     obtain rfl := f5 e5
     refine opIn_of_list ho ?_
     cases ho
     clear hdep
     gi_wp2
     rw [HI9.out]
     exact ⟨_, _, _, _, _, _, _, _, _, _, _, _, rfl, lf f0, lf f1, lf f2, lf f3, fun _ => rfl, fun _ => rfl, fun _ => rfl, lf f7, lf f8, lf f9, lf f10, lf f11, ⟨U, gU, fun h => gu0 (by simpa [upd] using h), fun h => gu1 (by simpa [upd] using h)⟩, ⟨Q', gQ, fun h => gq1 (by simpa [upd] using h), fun h => gq0 (by simpa [upd] using h)⟩, gv, c1, c2, c3, c4, c5, gB, gF, gK⟩
    | 7, ho =>
     have e6 : dn 6 = true := hdep ⟨6, .data⟩ (by cases ho; simp) rfl
     rw [HI9.out] at hI
     obtain ⟨u64, u65, u66, u67, u68, u69, u70, u71, u72, u73, u74, u75, rfl, f0, f1, f2, f3, f4, f5, f6, f7, f8, f9, f10, f11, ⟨U, gU, gu0, gu1⟩, ⟨Q', gQ, gq1, gq0⟩, gv, c1, c2, c3, c4, c5, gB, gF, gK⟩ := hI
     obtain rfl := f6 e6
     refine opIn_of_list ho ?_
     cases ho
     clear hdep
     gi_wp2
     rw [HI9.out]
     exact ⟨_, _, _, _, _, _, _, _, _, _, _, _, rfl, lf f0, lf f1, lf f2, lf f3, lf f4, lf f5, fun _ => rfl, fun _ => rfl, lf f8, lf f9, lf f10, lf f11, ⟨U, gU, fun h => gu0 (by simpa [upd] using h), fun h => gu1 (by simpa [upd] using h)⟩, ⟨Q', gQ, fun h => gq1 (by simpa [upd] using h), fun h => gq0 (by simpa [upd] using h)⟩, gv, c1, c2, c3, c4, c5, gB, gF, gK⟩
    | 8, ho =>
     have e2 : dn 2 = true := hdep ⟨2, .data⟩ (by cases ho; simp) rfl
     have e3 : dn 3 = true := hdep ⟨3, .data⟩ (by cases ho; simp) rfl
     have e7 : dn 7 = true := hdep ⟨7, .data⟩ (by cases ho; simp) rfl
     rw [HI9.out] at hI
     obtain ⟨u64, u65, u66, u67, u68, u69, u70, u71, u72, u73, u74, u75, rfl, f0, f1, f2, f3, f4, f5, f6, f7, f8, f9, f10, f11, ⟨U, gU, gu0, gu1⟩, ⟨Q', gQ, gq1, gq0⟩, gv, c1, c2, c3, c4, c5, gB, gF, gK⟩ := hI
     obtain rfl := f2 e2
     obtain rfl := f3 e3
     obtain rfl := f7 e7
     refine opIn_of_list ho ?_
     cases ho
     clear hdep
     gi_wp2
     rw [HI9.out]
     exact ⟨_, _, _, _, _, _, _, _, _, _, _, _, rfl, lf f0, lf f1, fun _ => rfl, fun _ => rfl, lf f4, lf f5, lf f6, fun _ => rfl, (fun _ => by rw [show ix + (k + 2) + 1 - ix = k + 3 by omega]), lf f9, lf f10, lf f11, ⟨U, gU, fun h => gu0 (by simpa [upd] using h), fun h => gu1 (by simpa [upd] using h)⟩, ⟨Q', gQ, fun h => gq1 (by simpa [upd] using h), fun h => gq0 (by simpa [upd] using h)⟩, gv, c1, c2, c3, c4, c5, gB, gF, gK⟩
    | 9, ho =>
     rw [HI9.out] at hI
     obtain ⟨u64, u65, u66, u67, u68, u69, u70, u71, u72, u73, u74, u75, rfl, f0, f1, f2, f3, f4, f5, f6, f7, f8, f9, f10, f11, ⟨U, gU, gu0, gu1⟩, ⟨Q', gQ, gq1, gq0⟩, gv, c1, c2, c3, c4, c5, gB, gF, gK⟩ := hI
     refine opIn_of_list ho ?_
     cases ho
     clear hdep
     have hc := c4.cell
     gi_wp2
     rw [HI9.out]
     exact ⟨_, _, _, _, _, _, _, _, _, _, _, _, rfl, lf f0, lf f1, lf f2, lf f3, lf f4, lf f5, lf f6, lf f7, lf f8, fun _ => rfl, lf f10, lf f11, ⟨U, gU, fun h => gu0 (by simpa [upd] using h), fun h => gu1 (by simpa [upd] using h)⟩, ⟨Q', gQ, fun h => gq1 (by simpa [upd] using h), fun h => gq0 (by simpa [upd] using h)⟩, gv, c1, c2, c3, c4, c5, gB, gF, gK⟩
    | 10, ho =>
     have e8 : dn 8 = true := hdep ⟨8, .data⟩ (by cases ho; simp) rfl
     have e9 : dn 9 = true := hdep ⟨9, .data⟩ (by cases ho; simp) rfl
     rw [HI9.out] at hI
     obtain ⟨u64, u65, u66, u67, u68, u69, u70, u71, u72, u73, u74, u75, rfl, f0, f1, f2, f3, f4, f5, f6, f7, f8, f9, f10, f11, ⟨U, gU, gu0, gu1⟩, ⟨Q', gQ, gq1, gq0⟩, gv, c1, c2, c3, c4, c5, gB, gF, gK⟩ := hI
     obtain rfl := f8 e8
     obtain rfl := f9 e9
     refine opIn_of_list ho ?_
     cases ho
     clear hdep
     obtain rfl := gu0 hd
     have hgz2 := Lib.hid gv.len.1
     gi_wp2
     refine ⟨trivial, ?_⟩
     refine CallsIn.mono (CallsIn.inRound l (n := 6) ((callsIn_wide (n := 6)).2 (digit_some g1 ix (k + 2 + r + 1) (k + 2 + r + 1) (k + 2 + r + 1 - ix) g2 0 (k + 2 + 1) k (w1.heap.size + 1) (A.take ix) S1 C V W5 HS1L.out HVL.out (by rw [List.length_take]; have := HAL.out; omega) (by omega) (fun e => hgne e.symm) (by omega) (by omega) hLS1 hVL hV2 HLT.out gU (fun j hj => by have h := (gv.at j (by rw [← hgz2.out]; omega)).1; rw [Nat.zero_add, HV.out, List.getElem?_take_of_lt hj]; exact h)))) ?_
     rintro e w5 ⟨S', rfl, hd1, hd2, hd3, hd4, hd5⟩
     have HD3 := Lib.hid hd3
     clear hd3
     gi_wp2
     rw [HI9.out]
     exact ⟨_, _, _, _, _, _, _, _, _, _, _, _, rfl, lf f0, lf f1, lf f2, lf f3, lf f4, lf f5, lf f6, lf f7, fun _ => rfl, fun _ => rfl, fun _ => rfl, lf f11, ⟨_, hd4, (fun h => by rw [upd_same] at h; cases h), fun _ => ⟨S', hd1, hd2, HD3.out, rfl⟩⟩, ⟨Q', gQ.only hd5 (by omega), fun h => gq1 (by simpa [upd] using h), fun h => gq0 (by simpa [upd] using h)⟩, gv.only hd5 (fun e => hgne e.symm), c1.only hd5 (by have := gU.len.2; omega), c2.only hd5 (by have := gU.len.2; omega), c3.only hd5 (gU.apart c3 (by decide)), c4.only hd5 (gU.apart c4 (by decide)), c5.only hd5 (gU.apart c5 (by decide)), gB.trans (hd5.below (by have := gU.len.2; omega)), gF.trans ((hd5.others gU.cells).from _), keepQ_t j gK ⟨hd5.keep (by have := gU.len.2; omega) (gU.apart c5 (by decide)), fun j' _ => hd5.cell (p := ⟨gq, j', none⟩) (by show gq ≠ g1; omega)⟩⟩
    | 11, ho =>
     have e0 : dn 0 = true := hdep ⟨0, .data⟩ (by cases ho; simp) rfl
     have e1 : dn 1 = true := hdep ⟨1, .data⟩ (by cases ho; simp) rfl
     rw [HI9.out] at hI
     obtain ⟨u64, u65, u66, u67, u68, u69, u70, u71, u72, u73, u74, u75, rfl, f0, f1, f2, f3, f4, f5, f6, f7, f8, f9, f10, f11, ⟨U, gU, gu0, gu1⟩, ⟨Q', gQ, gq1, gq0⟩, gv, c1, c2, c3, c4, c5, gB, gF, gK⟩ := hI
     obtain rfl := f0 e0
     obtain rfl := f1 e1
     refine opIn_of_list ho ?_
     cases ho
     clear hdep
     gi_wp2
     rw [HI9.out]
     exact ⟨_, _, _, _, _, _, _, _, _, _, _, _, rfl, fun _ => rfl, fun _ => rfl, lf f2, lf f3, lf f4, lf f5, lf f6, lf f7, lf f8, lf f9, lf f10, fun _ => rfl, ⟨U, gU, fun h => gu0 (by simpa [upd] using h), fun h => gu1 (by simpa [upd] using h)⟩, ⟨Q', gQ, fun h => gq1 (by simpa [upd] using h), fun h => gq0 (by simpa [upd] using h)⟩, gv, c1, c2, c3, c4, c5, gB, gF, gK⟩
    | 12, ho =>
     have e11 : dn 11 = true := hdep ⟨11, .data⟩ (by cases ho; simp) rfl
     have e10 : dn 10 = true := hdep ⟨10, .data⟩ (by cases ho; simp) rfl
     rw [HI9.out] at hI
     obtain ⟨u64, u65, u66, u67, u68, u69, u70, u71, u72, u73, u74, u75, rfl, f0, f1, f2, f3, f4, f5, f6, f7, f8, f9, f10, f11, ⟨U, gU, gu0, gu1⟩, ⟨Q', gQ, gq1, gq0⟩, gv, c1, c2, c3, c4, c5, gB, gF, gK⟩ := hI
     obtain rfl := f11 e11
     obtain rfl := f10 e10
     refine opIn_of_list ho ?_
     cases ho
     clear hdep
     obtain rfl := gq0 hd
     obtain ⟨hqa, hqf⟩ := gQ.at ix (by rw [HQL.out]; omega)
     gi_wp2
     rw [HI9.out]
     exact ⟨_, _, _, _, _, _, _, _, _, _, _, _, rfl, lf f0, lf f1, lf f2, lf f3, lf f4, lf f5, lf f6, lf f7, lf f8, lf f9, fun _ => rfl, fun _ => rfl, ⟨U, gU.only (Only.set W5 gq ix _) (by omega), fun h => gu0 (by simpa [upd] using h), fun h => gu1 (by simpa [upd] using h)⟩, ⟨_, gQ.set ix (by rw [HQL.out]; omega) _, fun _ => rfl, (fun h => by rw [upd_same] at h; cases h)⟩, gv.only (Only.set W5 gq ix _) (by omega), c1.only (Only.set W5 gq ix _) (gQ.apart c1 (by decide)), c2.only (Only.set W5 gq ix _) (gQ.apart c2 (by decide)), c3.only (Only.set W5 gq ix _) (gQ.apart c3 (by decide)), c4.only (Only.set W5 gq ix _) (gQ.apart c4 (by decide)), c5.only (Only.set W5 gq ix _) (gQ.apart c5 (by decide)), gB.trans ((Only.set W5 gq ix _).below (by have := gQ.len.2; omega)), gF.trans (((Only.set W5 gq ix _).others gQ.cells).from _), keepQ_t j gK ⟨(Only.set W5 gq ix _).keep (by have := gQ.len.2; omega) (gQ.apart c5 (by decide)), fun j' hj' => World.cell?_setCell_other _ _ _ _ (by intro e; have h := HJI.out; cases e; omega)⟩⟩
    | k + 13, ho => simp at ho
   case hend9 =>
    intro dn a' W5 hI hall
    rw [HI9.out] at hI
    obtain ⟨u64, u65, u66, u67, u68, u69, u70, u71, u72, u73, u74, u75, rfl, f0, f1, f2, f3, f4, f5, f6, f7, f8, f9, f10, f11, ⟨U, gU, gu0, gu1⟩, ⟨Q', gQ, gq1, gq0⟩, gv, c1, c2, c3, c4, c5, gB, gF, gK⟩ := hI
    obtain rfl := f0 (hall 0 (by decide))
    obtain rfl := f1 (hall 1 (by decide))
    obtain rfl := f2 (hall 2 (by decide))
    obtain rfl := f3 (hall 3 (by decide))
    obtain rfl := f4 (hall 4 (by decide))
    obtain rfl := f5 (hall 5 (by decide))
    obtain rfl := f6 (hall 6 (by decide))
    obtain rfl := f7 (hall 7 (by decide))
    obtain rfl := f8 (hall 8 (by decide))
    obtain rfl := f9 (hall 9 (by decide))
    obtain rfl := f10 (hall 10 (by decide))
    obtain rfl := f11 (hall 11 (by decide))
    obtain ⟨S', hd1, hd2, hd3, rfl⟩ := gu1 (hall 10 (by decide))
    obtain rfl := gq1 (hall 12 (by decide))
    have hlt5 : val S' < val V := by rw [hd3]; exact Int.emod_lt_of_pos _ (by omega)
    have hsm := HAL.out
    have hsm2 := HI2.out
    have hts := val_take_small (n := k + 2) hd1 hd2 (by omega)
    have hst := dround_step (S' := S') (q := val S1 / val V) HAL.out (by rw [HQL.out]; omega) HZ.out (by rw [HS1.out]) (by rw [hd3, HS1.out])
    refine ⟨gF, gK, A.take ix, S'.take (k + 2), S'.drop (k + 2) ++ C, Q.set ix (val S1 / val V), by rw [List.length_take]; have := HAL.out; have := HI2.out; omega, by rw [List.length_take]; omega, h3.take _, hd1.take _, h5.set _ ?_, by rw [List.length_set]; exact HQL.out, by rw [hts]; exact hlt5, ?_, ?_, gQ, gv, c1, c2, c3, c4, c5, gB⟩
    · have := val_nonneg hLS1; exact ⟨Int.ediv_nonneg this (by omega), Int.ediv_lt_of_lt_mul (by omega) HLT.out⟩
    · rw [hts, HI2.out]; exact hst
    · have e : A.take ix ++ S'.take (k + 2) ++ (S'.drop (k + 2) ++ C) = A.take ix ++ S' ++ C := by rw [← List.append_assoc, List.append_assoc (A.take ix), List.take_append_drop]
      rw [e]; exact gU
  case done =>
   rintro D W hD ⟨A, S, C, Q, h1, h2, h3, h4, h5, h6, h7, h8, o1, o2, o3, c1, c2, c3, c4, c5, hB⟩ hK
   rw [Nat.sub_self] at h1 h8
   obtain rfl : A = [] := List.eq_nil_of_length_eq_zero h1
   simp only [val, Int.pow_zero, Int.zero_add, Int.one_mul, List.drop_zero, List.nil_append] at h8 o1
   have hde := dend (pow_pos2 sh) hm0 h8 (val_nonneg h4) h7 (HVZ.out.trans (by rw [hX.eq])) (HV1.out.trans (by rw [hY.eq]))
   rw [← (trim_rep h4).eq] at hde
   have oS : Own16 (w1.heap.size + 1) W (.slice (some ⟨g1, 0, none⟩) (k + 2) (k + 2 + r + 1)) S := by have h := o1.take (k + 2) (by simp; omega); rwa [List.take_left' h2] at h
   have oT : Own16 (w1.heap.size + 1) W (.slice (some ⟨g1, 0, none⟩) (trim S).length (k + 2 + r + 1)) (trim S) := by
    obtain ⟨k', hk', e⟩ := trim_prefix S
    rw [e, show (S.take k').length = k' by simp [Nat.min_eq_left hk']]
    exact oS.take k' hk'
   have hLT := (trim_rep h4).lm
   have hTL : (trim S).length ≤ k + 2 := by obtain ⟨k', hk', e⟩ := trim_prefix S; rw [e, List.length_take]; omega
   have hs15 := pow_le15 hsh
   have hs16 := pow_pos2 sh
   have hshl : (2 : Int) ^ sh % 4294967296 = 2 ^ sh := Int.emod_eq_of_lt (by omega) (by omega)
   have HDE := Lib.hid hde
   have HSL := Lib.hid h2
   have HQL := Lib.hid h6
   have HTL := Lib.hid hTL
   clear hde h1 h2 h6 h8 hTL
   gi_wp2
   obtain ⟨ID, HID⟩ : ∃ I : (Nat → Bool) → Act → World → Prop, Hid (I = (fun dn a' W5 => ∃ u13 u14 u76 u77 u78 u79 u80 u81 u82 u83 u84 u85 : Value, ∃ vr : Value, ∃ zr : List Int, a' = { tmps := #[.slice px (k + 2 + r) cx, .slice (some ⟨by', oy, none⟩) (k + 2) cy, undef, undef, .pointer (some ⟨w.heap.size, 0, none⟩), .slice none 0 0, undef, undef, .int .i64 (sh : Int), .pointer (some ⟨w1.heap.size, 0, none⟩), .pointer (some ⟨b10, 0, none⟩), .pointer (some ⟨b11, 0, none⟩), undef, u13, u14, .slice px (k + 2 + r) cx, .slice (some ⟨by', oy, none⟩) (k + 2) cy, .int .i64 (cmpI n m), .bool (decide (cmpI n m < 0)), undef, undef, .slice (some ⟨by', oy, none⟩) (k + 2) cy, .int .i64 ((k : Int) + 2), .bool false, undef, undef, undef, undef, undef, undef, undef, undef, undef, undef, undef, undef, undef, undef, .slice (some ⟨by', oy, none⟩) (k + 2) cy, .slice (some ⟨by', oy, none⟩) (k + 2) cy, .int .i64 ((k : Int) + 2), .int .i64 ((k : Int) + 2 - 1), .pointer (some ⟨by', oy + (k + 1), none⟩), .int .u16 (Y[k + 1]?.getD 0), .int .i64 (sh : Int), .slice (some ⟨by', oy, none⟩) (k + 2) cy, .int .i64 ((k : Int) + 2), .slice px (k + 2 + r) cx, .int .i64 (sh : Int), .slice (some ⟨g1, 0, none⟩) (k + 2 + r + 1) (k + 2 + r + 1), .slice (some ⟨by', oy, none⟩) (k + 2) cy, .int .i64 (sh : Int), .slice (some ⟨g2, 0, none⟩) (k + 2 + 1) (k + 2 + 1), .int .i64 ((k : Int) + 2), .slice (some ⟨g2, 0, none⟩) (k + 2) (k + 2 + 1), .slice (some ⟨g1, 0, none⟩) (k + 2 + r + 1) (k + 2 + r + 1), .int .i64 ((k : Int) + 2 + (r : Int) + 1), .int .i64 ((k : Int) + 2), .int .i64 ((k : Int) + 2 + (r : Int) + 1 - ((k : Int) + 2)), .slice (some ⟨gq, 0, none⟩) (r + 1) (r + 1), .slice (some ⟨gq, 0, none⟩) (r + 1) (r + 1), .func (Fn.func 176) #[] #[.pointer (some ⟨bq, 0, none⟩)], undef, undef, undef, undef, undef, undef, undef, undef, undef, undef, undef, undef, undef, undef, u76, u77, u78, u79, u80, u81, u82, u83, u84, u85, undef, undef, undef], defers := [{ target := Target.collected D, args := #[] }] } ∧ (dn 0 = true → u77 = .slice (some ⟨g1, 0, none⟩) (k + 2 + r + 1) (k + 2 + r + 1)) ∧ (dn 1 = true → u78 = .int .i64 ((k : Int) + 2)) ∧ (dn 2 = true → u79 = .slice (some ⟨g1, 0, none⟩) (k + 2) (k + 2 + r + 1)) ∧ (dn 3 = true → u80 = .slice (some ⟨g1, 0, none⟩) (trim S).length (k + 2 + r + 1)) ∧ (dn 4 = true → u81 = .int .i64 (sh : Int)) ∧ (dn 5 = true → u82 = .int .u32 ((2 : Int) ^ sh)) ∧ (dn 6 = true → u83 = .tuple #[vr, .int .u32 (val (trim S) % 2 ^ sh)]) ∧ (dn 7 = true → u76 = .tuple #[vr, .int .u32 (val (trim S) % 2 ^ sh)]) ∧ (dn 8 = true → u84 = vr) ∧ (dn 9 = true → u85 = .int .u32 (val (trim S) % 2 ^ sh)) ∧ (dn 10 = true → u13 = vr) ∧ (dn 11 = true → u14 = .int .u32 (val (trim S) % 2 ^ sh)) ∧ Below W.heap.size W W5 ∧ (dn 6 = true → Own16 W.heap.size W5 vr zr ∧ Rep zr (val (trim S) / 2 ^ sh)) ∧ (dn 7 = true → dn 6 = true) ∧ (dn 8 = true → dn 6 = true) ∧ (dn 10 = true → dn 6 = true))) := ⟨_, rfl⟩
   refine wpIn_region_conf ID (by kernel_rfl) (by kernel_rfl) ?h0D ?hstepD ?hendD
   case h0D =>
    rw [HID.out]
    exact ⟨undef, undef, undef, undef, undef, undef, undef, undef, undef, undef, undef, undef, undef, [], rfl, (fun h => by cases h), (fun h => by cases h), (fun h => by cases h), (fun h => by cases h), (fun h => by cases h), (fun h => by cases h), (fun h => by cases h), (fun h => by cases h), (fun h => by cases h), (fun h => by cases h), (fun h => by cases h), (fun h => by cases h), (Below.refl _ _).drew, (fun h => by cases h), (fun h => by cases h), (fun h => by cases h), (fun h => by cases h)⟩
   case hstepD =>
    intro dn a' W5 hI i o ho hd hdep
    match i, ho with
    | 0, ho =>
     rw [HID.out] at hI
     obtain ⟨u13, u14, u76, u77, u78, u79, u80, u81, u82, u83, u84, u85, vr, zr, rfl, f0, f1, f2, f3, f4, f5, f6, f7, f8, f9, f10, f11, gB, gr, k7, k8, k10⟩ := hI
     refine opIn_of_list ho ?_
     cases ho
     clear hdep
     have hc := (c3.below gB c3.lt).cell
     gi_wp2
     rw [HID.out]
     exact ⟨_, _, _, _, _, _, _, _, _, _, _, _, vr, zr, rfl, fun _ => rfl, lf f1, lf f2, lf f3, lf f4, lf f5, lf f6, lf f7, lf f8, lf f9, lf f10, lf f11, gB, fun h => gr (by simpa [upd] using h), fun h => upd_mono (k7 (by simpa [upd] using h)), fun h => upd_mono (k8 (by simpa [upd] using h)), fun h => upd_mono (k10 (by simpa [upd] using h))⟩
    | 1, ho =>
     rw [HID.out] at hI
     obtain ⟨u13, u14, u76, u77, u78, u79, u80, u81, u82, u83, u84, u85, vr, zr, rfl, f0, f1, f2, f3, f4, f5, f6, f7, f8, f9, f10, f11, gB, gr, k7, k8, k10⟩ := hI
     refine opIn_of_list ho ?_
     cases ho
     clear hdep
     have hc := (c2.below gB c2.lt).cell
     gi_wp2
     rw [HID.out]
     exact ⟨_, _, _, _, _, _, _, _, _, _, _, _, vr, zr, rfl, lf f0, fun _ => rfl, lf f2, lf f3, lf f4, lf f5, lf f6, lf f7, lf f8, lf f9, lf f10, lf f11, gB, fun h => gr (by simpa [upd] using h), fun h => upd_mono (k7 (by simpa [upd] using h)), fun h => upd_mono (k8 (by simpa [upd] using h)), fun h => upd_mono (k10 (by simpa [upd] using h))⟩
    | 2, ho =>
     have e0 : dn 0 = true := hdep ⟨0, .data⟩ (by cases ho; simp) rfl
     have e1 : dn 1 = true := hdep ⟨1, .data⟩ (by cases ho; simp) rfl
     rw [HID.out] at hI
     obtain ⟨u13, u14, u76, u77, u78, u79, u80, u81, u82, u83, u84, u85, vr, zr, rfl, f0, f1, f2, f3, f4, f5, f6, f7, f8, f9, f10, f11, gB, gr, k7, k8, k10⟩ := hI
     obtain rfl := f0 e0
     obtain rfl := f1 e1
     refine opIn_of_list ho ?_
     cases ho
     clear hdep
     gi_wp2
     rw [HID.out]
     exact ⟨_, _, _, _, _, _, _, _, _, _, _, _, vr, zr, rfl, fun _ => rfl, fun _ => rfl, fun _ => rfl, lf f3, lf f4, lf f5, lf f6, lf f7, lf f8, lf f9, lf f10, lf f11, gB, fun h => gr (by simpa [upd] using h), fun h => upd_mono (k7 (by simpa [upd] using h)), fun h => upd_mono (k8 (by simpa [upd] using h)), fun h => upd_mono (k10 (by simpa [upd] using h))⟩
    | 3, ho =>
     have e2 : dn 2 = true := hdep ⟨2, .data⟩ (by cases ho; simp) rfl
     rw [HID.out] at hI
     obtain ⟨u13, u14, u76, u77, u78, u79, u80, u81, u82, u83, u84, u85, vr, zr, rfl, f0, f1, f2, f3, f4, f5, f6, f7, f8, f9, f10, f11, gB, gr, k7, k8, k10⟩ := hI
     obtain rfl := f2 e2
     refine opIn_of_list ho ?_
     cases ho
     clear hdep
     gi_wp2
     refine ⟨trivial, ?_⟩
     refine CallsIn.mono ((callsIn_wide (n := 8)).2 (trimmed_some g1 0 (k + 2) (k + 2 + r + 1) S W5 HSL.out (by omega) (by omega) (fun j hj => by rw [Nat.zero_add]; exact ((oS.below gB).at j (by rw [HSL.out]; exact hj)).1))) ?_
     rintro e w5 ⟨rfl, rfl⟩
     gi_wp2
     rw [HID.out]
     exact ⟨_, _, _, _, _, _, _, _, _, _, _, _, vr, zr, rfl, lf f0, lf f1, fun _ => rfl, fun _ => rfl, lf f4, lf f5, lf f6, lf f7, lf f8, lf f9, lf f10, lf f11, gB, fun h => gr (by simpa [upd] using h), fun h => upd_mono (k7 (by simpa [upd] using h)), fun h => upd_mono (k8 (by simpa [upd] using h)), fun h => upd_mono (k10 (by simpa [upd] using h))⟩
    | 4, ho =>
     rw [HID.out] at hI
     obtain ⟨u13, u14, u76, u77, u78, u79, u80, u81, u82, u83, u84, u85, vr, zr, rfl, f0, f1, f2, f3, f4, f5, f6, f7, f8, f9, f10, f11, gB, gr, k7, k8, k10⟩ := hI
     refine opIn_of_list ho ?_
     cases ho
     clear hdep
     gi_wp2
     rw [HID.out]
     exact ⟨_, _, _, _, _, _, _, _, _, _, _, _, vr, zr, rfl, lf f0, lf f1, lf f2, lf f3, fun _ => rfl, lf f5, lf f6, lf f7, lf f8, lf f9, lf f10, lf f11, gB, fun h => gr (by simpa [upd] using h), fun h => upd_mono (k7 (by simpa [upd] using h)), fun h => upd_mono (k8 (by simpa [upd] using h)), fun h => upd_mono (k10 (by simpa [upd] using h))⟩
    | 5, ho =>
     have e4 : dn 4 = true := hdep ⟨4, .data⟩ (by cases ho; simp) rfl
     rw [HID.out] at hI
     obtain ⟨u13, u14, u76, u77, u78, u79, u80, u81, u82, u83, u84, u85, vr, zr, rfl, f0, f1, f2, f3, f4, f5, f6, f7, f8, f9, f10, f11, gB, gr, k7, k8, k10⟩ := hI
     obtain rfl := f4 e4
     refine opIn_of_list ho ?_
     cases ho
     clear hdep
     gi_wp2
     rw [HID.out]
     exact ⟨_, _, _, _, _, _, _, _, _, _, _, _, vr, zr, rfl, lf f0, lf f1, lf f2, lf f3, fun _ => rfl, fun _ => rfl, lf f6, lf f7, lf f8, lf f9, lf f10, lf f11, gB, fun h => gr (by simpa [upd] using h), fun h => upd_mono (k7 (by simpa [upd] using h)), fun h => upd_mono (k8 (by simpa [upd] using h)), fun h => upd_mono (k10 (by simpa [upd] using h))⟩
    | 6, ho =>
     have e3 : dn 3 = true := hdep ⟨3, .data⟩ (by cases ho; simp) rfl
     have e5 : dn 5 = true := hdep ⟨5, .data⟩ (by cases ho; simp) rfl
     rw [HID.out] at hI
     obtain ⟨u13, u14, u76, u77, u78, u79, u80, u81, u82, u83, u84, u85, vr, zr, rfl, f0, f1, f2, f3, f4, f5, f6, f7, f8, f9, f10, f11, gB, gr, k7, k8, k10⟩ := hI
     obtain rfl := f3 e3
     obtain rfl := f5 e5
     refine opIn_of_list ho ?_
     cases ho
     clear hdep
     gi_wp2
     refine ⟨trivial, ?_⟩
     refine CallsIn.mono ((callsIn_wide (n := 8)).2 (short_some _ _ _ ((2 : Int) ^ sh) (trim S) W5 (by have := HTL.out; omega) (by omega) (by omega) hLT (oT.below gB).lims)) ?_
     rintro e w5 ⟨vv, zz, rfl, hown, hrep, hb5⟩
     gi_wp2
     rw [HID.out]
     exact ⟨_, _, _, _, _, _, _, _, _, _, _, _, vv, zz, rfl, lf f0, lf f1, lf f2, fun _ => rfl, lf f4, fun _ => rfl, fun _ => rfl, (fun h => absurd (k7 (by simpa [upd] using h)) (by rw [hd]; decide)), (fun h => absurd (k8 (by simpa [upd] using h)) (by rw [hd]; decide)), lf f9, (fun h => absurd (k10 (by simpa [upd] using h)) (by rw [hd]; decide)), lf f11, gB.trans (hb5.mono gB.size), fun _ => ⟨hown.mono gB.size, hrep⟩, fun _ => upd_same _ _, fun _ => upd_same _ _, fun _ => upd_same _ _⟩
    | 7, ho =>
     have e6 : dn 6 = true := hdep ⟨6, .data⟩ (by cases ho; simp) rfl
     rw [HID.out] at hI
     obtain ⟨u13, u14, u76, u77, u78, u79, u80, u81, u82, u83, u84, u85, vr, zr, rfl, f0, f1, f2, f3, f4, f5, f6, f7, f8, f9, f10, f11, gB, gr, k7, k8, k10⟩ := hI
     obtain rfl := f6 e6
     refine opIn_of_list ho ?_
     cases ho
     clear hdep
     gi_wp2
     rw [HID.out]
     exact ⟨_, _, _, _, _, _, _, _, _, _, _, _, vr, zr, rfl, lf f0, lf f1, lf f2, lf f3, lf f4, lf f5, fun _ => rfl, fun _ => rfl, lf f8, lf f9, lf f10, lf f11, gB, fun h => gr (by simpa [upd] using h), fun _ => upd_mono e6, fun h => upd_mono (k8 (by simpa [upd] using h)), fun h => upd_mono (k10 (by simpa [upd] using h))⟩
    | 8, ho =>
     have e7 : dn 7 = true := hdep ⟨7, .data⟩ (by cases ho; simp) rfl
     rw [HID.out] at hI
     obtain ⟨u13, u14, u76, u77, u78, u79, u80, u81, u82, u83, u84, u85, vr, zr, rfl, f0, f1, f2, f3, f4, f5, f6, f7, f8, f9, f10, f11, gB, gr, k7, k8, k10⟩ := hI
     obtain rfl := f7 e7
     refine opIn_of_list ho ?_
     cases ho
     clear hdep
     gi_wp2
     rw [HID.out]
     exact ⟨_, _, _, _, _, _, _, _, _, _, _, _, _, zr, rfl, lf f0, lf f1, lf f2, lf f3, lf f4, lf f5, (by first | exact fun _ => rfl | exact fun h0 => f6 (lu h0)), fun _ => rfl, fun _ => rfl, lf f9, lf f10, lf f11, gB, fun h => gr (by simpa [upd] using h), fun h => upd_mono (k7 (by simpa [upd] using h)), fun _ => upd_mono (k7 e7), fun h => upd_mono (k10 (by simpa [upd] using h))⟩
    | 9, ho =>
     have e7 : dn 7 = true := hdep ⟨7, .data⟩ (by cases ho; simp) rfl
     rw [HID.out] at hI
     obtain ⟨u13, u14, u76, u77, u78, u79, u80, u81, u82, u83, u84, u85, vr, zr, rfl, f0, f1, f2, f3, f4, f5, f6, f7, f8, f9, f10, f11, gB, gr, k7, k8, k10⟩ := hI
     obtain rfl := f7 e7
     refine opIn_of_list ho ?_
     cases ho
     clear hdep
     gi_wp2
     rw [HID.out]
     exact ⟨_, _, _, _, _, _, _, _, _, _, _, _, _, zr, rfl, lf f0, lf f1, lf f2, lf f3, lf f4, lf f5, (by first | exact fun _ => rfl | exact fun h0 => f6 (lu h0)), fun _ => rfl, lf f8, fun _ => rfl, lf f10, lf f11, gB, fun h => gr (by simpa [upd] using h), fun h => upd_mono (k7 (by simpa [upd] using h)), fun h => upd_mono (k8 (by simpa [upd] using h)), fun h => upd_mono (k10 (by simpa [upd] using h))⟩
    | 10, ho =>
     have e8 : dn 8 = true := hdep ⟨8, .data⟩ (by cases ho; simp) rfl
     have e6 : dn 6 = true := hdep ⟨6, .chain⟩ (by cases ho; simp) rfl
     rw [HID.out] at hI
     obtain ⟨u13, u14, u76, u77, u78, u79, u80, u81, u82, u83, u84, u85, vr, zr, rfl, f0, f1, f2, f3, f4, f5, f6, f7, f8, f9, f10, f11, gB, gr, k7, k8, k10⟩ := hI
     obtain rfl := f8 e8
     obtain rfl := f6 e6
     refine opIn_of_list ho ?_
     cases ho
     clear hdep
     gi_wp2
     rw [HID.out]
     exact ⟨_, _, _, _, _, _, _, _, _, _, _, _, _, zr, rfl, lf f0, lf f1, lf f2, lf f3, lf f4, lf f5, fun _ => rfl, lf f7, fun _ => rfl, lf f9, fun _ => rfl, lf f11, gB, fun h => gr (by simpa [upd] using h), fun h => upd_mono (k7 (by simpa [upd] using h)), fun h => upd_mono (k8 (by simpa [upd] using h)), fun _ => upd_mono e6⟩
    | 11, ho =>
     have e9 : dn 9 = true := hdep ⟨9, .data⟩ (by cases ho; simp) rfl
     have e10 : dn 10 = true := hdep ⟨10, .chain⟩ (by cases ho; simp) rfl
     rw [HID.out] at hI
     obtain ⟨u13, u14, u76, u77, u78, u79, u80, u81, u82, u83, u84, u85, vr, zr, rfl, f0, f1, f2, f3, f4, f5, f6, f7, f8, f9, f10, f11, gB, gr, k7, k8, k10⟩ := hI
     obtain rfl := f9 e9
     obtain rfl := f10 e10
     refine opIn_of_list ho ?_
     cases ho
     clear hdep
     gi_wp2
     rw [HID.out]
     exact ⟨_, _, _, _, _, _, _, _, _, _, _, _, _, zr, rfl, lf f0, lf f1, lf f2, lf f3, lf f4, lf f5, (by first | exact fun _ => rfl | exact fun h0 => f6 (lu h0)), lf f7, lf f8, fun _ => rfl, fun _ => rfl, fun _ => rfl, gB, fun h => gr (by simpa [upd] using h), fun h => upd_mono (k7 (by simpa [upd] using h)), fun h => upd_mono (k8 (by simpa [upd] using h)), fun h => upd_mono (k10 (by simpa [upd] using h))⟩
    | k + 12, ho => simp at ho
   case hendD =>
    intro dn a' W5 hI hall
    rw [HID.out] at hI
    obtain ⟨u13, u14, u76, u77, u78, u79, u80, u81, u82, u83, u84, u85, vr, zr, rfl, f0, f1, f2, f3, f4, f5, f6, f7, f8, f9, f10, f11, gB, gr, k7, k8, k10⟩ := hI
    obtain rfl := f0 (hall 0 (by decide))
    obtain rfl := f1 (hall 1 (by decide))
    obtain rfl := f2 (hall 2 (by decide))
    obtain rfl := f3 (hall 3 (by decide))
    obtain rfl := f4 (hall 4 (by decide))
    obtain rfl := f5 (hall 5 (by decide))
    obtain rfl := f6 (hall 6 (by decide))
    obtain rfl := f7 (hall 7 (by decide))
    obtain rfl := f8 (hall 8 (by decide))
    obtain rfl := f9 (hall 9 (by decide))
    obtain rfl := f10 (hall 10 (by decide))
    obtain rfl := f11 (hall 11 (by decide))
    obtain ⟨hr1, hr2⟩ := gr (hall 6 (by decide))
    have c1' := c1.below gB c1.lt
    have hcR := c1'.cell
    have hfR := c1'.frozen
    have oq := o2.below gB
    obtain ⟨vq, hvq⟩ : ∃ vq, vq = Value.slice (some ⟨gq, 0, none⟩) (trim Q).length (r + 1) := ⟨_, rfl⟩
    have hK5 : W5.heap[D]? = some (.deferred (some [])) := (gB.block D (Array.getElem?_eq_some_iff.1 hK).1).trans hK
    have hK5' : (W5.setCell ⟨w.heap.size, 0, none⟩ vq).heap[D]? = some (.deferred (some [])) := (Below.heap_setCell _ _ _ _ (by have := hB.size; have := hB4.size; show D ≠ w.heap.size; omega)).trans hK5
    obtain ⟨hq1, hq2⟩ := HDE.out
    rw [hq2] at hr2
    have HR2 := Lib.hid hr2
    have hqt := trim_rep h5
    rw [hq1] at hqt
    have HQT := Lib.hid hqt
    clear hr2 hq2 hq1 hqt
    have oqt : Own16 w.heap.size W5 vq (trim Q) := by
          obtain ⟨k', hk', e⟩ := trim_prefix Q
          rw [hvq, e, show (Q.take k').length = k' by simp [Nat.min_eq_left hk']]
          exact oq.take k' hk'
    gi_wp2_with (refine ⟨trivial, ?_⟩; gi_at_call 137; refine ((callsIn_wide (n := 8)).2 (trimmed_some gq 0 (r + 1) (r + 1) Q W5 HQL.out (Nat.le_refl _) (by omega) (fun j hj => by rw [Nat.zero_add]; exact (oq.at j (by rw [HQL.out]; exact hj)).1))).mono ?_; rintro e w5 ⟨rfl, rfl⟩)
    subst hvq
    have b9 := c1'.set (.slice (some ⟨gq, 0, none⟩) (trim Q).length (r + 1))
    refine ⟨by simp, .inl ⟨_, _, rfl, run_takeDeferred (b := D) hK5', ?_⟩⟩
    have hsD : w.heap.size < D := by have := hB4.size; omega
    have hc9 : ((W5.setCell ⟨w.heap.size, 0, none⟩ (.slice (some ⟨gq, 0, none⟩) (trim Q).length (r + 1))).putObj D (.deferred none)).cell? ⟨w.heap.size, 0, none⟩ = some (.slice (some ⟨gq, 0, none⟩) (trim Q).length (r + 1)) := (World.cell?_of_block (a := ⟨w.heap.size, 0, none⟩) (World.putObj_heap_other (show w.heap.size ≠ D by omega))).trans b9.cell
    refine ⟨.tuple #[.slice (some ⟨gq, 0, none⟩) (trim Q).length (r + 1), _], by simp [results, Tryz.f126, go_sem, hc9], _, _, trim Q, zr, rfl, Own16.keptFrom (oqt.box c1' (by decide) _) (grownBy_putObj' _ D _) (fun r e => by cases e; exact ⟨_, hK5', rfl⟩), Own16.keptFrom ((hr1.mono (by have := hB.size; omega)).box c1' (by decide) _) (grownBy_putObj' _ D _) (fun r e => by cases e; exact ⟨_, hK5', rfl⟩), HQT.out, HR2.out, ?_⟩
    exact ((hB.trans (gB.mono hB.size)).setCell (p := ⟨w.heap.size, 0, none⟩) (Nat.le_refl _) _).trans (belowK_b (w := w) (Nat.le_refl _) _ D _ _ (by omega) hK5' rfl rfl)
  case stop => 
   rintro D c k W hD hk h
   exact h.elim
end Go.Proofs.YtihdbjilolmfiaaGreatDoor
