import Derived.Test.YtihdbjilolmfiaaGreatDoorE10
import Derived.Test.YtihdbjilolmfiaaGreatDoorE01
/- whole: sum. -/
namespace Go.Proofs.YtihdbjilolmfiaaGreatDoor
open Go.RowKit Go.WM Go.WR
attribute [local go_sem] Oper.semAt_some
theorem rep_len_add {A B Z : List Int} {n m : Int} (hA : Rep A n) (hB : Rep B m) (hZ : Rep Z (n + m)) (h1 : A.length ≤ 35184372088830) (h2 : B.length ≤ 35184372088830) : Z.length ≤ 140737488355328 := by
 have a := hA.len_lt
 have b := hB.len_lt
 have h : Z.length ≤ max A.length B.length + 1 := (hZ.len_le_iff _).2 (by
  have p1 := pow_le_pow' (Nat.le_max_left A.length B.length)
  have p2 := pow_le_pow' (Nat.le_max_right A.length B.length)
  have p3 := pow_pos' (max A.length B.length)
  rw [Int.pow_succ]; omega)
 omega
theorem rep_len_le {A Z : List Int} {n m : Int} (hA : Rep A n) (hZ : Rep Z (n - m)) (h0 : 0 ≤ m) (h1 : A.length ≤ 35184372088830) : Z.length ≤ 140737488355328 := by
 have h : Z.length ≤ A.length := (hZ.len_le_iff _).2 (by have := hA.len_lt; omega)
 omega
set_option maxRecDepth 100000 in
set_option maxHeartbeats 1000000 in
theorem sum_any (na nb : Bool) (sa sb : Value) (A B : List Int) (n m : Int) (w : World) (hA : Rep A n) (hB : Rep B m) (hla : A.length ≤ 35184372088830) (hlb : B.length ≤ 35184372088830)
 (hLa : Lims w.heap.size w sa A) (hLb : Lims w.heap.size w sb B) :
 Calls Tryz.prog 100 #[.agg #[.bool na, sa], .agg #[.bool nb, sb]] w (FitPost w.heap.size (sgn na n + sgn nb m) w) := by
 obtain ⟨w3, hw3⟩ : ∃ w3, w3 = ((w.alloc (.cells #[.bool na, sa] 24)).alloc (.cells #[.bool nb, sb] 24)).alloc (.cells #[.bool false, .slice none 0 0] 24) := ⟨_, rfl⟩
 have hB3 : Below w.heap.size w w3 := by rw [hw3]; exact (((Below.refl _ w).alloc (Nat.le_refl _) _).alloc (by simp) _).alloc (by simp; omega) _
 have hs3 : w3.heap.size = w.heap.size + 3 := by rw [hw3]; simp
 have hn := hA.nonneg
 have hm := hB.nonneg
 obtain ⟨q0, q1, q2⟩ := alloc3 w (.cells #[.bool na, sa] 24) (.cells #[.bool nb, sb] 24) (.cells #[.bool false, .slice none 0 0] 24)
 rw [← hw3] at q0 q1 q2
 go_enter Tryz.func100, Tryz.ntmps100
 by_cases hab : na = nb
 · subst hab
   go_wp2_with (go_at_call 130; rw [← hw3]; refine (compare_any sa sb A B n m w3 hA hB (by omega) (by omega) ((hLa.below hB3).mono hB3.size) ((hLb.below hB3).mono hB3.size)).mono ?_; rintro e w1 ⟨rfl, hb1⟩; have p0 := (hb1.block _ (show w.heap.size < w3.heap.size by omega)).trans q0; have p1 := (hb1.block _ (show w.heap.size + 1 < w3.heap.size by omega)).trans q1; have c0 := cell_of p0 0 rfl; have c2 := cell_of p1 0 rfl)
   have hs1 : w.heap.size + 3 ≤ w1.heap.size := by have := hb1.size; omega
   have p2 := (hb1.block _ (show w.heap.size + 1 + 1 < w3.heap.size by omega)).trans q2
   have hB1 : Below w.heap.size w w1 := hB3.trans (hb1.mono hB3.size)
   clear hw3 q0 q1 q2 hB3 c0 c2
   have hb4 := p2
   have k0 : ∀ W, Below w1.heap.size w1 W → W.cell? ⟨w.heap.size, 0, none⟩ = some (.bool na) := fun W h => cell_of ((h.block _ (by omega)).trans p0) 0 rfl
   have k1 : ∀ W, Below w1.heap.size w1 W → W.cell? ⟨w.heap.size, 1, none⟩ = some sa := fun W h => cell_of ((h.block _ (by omega)).trans p0) 1 rfl
   have k2 : ∀ W, Below w1.heap.size w1 W → W.cell? ⟨w.heap.size + 1, 0, none⟩ = some (.bool na) := fun W h => cell_of ((h.block _ (by omega)).trans p1) 0 rfl
   have k3 : ∀ W, Below w1.heap.size w1 W → W.cell? ⟨w.heap.size + 1, 1, none⟩ = some sb := fun W h => cell_of ((h.block _ (by omega)).trans p1) 1 rfl
   have k4 : ∀ W, Below w1.heap.size w1 W → W.cell? ⟨w.heap.size + 1 + 1, 0, none⟩ = some (.bool false) := fun W h => cell_of ((h.block _ (by omega)).trans p2) 0 rfl
   have k5 : ∀ W, Below w1.heap.size w1 W → W.cell? ⟨w.heap.size + 1 + 1, 1, none⟩ = some (.slice none 0 0) := fun W h => cell_of ((h.block _ (by omega)).trans p2) 1 rfl
   have k6 : ∀ W, Below w1.heap.size w1 W → W.frozen? ⟨w.heap.size + 1 + 1, 0, none⟩ = false := fun W h => frozen_of ((h.block _ (by omega)).trans p2) 0
   have k7 : ∀ W, Below w1.heap.size w1 W → W.frozen? ⟨w.heap.size + 1 + 1, 1, none⟩ = false := fun W h => frozen_of ((h.block _ (by omega)).trans p2) 1
   obtain ⟨IA, HIA⟩ : ∃ I : (Nat → Bool) → Act → World → Prop, Hid (I = (fun dn a' W2 => ∃ u18 u19 u20 u21 u22 u23 u24 u25 u26 u27 u5 : Value, ∃ v1 : Value, ∃ z1 : List Int, ∃ b2 : Bool, ∃ p2 : Option Addr, ∃ l2 : Nat, ∃ c2 : Nat, ∃ er : Int, ∃ W' : World, a' = { tmps := #[.agg #[.bool na, sa], .agg #[.bool na, sb], .pointer (some ⟨w.heap.size, 0, none⟩), .pointer (some ⟨(w.heap.size + 1), 0, none⟩), .pointer (some ⟨(w.heap.size + 1 + 1), 0, none⟩), u5, .int .i64 (cmpI n m), .pointer (some ⟨w.heap.size, 1, none⟩), sa, .pointer (some ⟨(w.heap.size + 1), 1, none⟩), sb, .int .i64 (cmpI n m), .bool true, .pointer (some ⟨w.heap.size, 0, none⟩), .bool na, .pointer (some ⟨(w.heap.size + 1), 0, none⟩), .bool na, .bool true, u18, u19, u20, u21, u22, u23, u24, u25, u26, u27, undef, undef, undef, undef, undef, undef, undef, undef, undef, undef, undef, undef, undef, undef, undef, undef, undef, undef, undef, undef, undef, undef, undef], defers := [] } ∧ (dn 0 = true → u18 = .pointer (some ⟨w.heap.size, 0, none⟩)) ∧ (dn 1 = true → u19 = .bool na) ∧ (dn 2 = true → u20 = .pointer (some ⟨w.heap.size, 1, none⟩)) ∧ (dn 3 = true → u21 = sa) ∧ (dn 4 = true → u22 = .pointer (some ⟨(w.heap.size + 1), 1, none⟩)) ∧ (dn 5 = true → u23 = sb) ∧ (dn 6 = true → u24 = v1) ∧ (dn 7 = true → u25 = .tuple #[.agg #[.bool b2, .slice p2 l2 c2], .int .i64 er]) ∧ (dn 8 = true → u26 = .agg #[.bool b2, .slice p2 l2 c2]) ∧ (dn 9 = true → u27 = .int .i64 er) ∧ (dn 11 = true → u5 = .int .i64 er) ∧ Below w1.heap.size w1 W' ∧ (dn 6 = true → OwnR w1.heap.size W' v1 z1 (n + m)) ∧ (dn 7 = true → FitW w1.heap.size W' (.agg #[.bool b2, .slice p2 l2 c2]) er (sgn na (n + m))) ∧ Hid (dn 8 = true → dn 7 = true) ∧ Hid (dn 9 = true → dn 7 = true) ∧ Hid (dn 11 = true → dn 7 = true) ∧ (dn 10 = false → W2 = W') ∧ (dn 10 = true → W2 = put2 W' (w.heap.size + 1 + 1) (.bool b2) (.slice p2 l2 c2)) ∧ Hid (dn 10 = true → ∀ i, i < 10 → dn i = true))) := ⟨_, rfl⟩
   refine (wpIn_wide (n := 9)).1 ?_
   refine wpIn_region_conf IA (n := 9) (by kernel_rfl) (by kernel_rfl) ?h0A ?hstepA ?hendA
   case h0A =>
    rw [HIA.out]
    exact ⟨undef, undef, undef, undef, undef, undef, undef, undef, undef, undef, Value.int IntKind.i64 0, undef, [], false, none, 0, 0, 0, _, rfl, (fun h => by cases h), (fun h => by cases h), (fun h => by cases h), (fun h => by cases h), (fun h => by cases h), (fun h => by cases h), (fun h => by cases h), (fun h => by cases h), (fun h => by cases h), (fun h => by cases h), (fun h => by cases h), (Below.refl _ _).drew, (fun h => by cases h), (fun h => by cases h), (Lib.hid (fun h => by cases h)), (Lib.hid (fun h => by cases h)), (Lib.hid (fun h => by cases h)), (fun _ => rfl), (fun h => by cases h), (Lib.hid (fun h => by cases h))⟩
   case hstepA =>
    intro dn a' W2 hI i o ho hd hdep
    match i, ho with
    | 0, ho =>
     rw [HIA.out] at hI
     obtain ⟨u18, u19, u20, u21, u22, u23, u24, u25, u26, u27, u5, v1, z1, b2, p2, l2, c2, er, W', rfl, f0, f1, f2, f3, f4, f5, f6, f7, f8, f9, f11, gB, g6, g7, k8_7, k9_7, k11_7, s0, s1, sd⟩ := hI
     have hS : dn 10 = false := by cases h : dn 10 with | false => rfl | true => exact absurd (sd.out h 0 (by decide)) (by rw [hd]; decide)
     obtain rfl := s0 hS
     clear s0 s1
     refine opIn_of_list ho ?_
     cases ho
     clear hdep
     gi_wp2
     rw [HIA.out]
     exact ⟨_, _, _, _, _, _, _, _, _, _, _, _, _, _, _, _, _, _, W2, rfl, fun _ => rfl, lf f1, lf f2, lf f3, lf f4, lf f5, lf f6, lf f7, lf f8, lf f9, lf f11, gB, lf g6, lf g7, (Lib.hid (fun h0 => upd_mono (k8_7.out (lu h0)))), (Lib.hid (fun h0 => upd_mono (k9_7.out (lu h0)))), (Lib.hid (fun h0 => upd_mono (k11_7.out (lu h0)))), (fun _ => rfl), (fun h0 => absurd (show dn 10 = true by simpa [upd] using h0) (by rw [hS]; decide)), (Lib.hid (fun h0 => absurd (show dn 10 = true by simpa [upd] using h0) (by rw [hS]; decide)))⟩
    | 1, ho =>
     have e0 : dn 0 = true := hdep ⟨0, .data⟩ (by cases ho; simp) rfl
     rw [HIA.out] at hI
     obtain ⟨u18, u19, u20, u21, u22, u23, u24, u25, u26, u27, u5, v1, z1, b2, p2, l2, c2, er, W', rfl, f0, f1, f2, f3, f4, f5, f6, f7, f8, f9, f11, gB, g6, g7, k8_7, k9_7, k11_7, s0, s1, sd⟩ := hI
     obtain rfl := (f0 e0).symm
     have hS : dn 10 = false := by cases h : dn 10 with | false => rfl | true => exact absurd (sd.out h 1 (by decide)) (by rw [hd]; decide)
     obtain rfl := s0 hS
     clear s0 s1
     refine opIn_of_list ho ?_
     cases ho
     clear hdep
     have hc0 := k0 _ gB
     gi_wp2
     rw [HIA.out]
     exact ⟨_, _, _, _, _, _, _, _, _, _, _, _, _, _, _, _, _, _, W2, rfl, fun _ => rfl, fun _ => rfl, lf f2, lf f3, lf f4, lf f5, lf f6, lf f7, lf f8, lf f9, lf f11, gB, lf g6, lf g7, (Lib.hid (fun h0 => upd_mono (k8_7.out (lu h0)))), (Lib.hid (fun h0 => upd_mono (k9_7.out (lu h0)))), (Lib.hid (fun h0 => upd_mono (k11_7.out (lu h0)))), (fun _ => rfl), (fun h0 => absurd (show dn 10 = true by simpa [upd] using h0) (by rw [hS]; decide)), (Lib.hid (fun h0 => absurd (show dn 10 = true by simpa [upd] using h0) (by rw [hS]; decide)))⟩
    | 2, ho =>
     rw [HIA.out] at hI
     obtain ⟨u18, u19, u20, u21, u22, u23, u24, u25, u26, u27, u5, v1, z1, b2, p2, l2, c2, er, W', rfl, f0, f1, f2, f3, f4, f5, f6, f7, f8, f9, f11, gB, g6, g7, k8_7, k9_7, k11_7, s0, s1, sd⟩ := hI
     have hS : dn 10 = false := by cases h : dn 10 with | false => rfl | true => exact absurd (sd.out h 2 (by decide)) (by rw [hd]; decide)
     obtain rfl := s0 hS
     clear s0 s1
     refine opIn_of_list ho ?_
     cases ho
     clear hdep
     gi_wp2
     rw [HIA.out]
     exact ⟨_, _, _, _, _, _, _, _, _, _, _, _, _, _, _, _, _, _, W2, rfl, lf f0, lf f1, fun _ => rfl, lf f3, lf f4, lf f5, lf f6, lf f7, lf f8, lf f9, lf f11, gB, lf g6, lf g7, (Lib.hid (fun h0 => upd_mono (k8_7.out (lu h0)))), (Lib.hid (fun h0 => upd_mono (k9_7.out (lu h0)))), (Lib.hid (fun h0 => upd_mono (k11_7.out (lu h0)))), (fun _ => rfl), (fun h0 => absurd (show dn 10 = true by simpa [upd] using h0) (by rw [hS]; decide)), (Lib.hid (fun h0 => absurd (show dn 10 = true by simpa [upd] using h0) (by rw [hS]; decide)))⟩
    | 3, ho =>
     have e2 : dn 2 = true := hdep ⟨2, .data⟩ (by cases ho; simp) rfl
     rw [HIA.out] at hI
     obtain ⟨u18, u19, u20, u21, u22, u23, u24, u25, u26, u27, u5, v1, z1, b2, p2, l2, c2, er, W', rfl, f0, f1, f2, f3, f4, f5, f6, f7, f8, f9, f11, gB, g6, g7, k8_7, k9_7, k11_7, s0, s1, sd⟩ := hI
     obtain rfl := (f2 e2).symm
     have hS : dn 10 = false := by cases h : dn 10 with | false => rfl | true => exact absurd (sd.out h 3 (by decide)) (by rw [hd]; decide)
     obtain rfl := s0 hS
     clear s0 s1
     refine opIn_of_list ho ?_
     cases ho
     clear hdep
     have hc0 := k1 _ gB
     gi_wp2
     rw [HIA.out]
     exact ⟨_, _, _, _, _, _, _, _, _, _, _, _, _, _, _, _, _, _, W2, rfl, lf f0, lf f1, fun _ => rfl, fun _ => rfl, lf f4, lf f5, lf f6, lf f7, lf f8, lf f9, lf f11, gB, lf g6, lf g7, (Lib.hid (fun h0 => upd_mono (k8_7.out (lu h0)))), (Lib.hid (fun h0 => upd_mono (k9_7.out (lu h0)))), (Lib.hid (fun h0 => upd_mono (k11_7.out (lu h0)))), (fun _ => rfl), (fun h0 => absurd (show dn 10 = true by simpa [upd] using h0) (by rw [hS]; decide)), (Lib.hid (fun h0 => absurd (show dn 10 = true by simpa [upd] using h0) (by rw [hS]; decide)))⟩
    | 4, ho =>
     rw [HIA.out] at hI
     obtain ⟨u18, u19, u20, u21, u22, u23, u24, u25, u26, u27, u5, v1, z1, b2, p2, l2, c2, er, W', rfl, f0, f1, f2, f3, f4, f5, f6, f7, f8, f9, f11, gB, g6, g7, k8_7, k9_7, k11_7, s0, s1, sd⟩ := hI
     have hS : dn 10 = false := by cases h : dn 10 with | false => rfl | true => exact absurd (sd.out h 4 (by decide)) (by rw [hd]; decide)
     obtain rfl := s0 hS
     clear s0 s1
     refine opIn_of_list ho ?_
     cases ho
     clear hdep
     gi_wp2
     rw [HIA.out]
     exact ⟨_, _, _, _, _, _, _, _, _, _, _, _, _, _, _, _, _, _, W2, rfl, lf f0, lf f1, lf f2, lf f3, fun _ => rfl, lf f5, lf f6, lf f7, lf f8, lf f9, lf f11, gB, lf g6, lf g7, (Lib.hid (fun h0 => upd_mono (k8_7.out (lu h0)))), (Lib.hid (fun h0 => upd_mono (k9_7.out (lu h0)))), (Lib.hid (fun h0 => upd_mono (k11_7.out (lu h0)))), (fun _ => rfl), (fun h0 => absurd (show dn 10 = true by simpa [upd] using h0) (by rw [hS]; decide)), (Lib.hid (fun h0 => absurd (show dn 10 = true by simpa [upd] using h0) (by rw [hS]; decide)))⟩
    | 5, ho =>
     have e4 : dn 4 = true := hdep ⟨4, .data⟩ (by cases ho; simp) rfl
     rw [HIA.out] at hI
     obtain ⟨u18, u19, u20, u21, u22, u23, u24, u25, u26, u27, u5, v1, z1, b2, p2, l2, c2, er, W', rfl, f0, f1, f2, f3, f4, f5, f6, f7, f8, f9, f11, gB, g6, g7, k8_7, k9_7, k11_7, s0, s1, sd⟩ := hI
     obtain rfl := (f4 e4).symm
     have hS : dn 10 = false := by cases h : dn 10 with | false => rfl | true => exact absurd (sd.out h 5 (by decide)) (by rw [hd]; decide)
     obtain rfl := s0 hS
     clear s0 s1
     refine opIn_of_list ho ?_
     cases ho
     clear hdep
     have hc0 := k3 _ gB
     gi_wp2
     rw [HIA.out]
     exact ⟨_, _, _, _, _, _, _, _, _, _, _, _, _, _, _, _, _, _, W2, rfl, lf f0, lf f1, lf f2, lf f3, fun _ => rfl, fun _ => rfl, lf f6, lf f7, lf f8, lf f9, lf f11, gB, lf g6, lf g7, (Lib.hid (fun h0 => upd_mono (k8_7.out (lu h0)))), (Lib.hid (fun h0 => upd_mono (k9_7.out (lu h0)))), (Lib.hid (fun h0 => upd_mono (k11_7.out (lu h0)))), (fun _ => rfl), (fun h0 => absurd (show dn 10 = true by simpa [upd] using h0) (by rw [hS]; decide)), (Lib.hid (fun h0 => absurd (show dn 10 = true by simpa [upd] using h0) (by rw [hS]; decide)))⟩
    | 6, ho =>
     have e3 : dn 3 = true := hdep ⟨3, .data⟩ (by cases ho; simp) rfl
     have e5 : dn 5 = true := hdep ⟨5, .data⟩ (by cases ho; simp) rfl
     rw [HIA.out] at hI
     obtain ⟨u18, u19, u20, u21, u22, u23, u24, u25, u26, u27, u5, v1, z1, b2, p2, l2, c2, er, W', rfl, f0, f1, f2, f3, f4, f5, f6, f7, f8, f9, f11, gB, g6, g7, k8_7, k9_7, k11_7, s0, s1, sd⟩ := hI
     obtain rfl := (f3 e3).symm
     obtain rfl := (f5 e5).symm
     have hS : dn 10 = false := by cases h : dn 10 with | false => rfl | true => exact absurd (sd.out h 6 (by decide)) (by rw [hd]; decide)
     obtain rfl := s0 hS
     clear s0 s1
     refine opIn_of_list ho ?_
     cases ho
     clear hdep
     gi_wp2
     refine ⟨trivial, ?_⟩
     refine CallsIn.mono ((callsIn_wide (n := 8)).2 (add_any sa sb A B n m _ hA hB (by omega) (by omega) ((hLa.below hB1).mono hB1.size |>.below gB |>.mono gB.size) ((hLb.below hB1).mono hB1.size |>.below gB |>.mono gB.size))) ?_
     rintro e w5 ⟨vv, zz, rfl, hown, hrep, hb5⟩
     replace hown := hown.mono gB.size
     obtain ⟨pp, ll, cc, rfl⟩ := hown.shape
     gi_wp2
     rw [HIA.out]
     exact ⟨_, _, _, _, _, _, _, _, _, _, _, Value.slice pp ll cc, zz, _, _, _, _, _, w5, rfl, lf f0, lf f1, lf f2, fun _ => rfl, lf f4, fun _ => rfl, fun _ => rfl, lf f7, lf f8, lf f9, lf f11, gB.trans (hb5.mono gB.size), (fun _ => ⟨hown, hrep⟩), (fun h0 => (g7 (lu h0)).below hb5), (Lib.hid (fun h0 => upd_mono (k8_7.out (lu h0)))), (Lib.hid (fun h0 => upd_mono (k9_7.out (lu h0)))), (Lib.hid (fun h0 => upd_mono (k11_7.out (lu h0)))), (fun _ => rfl), (fun h0 => absurd (show dn 10 = true by simpa [upd] using h0) (by rw [hS]; decide)), (Lib.hid (fun h0 => absurd (show dn 10 = true by simpa [upd] using h0) (by rw [hS]; decide)))⟩
    | 7, ho =>
     have e1 : dn 1 = true := hdep ⟨1, .data⟩ (by cases ho; simp) rfl
     have e6 : dn 6 = true := hdep ⟨6, .data⟩ (by cases ho; simp) rfl
     rw [HIA.out] at hI
     obtain ⟨u18, u19, u20, u21, u22, u23, u24, u25, u26, u27, u5, v1, z1, b2, p2, l2, c2, er, W', rfl, f0, f1, f2, f3, f4, f5, f6, f7, f8, f9, f11, gB, g6, g7, k8_7, k9_7, k11_7, s0, s1, sd⟩ := hI
     obtain rfl := (f1 e1).symm
     obtain rfl := (f6 e6).symm
     have hS : dn 10 = false := by cases h : dn 10 with | false => rfl | true => exact absurd (sd.out h 7 (by decide)) (by rw [hd]; decide)
     obtain rfl := s0 hS
     clear s0 s1
     refine opIn_of_list ho ?_
     cases ho
     clear hdep
     gi_wp2
     refine ⟨trivial, ?_⟩
     have hlz : z1.length ≤ 140737488355328 := rep_len_add hA hB (g6 e6).2 (by omega) (by omega)
     refine CallsIn.mono ((callsIn_wide (n := 8)).2 (made_any na v1 z1 (n + m) w1.heap.size _ (g6 e6).2 (g6 e6).1 hlz)) ?_
     rintro e w5 ⟨bb, pp, ll, cc, ee, rfl, hfit, hb5⟩
     gi_wp2
     rw [HIA.out]
     exact ⟨_, _, _, _, _, _, _, _, _, _, _, _, _, bb, pp, ll, cc, ee, w5, rfl, lf f0, fun _ => rfl, lf f2, lf f3, lf f4, lf f5, fun _ => rfl, fun _ => rfl, (fun h0 => absurd (k8_7.out (lu h0)) (by rw [hd]; decide)), (fun h0 => absurd (k9_7.out (lu h0)) (by rw [hd]; decide)), (fun h0 => absurd (k11_7.out (lu h0)) (by rw [hd]; decide)), gB.trans (hb5.mono gB.size), (fun h0 => (g6 (lu h0)).below hb5), (fun _ => hfit), (Lib.hid (fun _ => upd_same _ _)), (Lib.hid (fun _ => upd_same _ _)), (Lib.hid (fun _ => upd_same _ _)), (fun _ => rfl), (fun h0 => absurd (show dn 10 = true by simpa [upd] using h0) (by rw [hS]; decide)), (Lib.hid (fun h0 => absurd (show dn 10 = true by simpa [upd] using h0) (by rw [hS]; decide)))⟩
    | 8, ho =>
     have e7 : dn 7 = true := hdep ⟨7, .data⟩ (by cases ho; simp) rfl
     rw [HIA.out] at hI
     obtain ⟨u18, u19, u20, u21, u22, u23, u24, u25, u26, u27, u5, v1, z1, b2, p2, l2, c2, er, W', rfl, f0, f1, f2, f3, f4, f5, f6, f7, f8, f9, f11, gB, g6, g7, k8_7, k9_7, k11_7, s0, s1, sd⟩ := hI
     obtain rfl := (f7 e7).symm
     have hS : dn 10 = false := by cases h : dn 10 with | false => rfl | true => exact absurd (sd.out h 8 (by decide)) (by rw [hd]; decide)
     obtain rfl := s0 hS
     clear s0 s1
     refine opIn_of_list ho ?_
     cases ho
     clear hdep
     gi_wp2
     rw [HIA.out]
     exact ⟨_, _, _, _, _, _, _, _, _, _, _, _, _, _, _, _, _, _, W2, rfl, lf f0, lf f1, lf f2, lf f3, lf f4, lf f5, lf f6, fun _ => rfl, fun _ => rfl, lf f9, lf f11, gB, lf g6, lf g7, (Lib.hid (fun _ => upd_mono e7)), (Lib.hid (fun h0 => upd_mono (k9_7.out (lu h0)))), (Lib.hid (fun h0 => upd_mono (k11_7.out (lu h0)))), (fun _ => rfl), (fun h0 => absurd (show dn 10 = true by simpa [upd] using h0) (by rw [hS]; decide)), (Lib.hid (fun h0 => absurd (show dn 10 = true by simpa [upd] using h0) (by rw [hS]; decide)))⟩
    | 9, ho =>
     have e7 : dn 7 = true := hdep ⟨7, .data⟩ (by cases ho; simp) rfl
     rw [HIA.out] at hI
     obtain ⟨u18, u19, u20, u21, u22, u23, u24, u25, u26, u27, u5, v1, z1, b2, p2, l2, c2, er, W', rfl, f0, f1, f2, f3, f4, f5, f6, f7, f8, f9, f11, gB, g6, g7, k8_7, k9_7, k11_7, s0, s1, sd⟩ := hI
     obtain rfl := (f7 e7).symm
     have hS : dn 10 = false := by cases h : dn 10 with | false => rfl | true => exact absurd (sd.out h 9 (by decide)) (by rw [hd]; decide)
     obtain rfl := s0 hS
     clear s0 s1
     refine opIn_of_list ho ?_
     cases ho
     clear hdep
     gi_wp2
     rw [HIA.out]
     exact ⟨_, _, _, _, _, _, _, _, _, _, _, _, _, _, _, _, _, _, W2, rfl, lf f0, lf f1, lf f2, lf f3, lf f4, lf f5, lf f6, fun _ => rfl, lf f8, fun _ => rfl, lf f11, gB, lf g6, lf g7, (Lib.hid (fun h0 => upd_mono (k8_7.out (lu h0)))), (Lib.hid (fun _ => upd_mono e7)), (Lib.hid (fun h0 => upd_mono (k11_7.out (lu h0)))), (fun _ => rfl), (fun h0 => absurd (show dn 10 = true by simpa [upd] using h0) (by rw [hS]; decide)), (Lib.hid (fun h0 => absurd (show dn 10 = true by simpa [upd] using h0) (by rw [hS]; decide)))⟩
    | 10, ho =>
     have e8 : dn 8 = true := hdep ⟨8, .data⟩ (by cases ho; simp) rfl
     have e7 : dn 7 = true := hdep ⟨7, .chain⟩ (by cases ho; simp) rfl
     rw [HIA.out] at hI
     obtain ⟨u18, u19, u20, u21, u22, u23, u24, u25, u26, u27, u5, v1, z1, b2, p2, l2, c2, er, W', rfl, f0, f1, f2, f3, f4, f5, f6, f7, f8, f9, f11, gB, g6, g7, k8_7, k9_7, k11_7, s0, s1, sd⟩ := hI
     obtain rfl := (f8 e8).symm
     obtain rfl := (f7 e7).symm
     have hS : dn 10 = false := hd
     obtain rfl := s0 hS
     clear s0 s1
     have hdone : ∀ j, j < 10 → dn j = true := by
      intro j hj
      match j, hj with
      | 0, _ => exact hdep ⟨0, .phase⟩ (by cases ho; simp) rfl
      | 1, _ => exact hdep ⟨1, .phase⟩ (by cases ho; simp) rfl
      | 2, _ => exact hdep ⟨2, .phase⟩ (by cases ho; simp) rfl
      | 3, _ => exact hdep ⟨3, .phase⟩ (by cases ho; simp) rfl
      | 4, _ => exact hdep ⟨4, .phase⟩ (by cases ho; simp) rfl
      | 5, _ => exact hdep ⟨5, .phase⟩ (by cases ho; simp) rfl
      | 6, _ => exact hdep ⟨6, .phase⟩ (by cases ho; simp) rfl
      | 7, _ => exact hdep ⟨7, .phase⟩ (by cases ho; simp) rfl
      | 8, _ => exact hdep ⟨8, .phase⟩ (by cases ho; simp) rfl
      | 9, _ => exact hdep ⟨9, .phase⟩ (by cases ho; simp) rfl
      | k + 10, h => exact absurd h (by omega)
     have HDONE := Lib.hid hdone
     clear hdone
     refine opIn_of_list ho ?_
     cases ho
     clear hdep
     have hc0 := k4 _ gB
     have hc1 := k5 _ gB
     have hf0 := k6 _ gB
     have hf1 := k7 _ gB
     gi_wp2
     rw [HIA.out]
     exact ⟨_, _, _, _, _, _, _, _, _, _, _, _, _, _, _, _, _, _, W2, rfl, lf f0, lf f1, lf f2, lf f3, lf f4, lf f5, lf f6, fun _ => rfl, fun _ => rfl, lf f9, lf f11, gB, lf g6, lf g7, (Lib.hid (fun h0 => upd_mono (k8_7.out (lu h0)))), (Lib.hid (fun h0 => upd_mono (k9_7.out (lu h0)))), (Lib.hid (fun h0 => upd_mono (k11_7.out (lu h0)))), (fun h0 => by rw [upd_same] at h0; cases h0), (fun _ => rfl), (Lib.hid (fun _ j hj => upd_mono (HDONE.out j hj)))⟩
    | 11, ho =>
     have e9 : dn 9 = true := hdep ⟨9, .data⟩ (by cases ho; simp) rfl
     have e10 : dn 10 = true := hdep ⟨10, .chain⟩ (by cases ho; simp) rfl
     rw [HIA.out] at hI
     obtain ⟨u18, u19, u20, u21, u22, u23, u24, u25, u26, u27, u5, v1, z1, b2, p2, l2, c2, er, W', rfl, f0, f1, f2, f3, f4, f5, f6, f7, f8, f9, f11, gB, g6, g7, k8_7, k9_7, k11_7, s0, s1, sd⟩ := hI
     obtain rfl := (f9 e9).symm
     obtain rfl := s1 e10
     clear s0 s1
     refine opIn_of_list ho ?_
     cases ho
     clear hdep
     gi_wp2
     rw [HIA.out]
     exact ⟨_, _, _, _, _, _, _, _, _, _, _, _, _, _, _, _, _, _, W', rfl, lf f0, lf f1, lf f2, lf f3, lf f4, lf f5, lf f6, lf f7, lf f8, fun _ => rfl, fun _ => rfl, gB, lf g6, lf g7, (Lib.hid (fun h0 => upd_mono (k8_7.out (lu h0)))), (Lib.hid (fun h0 => upd_mono (k9_7.out (lu h0)))), (Lib.hid (fun _ => upd_mono (k9_7.out e9))), (fun h0 => absurd (upd_mono e10) (by rw [h0]; decide)), (fun _ => rfl), (Lib.hid (fun h0 j hj => upd_mono (sd.out (lu h0) j hj)))⟩
    | k + 12, ho => simp at ho
   case hendA =>
    intro dn a' W2 hI hall
    rw [HIA.out] at hI
    obtain ⟨u18, u19, u20, u21, u22, u23, u24, u25, u26, u27, u5, v1, z1, b2, p2, l2, c2, er, W', rfl, f0, f1, f2, f3, f4, f5, f6, f7, f8, f9, f11, gB, g6, g7, k8_7, k9_7, k11_7, s0, s1, sd⟩ := hI
    obtain rfl := s1 (hall 10 (by decide))
    have G6 := g6 (hall 6 (by decide))
    have G7 := g7 (hall 7 (by decide))
    obtain rfl := (f0 (hall 0 (by decide))).symm
    obtain rfl := (f1 (hall 1 (by decide))).symm
    obtain rfl := (f2 (hall 2 (by decide))).symm
    obtain rfl := (f3 (hall 3 (by decide))).symm
    obtain rfl := (f4 (hall 4 (by decide))).symm
    obtain rfl := (f5 (hall 5 (by decide))).symm
    obtain rfl := (f6 (hall 6 (by decide))).symm
    obtain rfl := (f7 (hall 7 (by decide))).symm
    obtain rfl := (f8 (hall 8 (by decide))).symm
    obtain rfl := (f9 (hall 9 (by decide))).symm
    obtain rfl := (f11 (hall 11 (by decide))).symm
    clear hall g6 g7 HIA
    have hb4 : W'.heap[w.heap.size + 1 + 1]? = some (.cells #[.bool false, .slice none 0 0] 24) := (gB.block _ (by omega)).trans hb4
    obtain ⟨r0, r1⟩ := put2_cell hb4 (.bool b2) (.slice p2 l2 c2)
    have hfit : FitW w.heap.size (put2 W' (w.heap.size + 1 + 1) (.bool b2) (.slice p2 l2 c2)) (.agg #[.bool b2, .slice p2 l2 c2]) er ((sgn na n + sgn na m)) := by
     have h := (G7.mono (by omega : w.heap.size ≤ w1.heap.size)).put2 hb4 (by decide) (.bool b2) (.slice p2 l2 c2)
     have e : (sgn na n + sgn na m) = sgn na (n + m) := by unfold sgn; cases na <;> simp only [cond_true, cond_false] <;> omega
     rw [e]; exact h
    have hbe : Below w.heap.size w (put2 W' (w.heap.size + 1 + 1) (.bool b2) (.slice p2 l2 c2)) := (hB1.trans (gB.mono hB1.size)).trans ((put2_only _ _ _ _).below (by omega))
    generalize put2 W' (w.heap.size + 1 + 1) (.bool b2) (.slice p2 l2 c2) = W9 at *
    go_wp2
    exact bodyPost_ret (v := .tuple #[.agg #[.bool b2, .slice p2 l2 c2], .int .i64 er]) (by simp [results, Tryz.results100, go_sem, r0, r1]) rfl ⟨b2, p2, l2, c2, er, rfl, hfit, hbe⟩
 have hne : ¬ (na == nb) = true := by simpa using hab
 obtain rfl : nb = !na := by cases na <;> cases nb <;> simp_all
 rcases (show m ≤ n ∨ n < m by omega) with hnm | hnm
 · have hcmp : 0 ≤ cmpI n m := cmpI_le.2 hnm
   go_wp2_with (go_at_call 130; rw [← hw3]; refine (compare_any sa sb A B n m w3 hA hB (by omega) (by omega) ((hLa.below hB3).mono hB3.size) ((hLb.below hB3).mono hB3.size)).mono ?_; rintro e w1 ⟨rfl, hb1⟩; have p0 := (hb1.block _ (show w.heap.size < w3.heap.size by omega)).trans q0; have p1 := (hb1.block _ (show w.heap.size + 1 < w3.heap.size by omega)).trans q1; have c0 := cell_of p0 0 rfl; have c2 := cell_of p1 0 rfl)
   have hs1 : w.heap.size + 3 ≤ w1.heap.size := by have := hb1.size; omega
   have p2 := (hb1.block _ (show w.heap.size + 1 + 1 < w3.heap.size by omega)).trans q2
   have hB1 : Below w.heap.size w w1 := hB3.trans (hb1.mono hB3.size)
   clear hw3 q0 q1 q2 hB3 c0 c2
   have hb4 := p2
   have k0 : ∀ W, Below w1.heap.size w1 W → W.cell? ⟨w.heap.size, 0, none⟩ = some (.bool na) := fun W h => cell_of ((h.block _ (by omega)).trans p0) 0 rfl
   have k1 : ∀ W, Below w1.heap.size w1 W → W.cell? ⟨w.heap.size, 1, none⟩ = some sa := fun W h => cell_of ((h.block _ (by omega)).trans p0) 1 rfl
   have k2 : ∀ W, Below w1.heap.size w1 W → W.cell? ⟨w.heap.size + 1, 0, none⟩ = some (.bool (!na)) := fun W h => cell_of ((h.block _ (by omega)).trans p1) 0 rfl
   have k3 : ∀ W, Below w1.heap.size w1 W → W.cell? ⟨w.heap.size + 1, 1, none⟩ = some sb := fun W h => cell_of ((h.block _ (by omega)).trans p1) 1 rfl
   have k4 : ∀ W, Below w1.heap.size w1 W → W.cell? ⟨w.heap.size + 1 + 1, 0, none⟩ = some (.bool false) := fun W h => cell_of ((h.block _ (by omega)).trans p2) 0 rfl
   have k5 : ∀ W, Below w1.heap.size w1 W → W.cell? ⟨w.heap.size + 1 + 1, 1, none⟩ = some (.slice none 0 0) := fun W h => cell_of ((h.block _ (by omega)).trans p2) 1 rfl
   have k6 : ∀ W, Below w1.heap.size w1 W → W.frozen? ⟨w.heap.size + 1 + 1, 0, none⟩ = false := fun W h => frozen_of ((h.block _ (by omega)).trans p2) 0
   have k7 : ∀ W, Below w1.heap.size w1 W → W.frozen? ⟨w.heap.size + 1 + 1, 1, none⟩ = false := fun W h => frozen_of ((h.block _ (by omega)).trans p2) 1
   obtain ⟨IB, HIB⟩ : ∃ I : (Nat → Bool) → Act → World → Prop, Hid (I = (fun dn a' W2 => ∃ u31 u32 u33 u34 u35 u36 u37 u38 u39 u40 u5 : Value, ∃ v1 : Value, ∃ z1 : List Int, ∃ b2 : Bool, ∃ p2 : Option Addr, ∃ l2 : Nat, ∃ c2 : Nat, ∃ er : Int, ∃ W' : World, a' = { tmps := #[.agg #[.bool na, sa], .agg #[.bool (!na), sb], .pointer (some ⟨w.heap.size, 0, none⟩), .pointer (some ⟨(w.heap.size + 1), 0, none⟩), .pointer (some ⟨(w.heap.size + 1 + 1), 0, none⟩), u5, .int .i64 (cmpI n m), .pointer (some ⟨w.heap.size, 1, none⟩), sa, .pointer (some ⟨(w.heap.size + 1), 1, none⟩), sb, .int .i64 (cmpI n m), .bool false, .pointer (some ⟨w.heap.size, 0, none⟩), .bool na, .pointer (some ⟨(w.heap.size + 1), 0, none⟩), .bool (!na), .bool false, undef, undef, undef, undef, undef, undef, undef, undef, undef, undef, .bool true, .int .i64 (cmpI n m), .bool true, u31, u32, u33, u34, u35, u36, u37, u38, u39, u40, undef, undef, undef, undef, undef, undef, undef, undef, undef, undef], defers := [] } ∧ (dn 0 = true → u31 = .pointer (some ⟨w.heap.size, 0, none⟩)) ∧ (dn 1 = true → u32 = .bool na) ∧ (dn 2 = true → u33 = .pointer (some ⟨w.heap.size, 1, none⟩)) ∧ (dn 3 = true → u34 = sa) ∧ (dn 4 = true → u35 = .pointer (some ⟨(w.heap.size + 1), 1, none⟩)) ∧ (dn 5 = true → u36 = sb) ∧ (dn 6 = true → u37 = v1) ∧ (dn 7 = true → u38 = .tuple #[.agg #[.bool b2, .slice p2 l2 c2], .int .i64 er]) ∧ (dn 8 = true → u39 = .agg #[.bool b2, .slice p2 l2 c2]) ∧ (dn 9 = true → u40 = .int .i64 er) ∧ (dn 11 = true → u5 = .int .i64 er) ∧ Below w1.heap.size w1 W' ∧ (dn 6 = true → OwnR w1.heap.size W' v1 z1 (n - m)) ∧ (dn 7 = true → FitW w1.heap.size W' (.agg #[.bool b2, .slice p2 l2 c2]) er (sgn na (n - m))) ∧ Hid (dn 8 = true → dn 7 = true) ∧ Hid (dn 9 = true → dn 7 = true) ∧ Hid (dn 11 = true → dn 7 = true) ∧ (dn 10 = false → W2 = W') ∧ (dn 10 = true → W2 = put2 W' (w.heap.size + 1 + 1) (.bool b2) (.slice p2 l2 c2)) ∧ Hid (dn 10 = true → ∀ i, i < 10 → dn i = true))) := ⟨_, rfl⟩
   refine (wpIn_wide (n := 9)).1 ?_
   refine wpIn_region_conf IB (n := 9) (by kernel_rfl) (by kernel_rfl) ?h0B ?hstepB ?hendB
   case h0B =>
    rw [HIB.out]
    exact ⟨undef, undef, undef, undef, undef, undef, undef, undef, undef, undef, Value.int IntKind.i64 0, undef, [], false, none, 0, 0, 0, _, rfl, (fun h => by cases h), (fun h => by cases h), (fun h => by cases h), (fun h => by cases h), (fun h => by cases h), (fun h => by cases h), (fun h => by cases h), (fun h => by cases h), (fun h => by cases h), (fun h => by cases h), (fun h => by cases h), (Below.refl _ _).drew, (fun h => by cases h), (fun h => by cases h), (Lib.hid (fun h => by cases h)), (Lib.hid (fun h => by cases h)), (Lib.hid (fun h => by cases h)), (fun _ => rfl), (fun h => by cases h), (Lib.hid (fun h => by cases h))⟩
   case hstepB =>
    intro dn a' W2 hI i o ho hd hdep
    match i, ho with
    | 0, ho =>
     rw [HIB.out] at hI
     obtain ⟨u31, u32, u33, u34, u35, u36, u37, u38, u39, u40, u5, v1, z1, b2, p2, l2, c2, er, W', rfl, f0, f1, f2, f3, f4, f5, f6, f7, f8, f9, f11, gB, g6, g7, k8_7, k9_7, k11_7, s0, s1, sd⟩ := hI
     have hS : dn 10 = false := by cases h : dn 10 with | false => rfl | true => exact absurd (sd.out h 0 (by decide)) (by rw [hd]; decide)
     obtain rfl := s0 hS
     clear s0 s1
     refine opIn_of_list ho ?_
     cases ho
     clear hdep
     gi_wp2
     rw [HIB.out]
     exact ⟨_, _, _, _, _, _, _, _, _, _, _, _, _, _, _, _, _, _, W2, rfl, fun _ => rfl, lf f1, lf f2, lf f3, lf f4, lf f5, lf f6, lf f7, lf f8, lf f9, lf f11, gB, lf g6, lf g7, (Lib.hid (fun h0 => upd_mono (k8_7.out (lu h0)))), (Lib.hid (fun h0 => upd_mono (k9_7.out (lu h0)))), (Lib.hid (fun h0 => upd_mono (k11_7.out (lu h0)))), (fun _ => rfl), (fun h0 => absurd (show dn 10 = true by simpa [upd] using h0) (by rw [hS]; decide)), (Lib.hid (fun h0 => absurd (show dn 10 = true by simpa [upd] using h0) (by rw [hS]; decide)))⟩
    | 1, ho =>
     have e0 : dn 0 = true := hdep ⟨0, .data⟩ (by cases ho; simp) rfl
     rw [HIB.out] at hI
     obtain ⟨u31, u32, u33, u34, u35, u36, u37, u38, u39, u40, u5, v1, z1, b2, p2, l2, c2, er, W', rfl, f0, f1, f2, f3, f4, f5, f6, f7, f8, f9, f11, gB, g6, g7, k8_7, k9_7, k11_7, s0, s1, sd⟩ := hI
     obtain rfl := (f0 e0).symm
     have hS : dn 10 = false := by cases h : dn 10 with | false => rfl | true => exact absurd (sd.out h 1 (by decide)) (by rw [hd]; decide)
     obtain rfl := s0 hS
     clear s0 s1
     refine opIn_of_list ho ?_
     cases ho
     clear hdep
     have hc0 := k0 _ gB
     gi_wp2
     rw [HIB.out]
     exact ⟨_, _, _, _, _, _, _, _, _, _, _, _, _, _, _, _, _, _, W2, rfl, fun _ => rfl, fun _ => rfl, lf f2, lf f3, lf f4, lf f5, lf f6, lf f7, lf f8, lf f9, lf f11, gB, lf g6, lf g7, (Lib.hid (fun h0 => upd_mono (k8_7.out (lu h0)))), (Lib.hid (fun h0 => upd_mono (k9_7.out (lu h0)))), (Lib.hid (fun h0 => upd_mono (k11_7.out (lu h0)))), (fun _ => rfl), (fun h0 => absurd (show dn 10 = true by simpa [upd] using h0) (by rw [hS]; decide)), (Lib.hid (fun h0 => absurd (show dn 10 = true by simpa [upd] using h0) (by rw [hS]; decide)))⟩
    | 2, ho =>
     rw [HIB.out] at hI
     obtain ⟨u31, u32, u33, u34, u35, u36, u37, u38, u39, u40, u5, v1, z1, b2, p2, l2, c2, er, W', rfl, f0, f1, f2, f3, f4, f5, f6, f7, f8, f9, f11, gB, g6, g7, k8_7, k9_7, k11_7, s0, s1, sd⟩ := hI
     have hS : dn 10 = false := by cases h : dn 10 with | false => rfl | true => exact absurd (sd.out h 2 (by decide)) (by rw [hd]; decide)
     obtain rfl := s0 hS
     clear s0 s1
     refine opIn_of_list ho ?_
     cases ho
     clear hdep
     gi_wp2
     rw [HIB.out]
     exact ⟨_, _, _, _, _, _, _, _, _, _, _, _, _, _, _, _, _, _, W2, rfl, lf f0, lf f1, fun _ => rfl, lf f3, lf f4, lf f5, lf f6, lf f7, lf f8, lf f9, lf f11, gB, lf g6, lf g7, (Lib.hid (fun h0 => upd_mono (k8_7.out (lu h0)))), (Lib.hid (fun h0 => upd_mono (k9_7.out (lu h0)))), (Lib.hid (fun h0 => upd_mono (k11_7.out (lu h0)))), (fun _ => rfl), (fun h0 => absurd (show dn 10 = true by simpa [upd] using h0) (by rw [hS]; decide)), (Lib.hid (fun h0 => absurd (show dn 10 = true by simpa [upd] using h0) (by rw [hS]; decide)))⟩
    | 3, ho =>
     have e2 : dn 2 = true := hdep ⟨2, .data⟩ (by cases ho; simp) rfl
     rw [HIB.out] at hI
     obtain ⟨u31, u32, u33, u34, u35, u36, u37, u38, u39, u40, u5, v1, z1, b2, p2, l2, c2, er, W', rfl, f0, f1, f2, f3, f4, f5, f6, f7, f8, f9, f11, gB, g6, g7, k8_7, k9_7, k11_7, s0, s1, sd⟩ := hI
     obtain rfl := (f2 e2).symm
     have hS : dn 10 = false := by cases h : dn 10 with | false => rfl | true => exact absurd (sd.out h 3 (by decide)) (by rw [hd]; decide)
     obtain rfl := s0 hS
     clear s0 s1
     refine opIn_of_list ho ?_
     cases ho
     clear hdep
     have hc0 := k1 _ gB
     gi_wp2
     rw [HIB.out]
     exact ⟨_, _, _, _, _, _, _, _, _, _, _, _, _, _, _, _, _, _, W2, rfl, lf f0, lf f1, fun _ => rfl, fun _ => rfl, lf f4, lf f5, lf f6, lf f7, lf f8, lf f9, lf f11, gB, lf g6, lf g7, (Lib.hid (fun h0 => upd_mono (k8_7.out (lu h0)))), (Lib.hid (fun h0 => upd_mono (k9_7.out (lu h0)))), (Lib.hid (fun h0 => upd_mono (k11_7.out (lu h0)))), (fun _ => rfl), (fun h0 => absurd (show dn 10 = true by simpa [upd] using h0) (by rw [hS]; decide)), (Lib.hid (fun h0 => absurd (show dn 10 = true by simpa [upd] using h0) (by rw [hS]; decide)))⟩
    | 4, ho =>
     rw [HIB.out] at hI
     obtain ⟨u31, u32, u33, u34, u35, u36, u37, u38, u39, u40, u5, v1, z1, b2, p2, l2, c2, er, W', rfl, f0, f1, f2, f3, f4, f5, f6, f7, f8, f9, f11, gB, g6, g7, k8_7, k9_7, k11_7, s0, s1, sd⟩ := hI
     have hS : dn 10 = false := by cases h : dn 10 with | false => rfl | true => exact absurd (sd.out h 4 (by decide)) (by rw [hd]; decide)
     obtain rfl := s0 hS
     clear s0 s1
     refine opIn_of_list ho ?_
     cases ho
     clear hdep
     gi_wp2
     rw [HIB.out]
     exact ⟨_, _, _, _, _, _, _, _, _, _, _, _, _, _, _, _, _, _, W2, rfl, lf f0, lf f1, lf f2, lf f3, fun _ => rfl, lf f5, lf f6, lf f7, lf f8, lf f9, lf f11, gB, lf g6, lf g7, (Lib.hid (fun h0 => upd_mono (k8_7.out (lu h0)))), (Lib.hid (fun h0 => upd_mono (k9_7.out (lu h0)))), (Lib.hid (fun h0 => upd_mono (k11_7.out (lu h0)))), (fun _ => rfl), (fun h0 => absurd (show dn 10 = true by simpa [upd] using h0) (by rw [hS]; decide)), (Lib.hid (fun h0 => absurd (show dn 10 = true by simpa [upd] using h0) (by rw [hS]; decide)))⟩
    | 5, ho =>
     have e4 : dn 4 = true := hdep ⟨4, .data⟩ (by cases ho; simp) rfl
     rw [HIB.out] at hI
     obtain ⟨u31, u32, u33, u34, u35, u36, u37, u38, u39, u40, u5, v1, z1, b2, p2, l2, c2, er, W', rfl, f0, f1, f2, f3, f4, f5, f6, f7, f8, f9, f11, gB, g6, g7, k8_7, k9_7, k11_7, s0, s1, sd⟩ := hI
     obtain rfl := (f4 e4).symm
     have hS : dn 10 = false := by cases h : dn 10 with | false => rfl | true => exact absurd (sd.out h 5 (by decide)) (by rw [hd]; decide)
     obtain rfl := s0 hS
     clear s0 s1
     refine opIn_of_list ho ?_
     cases ho
     clear hdep
     have hc0 := k3 _ gB
     gi_wp2
     rw [HIB.out]
     exact ⟨_, _, _, _, _, _, _, _, _, _, _, _, _, _, _, _, _, _, W2, rfl, lf f0, lf f1, lf f2, lf f3, fun _ => rfl, fun _ => rfl, lf f6, lf f7, lf f8, lf f9, lf f11, gB, lf g6, lf g7, (Lib.hid (fun h0 => upd_mono (k8_7.out (lu h0)))), (Lib.hid (fun h0 => upd_mono (k9_7.out (lu h0)))), (Lib.hid (fun h0 => upd_mono (k11_7.out (lu h0)))), (fun _ => rfl), (fun h0 => absurd (show dn 10 = true by simpa [upd] using h0) (by rw [hS]; decide)), (Lib.hid (fun h0 => absurd (show dn 10 = true by simpa [upd] using h0) (by rw [hS]; decide)))⟩
    | 6, ho =>
     have e3 : dn 3 = true := hdep ⟨3, .data⟩ (by cases ho; simp) rfl
     have e5 : dn 5 = true := hdep ⟨5, .data⟩ (by cases ho; simp) rfl
     rw [HIB.out] at hI
     obtain ⟨u31, u32, u33, u34, u35, u36, u37, u38, u39, u40, u5, v1, z1, b2, p2, l2, c2, er, W', rfl, f0, f1, f2, f3, f4, f5, f6, f7, f8, f9, f11, gB, g6, g7, k8_7, k9_7, k11_7, s0, s1, sd⟩ := hI
     obtain rfl := (f3 e3).symm
     obtain rfl := (f5 e5).symm
     have hS : dn 10 = false := by cases h : dn 10 with | false => rfl | true => exact absurd (sd.out h 6 (by decide)) (by rw [hd]; decide)
     obtain rfl := s0 hS
     clear s0 s1
     refine opIn_of_list ho ?_
     cases ho
     clear hdep
     gi_wp2
     refine ⟨trivial, ?_⟩
     refine CallsIn.mono ((callsIn_wide (n := 8)).2 (sub_all sa sb A B n m _ hA hB (by omega) (by omega) ((hLa.below hB1).mono hB1.size |>.below gB |>.mono gB.size) ((hLb.below hB1).mono hB1.size |>.below gB |>.mono gB.size))) ?_
     rintro e w5 ⟨vv, zz, rfl, hown, hrep, hb5⟩
     replace hown := hown.mono gB.size
     obtain ⟨pp, ll, cc, rfl⟩ := hown.shape
     gi_wp2
     rw [HIB.out]
     exact ⟨_, _, _, _, _, _, _, _, _, _, _, Value.slice pp ll cc, zz, _, _, _, _, _, w5, rfl, lf f0, lf f1, lf f2, fun _ => rfl, lf f4, fun _ => rfl, fun _ => rfl, lf f7, lf f8, lf f9, lf f11, gB.trans (hb5.mono gB.size), (fun _ => ⟨hown, hrep⟩), (fun h0 => (g7 (lu h0)).below hb5), (Lib.hid (fun h0 => upd_mono (k8_7.out (lu h0)))), (Lib.hid (fun h0 => upd_mono (k9_7.out (lu h0)))), (Lib.hid (fun h0 => upd_mono (k11_7.out (lu h0)))), (fun _ => rfl), (fun h0 => absurd (show dn 10 = true by simpa [upd] using h0) (by rw [hS]; decide)), (Lib.hid (fun h0 => absurd (show dn 10 = true by simpa [upd] using h0) (by rw [hS]; decide)))⟩
    | 7, ho =>
     have e1 : dn 1 = true := hdep ⟨1, .data⟩ (by cases ho; simp) rfl
     have e6 : dn 6 = true := hdep ⟨6, .data⟩ (by cases ho; simp) rfl
     rw [HIB.out] at hI
     obtain ⟨u31, u32, u33, u34, u35, u36, u37, u38, u39, u40, u5, v1, z1, b2, p2, l2, c2, er, W', rfl, f0, f1, f2, f3, f4, f5, f6, f7, f8, f9, f11, gB, g6, g7, k8_7, k9_7, k11_7, s0, s1, sd⟩ := hI
     obtain rfl := (f1 e1).symm
     obtain rfl := (f6 e6).symm
     have hS : dn 10 = false := by cases h : dn 10 with | false => rfl | true => exact absurd (sd.out h 7 (by decide)) (by rw [hd]; decide)
     obtain rfl := s0 hS
     clear s0 s1
     refine opIn_of_list ho ?_
     cases ho
     clear hdep
     gi_wp2
     refine ⟨trivial, ?_⟩
     have hlz : z1.length ≤ 140737488355328 := rep_len_le hA (g6 e6).2 (by omega) (by omega)
     refine CallsIn.mono ((callsIn_wide (n := 8)).2 (made_any na v1 z1 (n - m) w1.heap.size _ (g6 e6).2 (g6 e6).1 hlz)) ?_
     rintro e w5 ⟨bb, pp, ll, cc, ee, rfl, hfit, hb5⟩
     gi_wp2
     rw [HIB.out]
     exact ⟨_, _, _, _, _, _, _, _, _, _, _, _, _, bb, pp, ll, cc, ee, w5, rfl, lf f0, fun _ => rfl, lf f2, lf f3, lf f4, lf f5, fun _ => rfl, fun _ => rfl, (fun h0 => absurd (k8_7.out (lu h0)) (by rw [hd]; decide)), (fun h0 => absurd (k9_7.out (lu h0)) (by rw [hd]; decide)), (fun h0 => absurd (k11_7.out (lu h0)) (by rw [hd]; decide)), gB.trans (hb5.mono gB.size), (fun h0 => (g6 (lu h0)).below hb5), (fun _ => hfit), (Lib.hid (fun _ => upd_same _ _)), (Lib.hid (fun _ => upd_same _ _)), (Lib.hid (fun _ => upd_same _ _)), (fun _ => rfl), (fun h0 => absurd (show dn 10 = true by simpa [upd] using h0) (by rw [hS]; decide)), (Lib.hid (fun h0 => absurd (show dn 10 = true by simpa [upd] using h0) (by rw [hS]; decide)))⟩
    | 8, ho =>
     have e7 : dn 7 = true := hdep ⟨7, .data⟩ (by cases ho; simp) rfl
     rw [HIB.out] at hI
     obtain ⟨u31, u32, u33, u34, u35, u36, u37, u38, u39, u40, u5, v1, z1, b2, p2, l2, c2, er, W', rfl, f0, f1, f2, f3, f4, f5, f6, f7, f8, f9, f11, gB, g6, g7, k8_7, k9_7, k11_7, s0, s1, sd⟩ := hI
     obtain rfl := (f7 e7).symm
     have hS : dn 10 = false := by cases h : dn 10 with | false => rfl | true => exact absurd (sd.out h 8 (by decide)) (by rw [hd]; decide)
     obtain rfl := s0 hS
     clear s0 s1
     refine opIn_of_list ho ?_
     cases ho
     clear hdep
     gi_wp2
     rw [HIB.out]
     exact ⟨_, _, _, _, _, _, _, _, _, _, _, _, _, _, _, _, _, _, W2, rfl, lf f0, lf f1, lf f2, lf f3, lf f4, lf f5, lf f6, fun _ => rfl, fun _ => rfl, lf f9, lf f11, gB, lf g6, lf g7, (Lib.hid (fun _ => upd_mono e7)), (Lib.hid (fun h0 => upd_mono (k9_7.out (lu h0)))), (Lib.hid (fun h0 => upd_mono (k11_7.out (lu h0)))), (fun _ => rfl), (fun h0 => absurd (show dn 10 = true by simpa [upd] using h0) (by rw [hS]; decide)), (Lib.hid (fun h0 => absurd (show dn 10 = true by simpa [upd] using h0) (by rw [hS]; decide)))⟩
    | 9, ho =>
     have e7 : dn 7 = true := hdep ⟨7, .data⟩ (by cases ho; simp) rfl
     rw [HIB.out] at hI
     obtain ⟨u31, u32, u33, u34, u35, u36, u37, u38, u39, u40, u5, v1, z1, b2, p2, l2, c2, er, W', rfl, f0, f1, f2, f3, f4, f5, f6, f7, f8, f9, f11, gB, g6, g7, k8_7, k9_7, k11_7, s0, s1, sd⟩ := hI
     obtain rfl := (f7 e7).symm
     have hS : dn 10 = false := by cases h : dn 10 with | false => rfl | true => exact absurd (sd.out h 9 (by decide)) (by rw [hd]; decide)
     obtain rfl := s0 hS
     clear s0 s1
     refine opIn_of_list ho ?_
     cases ho
     clear hdep
     gi_wp2
     rw [HIB.out]
     exact ⟨_, _, _, _, _, _, _, _, _, _, _, _, _, _, _, _, _, _, W2, rfl, lf f0, lf f1, lf f2, lf f3, lf f4, lf f5, lf f6, fun _ => rfl, lf f8, fun _ => rfl, lf f11, gB, lf g6, lf g7, (Lib.hid (fun h0 => upd_mono (k8_7.out (lu h0)))), (Lib.hid (fun _ => upd_mono e7)), (Lib.hid (fun h0 => upd_mono (k11_7.out (lu h0)))), (fun _ => rfl), (fun h0 => absurd (show dn 10 = true by simpa [upd] using h0) (by rw [hS]; decide)), (Lib.hid (fun h0 => absurd (show dn 10 = true by simpa [upd] using h0) (by rw [hS]; decide)))⟩
    | 10, ho =>
     have e8 : dn 8 = true := hdep ⟨8, .data⟩ (by cases ho; simp) rfl
     have e7 : dn 7 = true := hdep ⟨7, .chain⟩ (by cases ho; simp) rfl
     rw [HIB.out] at hI
     obtain ⟨u31, u32, u33, u34, u35, u36, u37, u38, u39, u40, u5, v1, z1, b2, p2, l2, c2, er, W', rfl, f0, f1, f2, f3, f4, f5, f6, f7, f8, f9, f11, gB, g6, g7, k8_7, k9_7, k11_7, s0, s1, sd⟩ := hI
     obtain rfl := (f8 e8).symm
     obtain rfl := (f7 e7).symm
     have hS : dn 10 = false := hd
     obtain rfl := s0 hS
     clear s0 s1
     have hdone : ∀ j, j < 10 → dn j = true := by
      intro j hj
      match j, hj with
      | 0, _ => exact hdep ⟨0, .phase⟩ (by cases ho; simp) rfl
      | 1, _ => exact hdep ⟨1, .phase⟩ (by cases ho; simp) rfl
      | 2, _ => exact hdep ⟨2, .phase⟩ (by cases ho; simp) rfl
      | 3, _ => exact hdep ⟨3, .phase⟩ (by cases ho; simp) rfl
      | 4, _ => exact hdep ⟨4, .phase⟩ (by cases ho; simp) rfl
      | 5, _ => exact hdep ⟨5, .phase⟩ (by cases ho; simp) rfl
      | 6, _ => exact hdep ⟨6, .phase⟩ (by cases ho; simp) rfl
      | 7, _ => exact hdep ⟨7, .phase⟩ (by cases ho; simp) rfl
      | 8, _ => exact hdep ⟨8, .phase⟩ (by cases ho; simp) rfl
      | 9, _ => exact hdep ⟨9, .phase⟩ (by cases ho; simp) rfl
      | k + 10, h => exact absurd h (by omega)
     have HDONE := Lib.hid hdone
     clear hdone
     refine opIn_of_list ho ?_
     cases ho
     clear hdep
     have hc0 := k4 _ gB
     have hc1 := k5 _ gB
     have hf0 := k6 _ gB
     have hf1 := k7 _ gB
     gi_wp2
     rw [HIB.out]
     exact ⟨_, _, _, _, _, _, _, _, _, _, _, _, _, _, _, _, _, _, W2, rfl, lf f0, lf f1, lf f2, lf f3, lf f4, lf f5, lf f6, fun _ => rfl, fun _ => rfl, lf f9, lf f11, gB, lf g6, lf g7, (Lib.hid (fun h0 => upd_mono (k8_7.out (lu h0)))), (Lib.hid (fun h0 => upd_mono (k9_7.out (lu h0)))), (Lib.hid (fun h0 => upd_mono (k11_7.out (lu h0)))), (fun h0 => by rw [upd_same] at h0; cases h0), (fun _ => rfl), (Lib.hid (fun _ j hj => upd_mono (HDONE.out j hj)))⟩
    | 11, ho =>
     have e9 : dn 9 = true := hdep ⟨9, .data⟩ (by cases ho; simp) rfl
     have e10 : dn 10 = true := hdep ⟨10, .chain⟩ (by cases ho; simp) rfl
     rw [HIB.out] at hI
     obtain ⟨u31, u32, u33, u34, u35, u36, u37, u38, u39, u40, u5, v1, z1, b2, p2, l2, c2, er, W', rfl, f0, f1, f2, f3, f4, f5, f6, f7, f8, f9, f11, gB, g6, g7, k8_7, k9_7, k11_7, s0, s1, sd⟩ := hI
     obtain rfl := (f9 e9).symm
     obtain rfl := s1 e10
     clear s0 s1
     refine opIn_of_list ho ?_
     cases ho
     clear hdep
     gi_wp2
     rw [HIB.out]
     exact ⟨_, _, _, _, _, _, _, _, _, _, _, _, _, _, _, _, _, _, W', rfl, lf f0, lf f1, lf f2, lf f3, lf f4, lf f5, lf f6, lf f7, lf f8, fun _ => rfl, fun _ => rfl, gB, lf g6, lf g7, (Lib.hid (fun h0 => upd_mono (k8_7.out (lu h0)))), (Lib.hid (fun h0 => upd_mono (k9_7.out (lu h0)))), (Lib.hid (fun _ => upd_mono (k9_7.out e9))), (fun h0 => absurd (upd_mono e10) (by rw [h0]; decide)), (fun _ => rfl), (Lib.hid (fun h0 j hj => upd_mono (sd.out (lu h0) j hj)))⟩
    | k + 12, ho => simp at ho
   case hendB =>
    intro dn a' W2 hI hall
    rw [HIB.out] at hI
    obtain ⟨u31, u32, u33, u34, u35, u36, u37, u38, u39, u40, u5, v1, z1, b2, p2, l2, c2, er, W', rfl, f0, f1, f2, f3, f4, f5, f6, f7, f8, f9, f11, gB, g6, g7, k8_7, k9_7, k11_7, s0, s1, sd⟩ := hI
    obtain rfl := s1 (hall 10 (by decide))
    have G6 := g6 (hall 6 (by decide))
    have G7 := g7 (hall 7 (by decide))
    obtain rfl := (f0 (hall 0 (by decide))).symm
    obtain rfl := (f1 (hall 1 (by decide))).symm
    obtain rfl := (f2 (hall 2 (by decide))).symm
    obtain rfl := (f3 (hall 3 (by decide))).symm
    obtain rfl := (f4 (hall 4 (by decide))).symm
    obtain rfl := (f5 (hall 5 (by decide))).symm
    obtain rfl := (f6 (hall 6 (by decide))).symm
    obtain rfl := (f7 (hall 7 (by decide))).symm
    obtain rfl := (f8 (hall 8 (by decide))).symm
    obtain rfl := (f9 (hall 9 (by decide))).symm
    obtain rfl := (f11 (hall 11 (by decide))).symm
    clear hall g6 g7 HIB
    have hb4 : W'.heap[w.heap.size + 1 + 1]? = some (.cells #[.bool false, .slice none 0 0] 24) := (gB.block _ (by omega)).trans hb4
    obtain ⟨r0, r1⟩ := put2_cell hb4 (.bool b2) (.slice p2 l2 c2)
    have hfit : FitW w.heap.size (put2 W' (w.heap.size + 1 + 1) (.bool b2) (.slice p2 l2 c2)) (.agg #[.bool b2, .slice p2 l2 c2]) er ((sgn na n + sgn (!na) m)) := by
     have h := (G7.mono (by omega : w.heap.size ≤ w1.heap.size)).put2 hb4 (by decide) (.bool b2) (.slice p2 l2 c2)
     have e : (sgn na n + sgn (!na) m) = sgn na (n - m) := by unfold sgn; cases na <;> simp only [Bool.not_true, Bool.not_false, cond_true, cond_false] <;> omega
     rw [e]; exact h
    have hbe : Below w.heap.size w (put2 W' (w.heap.size + 1 + 1) (.bool b2) (.slice p2 l2 c2)) := (hB1.trans (gB.mono hB1.size)).trans ((put2_only _ _ _ _).below (by omega))
    generalize put2 W' (w.heap.size + 1 + 1) (.bool b2) (.slice p2 l2 c2) = W9 at *
    go_wp2
    exact bodyPost_ret (v := .tuple #[.agg #[.bool b2, .slice p2 l2 c2], .int .i64 er]) (by simp [results, Tryz.results100, go_sem, r0, r1]) rfl ⟨b2, p2, l2, c2, er, rfl, hfit, hbe⟩
 · have hcmp : cmpI n m < 0 := cmpI_lt.2 hnm
   go_wp2_with (go_at_call 130; rw [← hw3]; refine (compare_any sa sb A B n m w3 hA hB (by omega) (by omega) ((hLa.below hB3).mono hB3.size) ((hLb.below hB3).mono hB3.size)).mono ?_; rintro e w1 ⟨rfl, hb1⟩; have p0 := (hb1.block _ (show w.heap.size < w3.heap.size by omega)).trans q0; have p1 := (hb1.block _ (show w.heap.size + 1 < w3.heap.size by omega)).trans q1; have c0 := cell_of p0 0 rfl; have c2 := cell_of p1 0 rfl)
   have hs1 : w.heap.size + 3 ≤ w1.heap.size := by have := hb1.size; omega
   have p2 := (hb1.block _ (show w.heap.size + 1 + 1 < w3.heap.size by omega)).trans q2
   have hB1 : Below w.heap.size w w1 := hB3.trans (hb1.mono hB3.size)
   clear hw3 q0 q1 q2 hB3 c0 c2
   have hb4 := p2
   have k0 : ∀ W, Below w1.heap.size w1 W → W.cell? ⟨w.heap.size, 0, none⟩ = some (.bool na) := fun W h => cell_of ((h.block _ (by omega)).trans p0) 0 rfl
   have k1 : ∀ W, Below w1.heap.size w1 W → W.cell? ⟨w.heap.size, 1, none⟩ = some sa := fun W h => cell_of ((h.block _ (by omega)).trans p0) 1 rfl
   have k2 : ∀ W, Below w1.heap.size w1 W → W.cell? ⟨w.heap.size + 1, 0, none⟩ = some (.bool (!na)) := fun W h => cell_of ((h.block _ (by omega)).trans p1) 0 rfl
   have k3 : ∀ W, Below w1.heap.size w1 W → W.cell? ⟨w.heap.size + 1, 1, none⟩ = some sb := fun W h => cell_of ((h.block _ (by omega)).trans p1) 1 rfl
   have k4 : ∀ W, Below w1.heap.size w1 W → W.cell? ⟨w.heap.size + 1 + 1, 0, none⟩ = some (.bool false) := fun W h => cell_of ((h.block _ (by omega)).trans p2) 0 rfl
   have k5 : ∀ W, Below w1.heap.size w1 W → W.cell? ⟨w.heap.size + 1 + 1, 1, none⟩ = some (.slice none 0 0) := fun W h => cell_of ((h.block _ (by omega)).trans p2) 1 rfl
   have k6 : ∀ W, Below w1.heap.size w1 W → W.frozen? ⟨w.heap.size + 1 + 1, 0, none⟩ = false := fun W h => frozen_of ((h.block _ (by omega)).trans p2) 0
   have k7 : ∀ W, Below w1.heap.size w1 W → W.frozen? ⟨w.heap.size + 1 + 1, 1, none⟩ = false := fun W h => frozen_of ((h.block _ (by omega)).trans p2) 1
   obtain ⟨IC, HIC⟩ : ∃ I : (Nat → Bool) → Act → World → Prop, Hid (I = (fun dn a' W2 => ∃ u41 u42 u43 u44 u45 u46 u47 u48 u49 u50 u5 : Value, ∃ v1 : Value, ∃ z1 : List Int, ∃ b2 : Bool, ∃ p2 : Option Addr, ∃ l2 : Nat, ∃ c2 : Nat, ∃ er : Int, ∃ W' : World, a' = { tmps := #[.agg #[.bool na, sa], .agg #[.bool (!na), sb], .pointer (some ⟨w.heap.size, 0, none⟩), .pointer (some ⟨(w.heap.size + 1), 0, none⟩), .pointer (some ⟨(w.heap.size + 1 + 1), 0, none⟩), u5, .int .i64 (cmpI n m), .pointer (some ⟨w.heap.size, 1, none⟩), sa, .pointer (some ⟨(w.heap.size + 1), 1, none⟩), sb, .int .i64 (cmpI n m), .bool false, .pointer (some ⟨w.heap.size, 0, none⟩), .bool na, .pointer (some ⟨(w.heap.size + 1), 0, none⟩), .bool (!na), .bool false, undef, undef, undef, undef, undef, undef, undef, undef, undef, undef, .bool (decide (0 ≤ cmpI n m)), .int .i64 (cmpI n m), .bool (decide (0 ≤ cmpI n m)), undef, undef, undef, undef, undef, undef, undef, undef, undef, undef, u41, u42, u43, u44, u45, u46, u47, u48, u49, u50], defers := [] } ∧ (dn 0 = true → u41 = .pointer (some ⟨(w.heap.size + 1), 0, none⟩)) ∧ (dn 1 = true → u42 = .bool (!na)) ∧ (dn 2 = true → u43 = .pointer (some ⟨(w.heap.size + 1), 1, none⟩)) ∧ (dn 3 = true → u44 = sb) ∧ (dn 4 = true → u45 = .pointer (some ⟨w.heap.size, 1, none⟩)) ∧ (dn 5 = true → u46 = sa) ∧ (dn 6 = true → u47 = v1) ∧ (dn 7 = true → u48 = .tuple #[.agg #[.bool b2, .slice p2 l2 c2], .int .i64 er]) ∧ (dn 8 = true → u49 = .agg #[.bool b2, .slice p2 l2 c2]) ∧ (dn 9 = true → u50 = .int .i64 er) ∧ (dn 11 = true → u5 = .int .i64 er) ∧ Below w1.heap.size w1 W' ∧ (dn 6 = true → OwnR w1.heap.size W' v1 z1 (m - n)) ∧ (dn 7 = true → FitW w1.heap.size W' (.agg #[.bool b2, .slice p2 l2 c2]) er (sgn (!na) (m - n))) ∧ Hid (dn 8 = true → dn 7 = true) ∧ Hid (dn 9 = true → dn 7 = true) ∧ Hid (dn 11 = true → dn 7 = true) ∧ (dn 10 = false → W2 = W') ∧ (dn 10 = true → W2 = put2 W' (w.heap.size + 1 + 1) (.bool b2) (.slice p2 l2 c2)) ∧ Hid (dn 10 = true → ∀ i, i < 10 → dn i = true))) := ⟨_, rfl⟩
   refine (wpIn_wide (n := 9)).1 ?_
   refine wpIn_region_conf IC (n := 9) (by kernel_rfl) (by kernel_rfl) ?h0C ?hstepC ?hendC
   case h0C =>
    rw [HIC.out]
    exact ⟨undef, undef, undef, undef, undef, undef, undef, undef, undef, undef, Value.int IntKind.i64 0, undef, [], false, none, 0, 0, 0, _, rfl, (fun h => by cases h), (fun h => by cases h), (fun h => by cases h), (fun h => by cases h), (fun h => by cases h), (fun h => by cases h), (fun h => by cases h), (fun h => by cases h), (fun h => by cases h), (fun h => by cases h), (fun h => by cases h), (Below.refl _ _).drew, (fun h => by cases h), (fun h => by cases h), (Lib.hid (fun h => by cases h)), (Lib.hid (fun h => by cases h)), (Lib.hid (fun h => by cases h)), (fun _ => rfl), (fun h => by cases h), (Lib.hid (fun h => by cases h))⟩
   case hstepC =>
    intro dn a' W2 hI i o ho hd hdep
    match i, ho with
    | 0, ho =>
     rw [HIC.out] at hI
     obtain ⟨u41, u42, u43, u44, u45, u46, u47, u48, u49, u50, u5, v1, z1, b2, p2, l2, c2, er, W', rfl, f0, f1, f2, f3, f4, f5, f6, f7, f8, f9, f11, gB, g6, g7, k8_7, k9_7, k11_7, s0, s1, sd⟩ := hI
     have hS : dn 10 = false := by cases h : dn 10 with | false => rfl | true => exact absurd (sd.out h 0 (by decide)) (by rw [hd]; decide)
     obtain rfl := s0 hS
     clear s0 s1
     refine opIn_of_list ho ?_
     cases ho
     clear hdep
     gi_wp2
     rw [HIC.out]
     exact ⟨_, _, _, _, _, _, _, _, _, _, _, _, _, _, _, _, _, _, W2, rfl, fun _ => rfl, lf f1, lf f2, lf f3, lf f4, lf f5, lf f6, lf f7, lf f8, lf f9, lf f11, gB, lf g6, lf g7, (Lib.hid (fun h0 => upd_mono (k8_7.out (lu h0)))), (Lib.hid (fun h0 => upd_mono (k9_7.out (lu h0)))), (Lib.hid (fun h0 => upd_mono (k11_7.out (lu h0)))), (fun _ => rfl), (fun h0 => absurd (show dn 10 = true by simpa [upd] using h0) (by rw [hS]; decide)), (Lib.hid (fun h0 => absurd (show dn 10 = true by simpa [upd] using h0) (by rw [hS]; decide)))⟩
    | 1, ho =>
     have e0 : dn 0 = true := hdep ⟨0, .data⟩ (by cases ho; simp) rfl
     rw [HIC.out] at hI
     obtain ⟨u41, u42, u43, u44, u45, u46, u47, u48, u49, u50, u5, v1, z1, b2, p2, l2, c2, er, W', rfl, f0, f1, f2, f3, f4, f5, f6, f7, f8, f9, f11, gB, g6, g7, k8_7, k9_7, k11_7, s0, s1, sd⟩ := hI
     obtain rfl := (f0 e0).symm
     have hS : dn 10 = false := by cases h : dn 10 with | false => rfl | true => exact absurd (sd.out h 1 (by decide)) (by rw [hd]; decide)
     obtain rfl := s0 hS
     clear s0 s1
     refine opIn_of_list ho ?_
     cases ho
     clear hdep
     have hc0 := k2 _ gB
     gi_wp2
     rw [HIC.out]
     exact ⟨_, _, _, _, _, _, _, _, _, _, _, _, _, _, _, _, _, _, W2, rfl, fun _ => rfl, fun _ => rfl, lf f2, lf f3, lf f4, lf f5, lf f6, lf f7, lf f8, lf f9, lf f11, gB, lf g6, lf g7, (Lib.hid (fun h0 => upd_mono (k8_7.out (lu h0)))), (Lib.hid (fun h0 => upd_mono (k9_7.out (lu h0)))), (Lib.hid (fun h0 => upd_mono (k11_7.out (lu h0)))), (fun _ => rfl), (fun h0 => absurd (show dn 10 = true by simpa [upd] using h0) (by rw [hS]; decide)), (Lib.hid (fun h0 => absurd (show dn 10 = true by simpa [upd] using h0) (by rw [hS]; decide)))⟩
    | 2, ho =>
     rw [HIC.out] at hI
     obtain ⟨u41, u42, u43, u44, u45, u46, u47, u48, u49, u50, u5, v1, z1, b2, p2, l2, c2, er, W', rfl, f0, f1, f2, f3, f4, f5, f6, f7, f8, f9, f11, gB, g6, g7, k8_7, k9_7, k11_7, s0, s1, sd⟩ := hI
     have hS : dn 10 = false := by cases h : dn 10 with | false => rfl | true => exact absurd (sd.out h 2 (by decide)) (by rw [hd]; decide)
     obtain rfl := s0 hS
     clear s0 s1
     refine opIn_of_list ho ?_
     cases ho
     clear hdep
     gi_wp2
     rw [HIC.out]
     exact ⟨_, _, _, _, _, _, _, _, _, _, _, _, _, _, _, _, _, _, W2, rfl, lf f0, lf f1, fun _ => rfl, lf f3, lf f4, lf f5, lf f6, lf f7, lf f8, lf f9, lf f11, gB, lf g6, lf g7, (Lib.hid (fun h0 => upd_mono (k8_7.out (lu h0)))), (Lib.hid (fun h0 => upd_mono (k9_7.out (lu h0)))), (Lib.hid (fun h0 => upd_mono (k11_7.out (lu h0)))), (fun _ => rfl), (fun h0 => absurd (show dn 10 = true by simpa [upd] using h0) (by rw [hS]; decide)), (Lib.hid (fun h0 => absurd (show dn 10 = true by simpa [upd] using h0) (by rw [hS]; decide)))⟩
    | 3, ho =>
     have e2 : dn 2 = true := hdep ⟨2, .data⟩ (by cases ho; simp) rfl
     rw [HIC.out] at hI
     obtain ⟨u41, u42, u43, u44, u45, u46, u47, u48, u49, u50, u5, v1, z1, b2, p2, l2, c2, er, W', rfl, f0, f1, f2, f3, f4, f5, f6, f7, f8, f9, f11, gB, g6, g7, k8_7, k9_7, k11_7, s0, s1, sd⟩ := hI
     obtain rfl := (f2 e2).symm
     have hS : dn 10 = false := by cases h : dn 10 with | false => rfl | true => exact absurd (sd.out h 3 (by decide)) (by rw [hd]; decide)
     obtain rfl := s0 hS
     clear s0 s1
     refine opIn_of_list ho ?_
     cases ho
     clear hdep
     have hc0 := k3 _ gB
     gi_wp2
     rw [HIC.out]
     exact ⟨_, _, _, _, _, _, _, _, _, _, _, _, _, _, _, _, _, _, W2, rfl, lf f0, lf f1, fun _ => rfl, fun _ => rfl, lf f4, lf f5, lf f6, lf f7, lf f8, lf f9, lf f11, gB, lf g6, lf g7, (Lib.hid (fun h0 => upd_mono (k8_7.out (lu h0)))), (Lib.hid (fun h0 => upd_mono (k9_7.out (lu h0)))), (Lib.hid (fun h0 => upd_mono (k11_7.out (lu h0)))), (fun _ => rfl), (fun h0 => absurd (show dn 10 = true by simpa [upd] using h0) (by rw [hS]; decide)), (Lib.hid (fun h0 => absurd (show dn 10 = true by simpa [upd] using h0) (by rw [hS]; decide)))⟩
    | 4, ho =>
     rw [HIC.out] at hI
     obtain ⟨u41, u42, u43, u44, u45, u46, u47, u48, u49, u50, u5, v1, z1, b2, p2, l2, c2, er, W', rfl, f0, f1, f2, f3, f4, f5, f6, f7, f8, f9, f11, gB, g6, g7, k8_7, k9_7, k11_7, s0, s1, sd⟩ := hI
     have hS : dn 10 = false := by cases h : dn 10 with | false => rfl | true => exact absurd (sd.out h 4 (by decide)) (by rw [hd]; decide)
     obtain rfl := s0 hS
     clear s0 s1
     refine opIn_of_list ho ?_
     cases ho
     clear hdep
     gi_wp2
     rw [HIC.out]
     exact ⟨_, _, _, _, _, _, _, _, _, _, _, _, _, _, _, _, _, _, W2, rfl, lf f0, lf f1, lf f2, lf f3, fun _ => rfl, lf f5, lf f6, lf f7, lf f8, lf f9, lf f11, gB, lf g6, lf g7, (Lib.hid (fun h0 => upd_mono (k8_7.out (lu h0)))), (Lib.hid (fun h0 => upd_mono (k9_7.out (lu h0)))), (Lib.hid (fun h0 => upd_mono (k11_7.out (lu h0)))), (fun _ => rfl), (fun h0 => absurd (show dn 10 = true by simpa [upd] using h0) (by rw [hS]; decide)), (Lib.hid (fun h0 => absurd (show dn 10 = true by simpa [upd] using h0) (by rw [hS]; decide)))⟩
    | 5, ho =>
     have e4 : dn 4 = true := hdep ⟨4, .data⟩ (by cases ho; simp) rfl
     rw [HIC.out] at hI
     obtain ⟨u41, u42, u43, u44, u45, u46, u47, u48, u49, u50, u5, v1, z1, b2, p2, l2, c2, er, W', rfl, f0, f1, f2, f3, f4, f5, f6, f7, f8, f9, f11, gB, g6, g7, k8_7, k9_7, k11_7, s0, s1, sd⟩ := hI
     obtain rfl := (f4 e4).symm
     have hS : dn 10 = false := by cases h : dn 10 with | false => rfl | true => exact absurd (sd.out h 5 (by decide)) (by rw [hd]; decide)
     obtain rfl := s0 hS
     clear s0 s1
     refine opIn_of_list ho ?_
     cases ho
     clear hdep
     have hc0 := k1 _ gB
     gi_wp2
     rw [HIC.out]
     exact ⟨_, _, _, _, _, _, _, _, _, _, _, _, _, _, _, _, _, _, W2, rfl, lf f0, lf f1, lf f2, lf f3, fun _ => rfl, fun _ => rfl, lf f6, lf f7, lf f8, lf f9, lf f11, gB, lf g6, lf g7, (Lib.hid (fun h0 => upd_mono (k8_7.out (lu h0)))), (Lib.hid (fun h0 => upd_mono (k9_7.out (lu h0)))), (Lib.hid (fun h0 => upd_mono (k11_7.out (lu h0)))), (fun _ => rfl), (fun h0 => absurd (show dn 10 = true by simpa [upd] using h0) (by rw [hS]; decide)), (Lib.hid (fun h0 => absurd (show dn 10 = true by simpa [upd] using h0) (by rw [hS]; decide)))⟩
    | 6, ho =>
     have e3 : dn 3 = true := hdep ⟨3, .data⟩ (by cases ho; simp) rfl
     have e5 : dn 5 = true := hdep ⟨5, .data⟩ (by cases ho; simp) rfl
     rw [HIC.out] at hI
     obtain ⟨u41, u42, u43, u44, u45, u46, u47, u48, u49, u50, u5, v1, z1, b2, p2, l2, c2, er, W', rfl, f0, f1, f2, f3, f4, f5, f6, f7, f8, f9, f11, gB, g6, g7, k8_7, k9_7, k11_7, s0, s1, sd⟩ := hI
     obtain rfl := (f3 e3).symm
     obtain rfl := (f5 e5).symm
     have hS : dn 10 = false := by cases h : dn 10 with | false => rfl | true => exact absurd (sd.out h 6 (by decide)) (by rw [hd]; decide)
     obtain rfl := s0 hS
     clear s0 s1
     refine opIn_of_list ho ?_
     cases ho
     clear hdep
     gi_wp2
     refine ⟨trivial, ?_⟩
     refine CallsIn.mono ((callsIn_wide (n := 8)).2 (sub_all sb sa B A m n _ hB hA (by omega) (by omega) ((hLb.below hB1).mono hB1.size |>.below gB |>.mono gB.size) ((hLa.below hB1).mono hB1.size |>.below gB |>.mono gB.size))) ?_
     rintro e w5 ⟨vv, zz, rfl, hown, hrep, hb5⟩
     replace hown := hown.mono gB.size
     obtain ⟨pp, ll, cc, rfl⟩ := hown.shape
     gi_wp2
     rw [HIC.out]
     exact ⟨_, _, _, _, _, _, _, _, _, _, _, Value.slice pp ll cc, zz, _, _, _, _, _, w5, rfl, lf f0, lf f1, lf f2, fun _ => rfl, lf f4, fun _ => rfl, fun _ => rfl, lf f7, lf f8, lf f9, lf f11, gB.trans (hb5.mono gB.size), (fun _ => ⟨hown, hrep⟩), (fun h0 => (g7 (lu h0)).below hb5), (Lib.hid (fun h0 => upd_mono (k8_7.out (lu h0)))), (Lib.hid (fun h0 => upd_mono (k9_7.out (lu h0)))), (Lib.hid (fun h0 => upd_mono (k11_7.out (lu h0)))), (fun _ => rfl), (fun h0 => absurd (show dn 10 = true by simpa [upd] using h0) (by rw [hS]; decide)), (Lib.hid (fun h0 => absurd (show dn 10 = true by simpa [upd] using h0) (by rw [hS]; decide)))⟩
    | 7, ho =>
     have e1 : dn 1 = true := hdep ⟨1, .data⟩ (by cases ho; simp) rfl
     have e6 : dn 6 = true := hdep ⟨6, .data⟩ (by cases ho; simp) rfl
     rw [HIC.out] at hI
     obtain ⟨u41, u42, u43, u44, u45, u46, u47, u48, u49, u50, u5, v1, z1, b2, p2, l2, c2, er, W', rfl, f0, f1, f2, f3, f4, f5, f6, f7, f8, f9, f11, gB, g6, g7, k8_7, k9_7, k11_7, s0, s1, sd⟩ := hI
     obtain rfl := (f1 e1).symm
     obtain rfl := (f6 e6).symm
     have hS : dn 10 = false := by cases h : dn 10 with | false => rfl | true => exact absurd (sd.out h 7 (by decide)) (by rw [hd]; decide)
     obtain rfl := s0 hS
     clear s0 s1
     refine opIn_of_list ho ?_
     cases ho
     clear hdep
     gi_wp2
     refine ⟨trivial, ?_⟩
     have hlz : z1.length ≤ 140737488355328 := rep_len_le hB (g6 e6).2 (by omega) (by omega)
     refine CallsIn.mono ((callsIn_wide (n := 8)).2 (made_any (!na) v1 z1 (m - n) w1.heap.size _ (g6 e6).2 (g6 e6).1 hlz)) ?_
     rintro e w5 ⟨bb, pp, ll, cc, ee, rfl, hfit, hb5⟩
     gi_wp2
     rw [HIC.out]
     exact ⟨_, _, _, _, _, _, _, _, _, _, _, _, _, bb, pp, ll, cc, ee, w5, rfl, lf f0, fun _ => rfl, lf f2, lf f3, lf f4, lf f5, fun _ => rfl, fun _ => rfl, (fun h0 => absurd (k8_7.out (lu h0)) (by rw [hd]; decide)), (fun h0 => absurd (k9_7.out (lu h0)) (by rw [hd]; decide)), (fun h0 => absurd (k11_7.out (lu h0)) (by rw [hd]; decide)), gB.trans (hb5.mono gB.size), (fun h0 => (g6 (lu h0)).below hb5), (fun _ => hfit), (Lib.hid (fun _ => upd_same _ _)), (Lib.hid (fun _ => upd_same _ _)), (Lib.hid (fun _ => upd_same _ _)), (fun _ => rfl), (fun h0 => absurd (show dn 10 = true by simpa [upd] using h0) (by rw [hS]; decide)), (Lib.hid (fun h0 => absurd (show dn 10 = true by simpa [upd] using h0) (by rw [hS]; decide)))⟩
    | 8, ho =>
     have e7 : dn 7 = true := hdep ⟨7, .data⟩ (by cases ho; simp) rfl
     rw [HIC.out] at hI
     obtain ⟨u41, u42, u43, u44, u45, u46, u47, u48, u49, u50, u5, v1, z1, b2, p2, l2, c2, er, W', rfl, f0, f1, f2, f3, f4, f5, f6, f7, f8, f9, f11, gB, g6, g7, k8_7, k9_7, k11_7, s0, s1, sd⟩ := hI
     obtain rfl := (f7 e7).symm
     have hS : dn 10 = false := by cases h : dn 10 with | false => rfl | true => exact absurd (sd.out h 8 (by decide)) (by rw [hd]; decide)
     obtain rfl := s0 hS
     clear s0 s1
     refine opIn_of_list ho ?_
     cases ho
     clear hdep
     gi_wp2
     rw [HIC.out]
     exact ⟨_, _, _, _, _, _, _, _, _, _, _, _, _, _, _, _, _, _, W2, rfl, lf f0, lf f1, lf f2, lf f3, lf f4, lf f5, lf f6, fun _ => rfl, fun _ => rfl, lf f9, lf f11, gB, lf g6, lf g7, (Lib.hid (fun _ => upd_mono e7)), (Lib.hid (fun h0 => upd_mono (k9_7.out (lu h0)))), (Lib.hid (fun h0 => upd_mono (k11_7.out (lu h0)))), (fun _ => rfl), (fun h0 => absurd (show dn 10 = true by simpa [upd] using h0) (by rw [hS]; decide)), (Lib.hid (fun h0 => absurd (show dn 10 = true by simpa [upd] using h0) (by rw [hS]; decide)))⟩
    | 9, ho =>
     have e7 : dn 7 = true := hdep ⟨7, .data⟩ (by cases ho; simp) rfl
     rw [HIC.out] at hI
     obtain ⟨u41, u42, u43, u44, u45, u46, u47, u48, u49, u50, u5, v1, z1, b2, p2, l2, c2, er, W', rfl, f0, f1, f2, f3, f4, f5, f6, f7, f8, f9, f11, gB, g6, g7, k8_7, k9_7, k11_7, s0, s1, sd⟩ := hI
     obtain rfl := (f7 e7).symm
     have hS : dn 10 = false := by cases h : dn 10 with | false => rfl | true => exact absurd (sd.out h 9 (by decide)) (by rw [hd]; decide)
     obtain rfl := s0 hS
     clear s0 s1
     refine opIn_of_list ho ?_
     cases ho
     clear hdep
     gi_wp2
     rw [HIC.out]
     exact ⟨_, _, _, _, _, _, _, _, _, _, _, _, _, _, _, _, _, _, W2, rfl, lf f0, lf f1, lf f2, lf f3, lf f4, lf f5, lf f6, fun _ => rfl, lf f8, fun _ => rfl, lf f11, gB, lf g6, lf g7, (Lib.hid (fun h0 => upd_mono (k8_7.out (lu h0)))), (Lib.hid (fun _ => upd_mono e7)), (Lib.hid (fun h0 => upd_mono (k11_7.out (lu h0)))), (fun _ => rfl), (fun h0 => absurd (show dn 10 = true by simpa [upd] using h0) (by rw [hS]; decide)), (Lib.hid (fun h0 => absurd (show dn 10 = true by simpa [upd] using h0) (by rw [hS]; decide)))⟩
    | 10, ho =>
     have e8 : dn 8 = true := hdep ⟨8, .data⟩ (by cases ho; simp) rfl
     have e7 : dn 7 = true := hdep ⟨7, .chain⟩ (by cases ho; simp) rfl
     rw [HIC.out] at hI
     obtain ⟨u41, u42, u43, u44, u45, u46, u47, u48, u49, u50, u5, v1, z1, b2, p2, l2, c2, er, W', rfl, f0, f1, f2, f3, f4, f5, f6, f7, f8, f9, f11, gB, g6, g7, k8_7, k9_7, k11_7, s0, s1, sd⟩ := hI
     obtain rfl := (f8 e8).symm
     obtain rfl := (f7 e7).symm
     have hS : dn 10 = false := hd
     obtain rfl := s0 hS
     clear s0 s1
     have hdone : ∀ j, j < 10 → dn j = true := by
      intro j hj
      match j, hj with
      | 0, _ => exact hdep ⟨0, .phase⟩ (by cases ho; simp) rfl
      | 1, _ => exact hdep ⟨1, .phase⟩ (by cases ho; simp) rfl
      | 2, _ => exact hdep ⟨2, .phase⟩ (by cases ho; simp) rfl
      | 3, _ => exact hdep ⟨3, .phase⟩ (by cases ho; simp) rfl
      | 4, _ => exact hdep ⟨4, .phase⟩ (by cases ho; simp) rfl
      | 5, _ => exact hdep ⟨5, .phase⟩ (by cases ho; simp) rfl
      | 6, _ => exact hdep ⟨6, .phase⟩ (by cases ho; simp) rfl
      | 7, _ => exact hdep ⟨7, .phase⟩ (by cases ho; simp) rfl
      | 8, _ => exact hdep ⟨8, .phase⟩ (by cases ho; simp) rfl
      | 9, _ => exact hdep ⟨9, .phase⟩ (by cases ho; simp) rfl
      | k + 10, h => exact absurd h (by omega)
     have HDONE := Lib.hid hdone
     clear hdone
     refine opIn_of_list ho ?_
     cases ho
     clear hdep
     have hc0 := k4 _ gB
     have hc1 := k5 _ gB
     have hf0 := k6 _ gB
     have hf1 := k7 _ gB
     gi_wp2
     rw [HIC.out]
     exact ⟨_, _, _, _, _, _, _, _, _, _, _, _, _, _, _, _, _, _, W2, rfl, lf f0, lf f1, lf f2, lf f3, lf f4, lf f5, lf f6, fun _ => rfl, fun _ => rfl, lf f9, lf f11, gB, lf g6, lf g7, (Lib.hid (fun h0 => upd_mono (k8_7.out (lu h0)))), (Lib.hid (fun h0 => upd_mono (k9_7.out (lu h0)))), (Lib.hid (fun h0 => upd_mono (k11_7.out (lu h0)))), (fun h0 => by rw [upd_same] at h0; cases h0), (fun _ => rfl), (Lib.hid (fun _ j hj => upd_mono (HDONE.out j hj)))⟩
    | 11, ho =>
     have e9 : dn 9 = true := hdep ⟨9, .data⟩ (by cases ho; simp) rfl
     have e10 : dn 10 = true := hdep ⟨10, .chain⟩ (by cases ho; simp) rfl
     rw [HIC.out] at hI
     obtain ⟨u41, u42, u43, u44, u45, u46, u47, u48, u49, u50, u5, v1, z1, b2, p2, l2, c2, er, W', rfl, f0, f1, f2, f3, f4, f5, f6, f7, f8, f9, f11, gB, g6, g7, k8_7, k9_7, k11_7, s0, s1, sd⟩ := hI
     obtain rfl := (f9 e9).symm
     obtain rfl := s1 e10
     clear s0 s1
     refine opIn_of_list ho ?_
     cases ho
     clear hdep
     gi_wp2
     rw [HIC.out]
     exact ⟨_, _, _, _, _, _, _, _, _, _, _, _, _, _, _, _, _, _, W', rfl, lf f0, lf f1, lf f2, lf f3, lf f4, lf f5, lf f6, lf f7, lf f8, fun _ => rfl, fun _ => rfl, gB, lf g6, lf g7, (Lib.hid (fun h0 => upd_mono (k8_7.out (lu h0)))), (Lib.hid (fun h0 => upd_mono (k9_7.out (lu h0)))), (Lib.hid (fun _ => upd_mono (k9_7.out e9))), (fun h0 => absurd (upd_mono e10) (by rw [h0]; decide)), (fun _ => rfl), (Lib.hid (fun h0 j hj => upd_mono (sd.out (lu h0) j hj)))⟩
    | k + 12, ho => simp at ho
   case hendC =>
    intro dn a' W2 hI hall
    rw [HIC.out] at hI
    obtain ⟨u41, u42, u43, u44, u45, u46, u47, u48, u49, u50, u5, v1, z1, b2, p2, l2, c2, er, W', rfl, f0, f1, f2, f3, f4, f5, f6, f7, f8, f9, f11, gB, g6, g7, k8_7, k9_7, k11_7, s0, s1, sd⟩ := hI
    obtain rfl := s1 (hall 10 (by decide))
    have G6 := g6 (hall 6 (by decide))
    have G7 := g7 (hall 7 (by decide))
    obtain rfl := (f0 (hall 0 (by decide))).symm
    obtain rfl := (f1 (hall 1 (by decide))).symm
    obtain rfl := (f2 (hall 2 (by decide))).symm
    obtain rfl := (f3 (hall 3 (by decide))).symm
    obtain rfl := (f4 (hall 4 (by decide))).symm
    obtain rfl := (f5 (hall 5 (by decide))).symm
    obtain rfl := (f6 (hall 6 (by decide))).symm
    obtain rfl := (f7 (hall 7 (by decide))).symm
    obtain rfl := (f8 (hall 8 (by decide))).symm
    obtain rfl := (f9 (hall 9 (by decide))).symm
    obtain rfl := (f11 (hall 11 (by decide))).symm
    clear hall g6 g7 HIC
    have hb4 : W'.heap[w.heap.size + 1 + 1]? = some (.cells #[.bool false, .slice none 0 0] 24) := (gB.block _ (by omega)).trans hb4
    obtain ⟨r0, r1⟩ := put2_cell hb4 (.bool b2) (.slice p2 l2 c2)
    have hfit : FitW w.heap.size (put2 W' (w.heap.size + 1 + 1) (.bool b2) (.slice p2 l2 c2)) (.agg #[.bool b2, .slice p2 l2 c2]) er ((sgn na n + sgn (!na) m)) := by
     have h := (G7.mono (by omega : w.heap.size ≤ w1.heap.size)).put2 hb4 (by decide) (.bool b2) (.slice p2 l2 c2)
     have e : (sgn na n + sgn (!na) m) = sgn (!na) (m - n) := by unfold sgn; cases na <;> simp only [Bool.not_true, Bool.not_false, cond_true, cond_false] <;> omega
     rw [e]; exact h
    have hbe : Below w.heap.size w (put2 W' (w.heap.size + 1 + 1) (.bool b2) (.slice p2 l2 c2)) := (hB1.trans (gB.mono hB1.size)).trans ((put2_only _ _ _ _).below (by omega))
    generalize put2 W' (w.heap.size + 1 + 1) (.bool b2) (.slice p2 l2 c2) = W9 at *
    go_wp2
    exact bodyPost_ret (v := .tuple #[.agg #[.bool b2, .slice p2 l2 c2], .int .i64 er]) (by simp [results, Tryz.results100, go_sem, r0, r1]) rfl ⟨b2, p2, l2, c2, er, rfl, hfit, hbe⟩
end Go.Proofs.YtihdbjilolmfiaaGreatDoor
