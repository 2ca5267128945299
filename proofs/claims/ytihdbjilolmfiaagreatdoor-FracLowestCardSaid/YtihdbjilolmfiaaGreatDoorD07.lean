import Derived.Test.YtihdbjilolmfiaaGreatDoorD06
import Derived.Test.YtihdbjilolmfiaaGreatDoorD01
import Derived.Deep.CutBlock
import Derived.Deep.DeepCutAuto
set_option maxRecDepth 100000
set_option maxHeartbeats 4000000
namespace Go.Proofs.YtihdbjilolmfiaaGreatDoor
open Go.RowKit Go.WM Go.WR
structure Only (b : Nat) (w w' : World) : Prop where
 os : w'.os = w.os
 tape : w'.tape = w.tape
 output : w'.output = w.output
 size : w'.heap.size = w.heap.size
 block : ∀ k, k ≠ b → w'.heap[k]? = w.heap[k]?
theorem Only.refl (b : Nat) (w : World) : Only b w w := ⟨rfl, rfl, rfl, rfl, fun _ _ => rfl⟩
theorem Only.trans {b : Nat} {w w1 w2 : World} (h : Only b w w1) (k : Only b w1 w2) : Only b w w2 :=
 ⟨k.os.trans h.os, k.tape.trans h.tape, k.output.trans h.output, k.size.trans h.size, fun i hi => (k.block i hi).trans (h.block i hi)⟩
theorem Only.drewN {b : Nat} {w w1 : World} (h : Only b w w1) (n : Nat) : Only b w (w1.drewN n) := h.trans ⟨rfl, rfl, rfl, rfl, fun _ _ => rfl⟩
theorem Only.setCell {b : Nat} {w w1 : World} (h : Only b w w1) (o : Nat) (v : Value) : Only b w (w1.setCell ⟨b, o, none⟩ v) :=
 h.trans ⟨rfl, rfl, rfl, by simp [World.setCell], fun k hk => Below.heap_setCell _ _ _ _ hk⟩
theorem Only.cell {b : Nat} {w w' : World} (h : Only b w w') {p : Addr} (hp : p.block ≠ b) : w'.cell? p = w.cell? p := World.cell?_of_block (w := w) (h.block p.block hp)
theorem Only.below {b B : Nat} {w w' : World} (h : Only b w w') (hb : B ≤ b) : Below B w w' := ⟨h.os, h.tape, h.output, by rw [h.size]; omega, fun k hk => h.block k (by omega)⟩
theorem Only.grown {b : Nat} {w w' : World} (h : Only b w w') : w.grownBy w' (some b) := ⟨h.os, h.tape, h.output, by rw [h.size]; omega, fun k _ hk => h.block k (fun e => hk (by rw [e]))⟩
theorem seg_get {A S C : List Int} {k : Nat} (hk : k < S.length) : (A ++ S ++ C)[A.length + k]?.getD 0 = S[k]?.getD 0 := by
 rw [List.append_assoc, List.getElem?_append_right (by omega), Nat.add_sub_cancel_left, List.getElem?_append_left hk]
theorem seg_set {A S C : List Int} {k : Nat} (hk : k < S.length) (x : Int) : (A ++ S ++ C).set (A.length + k) x = A ++ S.set k x ++ C := by
 rw [List.append_assoc, List.set_append_right _ _ (by omega), Nat.add_sub_cancel_left, List.set_append_left _ _ hk, List.append_assoc]
theorem Own16.segAt {B : Nat} {W : World} {g len cap : Nat} {A S C : List Int} (h : Own16 B W (.slice (some ⟨g, 0, none⟩) len cap) (A ++ S ++ C)) {k : Nat} (hk : k < S.length) :
 W.cell? ⟨g, A.length + k, none⟩ = some (.int .u16 (S[k]?.getD 0)) ∧ W.frozen? ⟨g, A.length + k, none⟩ = false := by
 have := h.at (A.length + k) (by simp; omega)
 rwa [seg_get hk] at this
theorem Own16.segSet {B : Nat} {W : World} {g len cap : Nat} {A S C : List Int} (h : Own16 B W (.slice (some ⟨g, 0, none⟩) len cap) (A ++ S ++ C)) {k : Nat} (hk : k < S.length) (x : Int) :
 Own16 B (W.setCell ⟨g, A.length + k, none⟩ (.int .u16 x)) (.slice (some ⟨g, 0, none⟩) len cap) (A ++ S.set k x ++ C) := by
 have := h.set (A.length + k) (by simp; omega) x
 rwa [seg_set hk] at this
theorem Own16.drewN {B : Nat} {W : World} {v : Value} {zs : List Int} (h : Own16 B W v zs) (n : Nat) : Own16 B (W.drewN n) v zs := h
theorem digit_some (bu i L0 C0 cu bv ov cv m B : Nat) (A S C V : List Int) (w : World) (hSl : S.length = m + 3) (hVl : V.length = m + 2) (hAl : A.length = i) (hm : m ≤ 35184372088831) (hne : bv ≠ bu) (_ : m + 3 ≤ cu) (_ : m + 2 ≤ cv)
 (hS : Lm S) (hV : Lm V) (htop : 32768 ≤ V[m + 1]?.getD 0) (hlt : val S < 65536 * val V)
 (hown : Own16 B w (.slice (some ⟨bu, 0, none⟩) L0 C0) (A ++ S ++ C)) (hcV : ∀ j, j < m + 2 → w.cell? ⟨bv, ov + j, none⟩ = some (.int .u16 (V[j]?.getD 0))) :
 Calls Tryz.prog 171 #[.slice (some ⟨bu, i, none⟩) (m + 3) cu, .slice (some ⟨bv, ov, none⟩) (m + 2) cv] w fun e w' => ∃ S', e = .returned (.int .u16 (val S / val V)) ∧ Lm S' ∧ S'.length = m + 3 ∧ val S' = val S % val V ∧
  Own16 B w' (.slice (some ⟨bu, 0, none⟩) L0 C0) (A ++ S' ++ C) ∧ Only bu w w' := by
 have HSL := Lib.hid hSl
 have HVL := Lib.hid hVl
 have HAL := Lib.hid hAl
 have HLT := Lib.hid hlt
 obtain ⟨c0, -⟩ := hown.segAt (k := m + 2) (by omega)
 obtain ⟨c1, -⟩ := hown.segAt (k := m + 1) (by omega)
 obtain ⟨c2, -⟩ := hown.segAt (k := m) (by omega)
 have d1 := hcV (m + 1) (by omega)
 have d2 := hcV m (by omega)
 rw [hAl] at c0 c1 c2
 clear hSl hVl hAl hlt
 obtain ⟨u0a, u0b⟩ := hS.getD (m + 2)
 obtain ⟨u1a, u1b⟩ := hS.getD (m + 1)
 obtain ⟨u2a, u2b⟩ := hS.getD m
 obtain ⟨v1a, v1b⟩ := hV.getD (m + 1)
 obtain ⟨v2a, v2b⟩ := hV.getD m
 have hor := WB.or_16 (k := .u64) (r := S[m + 2]?.getD 0) (x := S[m + 1]?.getD 0) rfl u0a u1a u1b (show _ < (18446744073709551616 : Int) by omega)
 obtain ⟨hU, hVe, hr0, hr1, hs0, hs1, hPpos⟩ := digit_parts hS hV HSL.out HVL.out
 obtain ⟨T, hT⟩ : ∃ T, T = S[m + 2]?.getD 0 * 65536 + S[m + 1]?.getD 0 := ⟨_, rfl⟩
 have hT0 : 0 ≤ T := by omega
 have hT1 : T < 4294967296 := by omega
 have HU : Hid (val S = (T * 65536 + S[m]?.getD 0) * 65536 ^ m + val (S.take m)) := by rw [hT]; exact hU
 have HV : Hid (val V = (V[m + 1]?.getD 0 * 65536 + V[m]?.getD 0) * 65536 ^ m + val (V.take m)) := hVe
 have HT := Lib.hid hT
 clear hU hVe hT
 go_enter Tryz.func171, Tryz.ntmps171
 go_wp2
 go_quiet (fail)
 have hown2 := hown.drewN nq
 have hO2 : Only bu w (w.drewN nq) := (Only.refl _ _).drewN nq
 generalize w.drewN nq = w2 at *
 rw [← HT.out]
 go_upto_region 3 with (fail)
 go_cut [8] (fun g wc => ∃ gi : Int, g = .int .u64 gi ∧ 0 ≤ gi ∧ gi ≤ 65535 ∧ gi * V[m + 1]?.getD 0 ≤ T ∧ val S < (gi + 1) * val V ∧ wc = w2)
 case first =>
  have hlead : (0 : Int) < V[m + 1]?.getD 0 := by omega
  have hgi := guess_init (g := min (T / V[m + 1]?.getD 0) 65535) hPpos hT0 HU.out ⟨hr0, hr1⟩ HV.out hs0 v2a ⟨u2a, u2b⟩ hlead HLT.out rfl
  have hml := Int.ediv_mul_le T (show V[m + 1]?.getD 0 ≠ 0 by omega)
  have hq0 := Int.ediv_nonneg hT0 (show 0 ≤ V[m + 1]?.getD 0 by omega)
  have HGI := Lib.hid hgi
  clear hgi
  by_cases hq : T / V[m + 1]?.getD 0 < 65535
  · go_wp2
    all_goals
     go_meet
     case rel => exact ⟨_, rfl, by omega, by omega, (by first | exact hml | (rw [Int.min_eq_left (by omega)]; exact hml)), (by have h := HGI.out; first | exact h | rwa [Int.min_eq_left (by omega)] at h), rfl⟩
  · have hq2 : (65535 : Int) * V[m + 1]?.getD 0 ≤ T := Int.le_trans (Int.mul_le_mul_of_nonneg_right (by omega) (by omega)) hml
    go_wp2
    all_goals
     go_meet
     case rel => exact ⟨65535, by first | rfl | exact congrArg (Value.int IntKind.u64) (by omega), by omega, by omega, hq2, by have h := HGI.out; rwa [Int.min_eq_right (by omega)] at h, rfl⟩
 case rest =>
  obtain ⟨g0, rfl, hg0, hg1, hgl, hgv, rfl⟩ := hcut
  have HGV := Lib.hid hgv
  clear hgv
  go_upto_block 0 with (fail)
  go_cut [8] (fun g wc => ∃ gi : Int, g = .int .u64 gi ∧ 0 ≤ gi ∧ gi ≤ 65535 ∧ val S < (gi + 1) * val V ∧ gi * val V < val S + val V ∧ Own16 B wc (.slice (some ⟨bu, 0, none⟩) L0 C0) (A ++ S ++ C) ∧ Only bu w wc)
  case first =>
   go_wp2
   go_loopw [8] (fun g wr => ∃ gi : Int, g = .int .u64 gi ∧ 0 ≤ gi ∧ gi ≤ 65535 ∧ gi * V[m + 1]?.getD 0 ≤ T ∧ val S < (gi + 1) * val V ∧ Own16 B wr (.slice (some ⟨bu, 0, none⟩) L0 C0) (A ++ S ++ C) ∧ Only bu w wr) (fun g _ => (intOf g).toNat)
   case atStart => exact ⟨g0, rfl, hg0, hg1, hgl, HGV.out, hown2, hO2⟩
   case round =>
    clear hg0 hg1 hgl HGV
    obtain ⟨gi, rfl, hg0, hg1, hgl, hgv, hownr, hOr⟩ := hrel
    have HGV := Lib.hid hgv
    clear hgv
    obtain ⟨c2r, -⟩ := hownr.segAt (k := m) (by rw [HSL.out]; omega)
    rw [HAL.out] at c2r
    have d2r : wr.cell? ⟨bv, ov + m, none⟩ = some (.int .u16 (V[m]?.getD 0)) := (hOr.cell (p := ⟨bv, ov + m, none⟩) hne).trans d2
    obtain ⟨p1, p2⟩ := mul_bd hg0 hg1 v2a (show V[m]?.getD 0 ≤ 65535 by omega)
    obtain ⟨p3, p4⟩ := mul_bd hg0 hg1 (show 0 ≤ V[m + 1]?.getD 0 by omega) (show V[m + 1]?.getD 0 ≤ 65535 by omega)
    have hor2 := WB.or_16 (k := .u64) (r := T - gi * V[m + 1]?.getD 0) (x := S[m]?.getD 0) rfl (by omega) u2a u2b (show _ < (18446744073709551616 : Int) by omega)
    have p5 : 0 ≤ T - gi * V[m + 1]?.getD 0 := by omega
    by_cases ht : (T - gi * V[m + 1]?.getD 0) * 65536 + S[m]?.getD 0 < gi * V[m]?.getD 0
    · have hg2 : 1 ≤ gi := by
       rcases (show gi = 0 ∨ 1 ≤ gi by omega) with h | h
       · subst h; simp only [Int.zero_mul] at ht; omega
       · exact h
      have hdn := guess_down hPpos HU.out hr1 HV.out hs0 hg0 ht
      have HDN : Hid (val S < (gi - 1 + 1) * val V) := by rw [Int.sub_add_cancel]; exact hdn
      have e6 : (gi - 1) * V[m + 1]?.getD 0 = gi * V[m + 1]?.getD 0 - V[m + 1]?.getD 0 := by rw [Int.sub_mul]; omega
      have p6 : 0 ≤ (gi - 1) * V[m + 1]?.getD 0 := Int.mul_nonneg (by omega) (by omega)
      have p7 : (gi - 1) * V[m + 1]?.getD 0 ≤ T := by omega
      have p8 : (gi - 1) * V[m + 1]?.getD 0 ≤ 4294836225 := by omega
      have p9 : 0 ≤ T - (gi - 1) * V[m + 1]?.getD 0 := by omega
      clear hdn e6
      by_cases hb : 65535 < T - (gi - 1) * V[m + 1]?.getD 0
      · have hdone := guess_done (g := gi - 1) hPpos HU.out hr0 HV.out ⟨hs0, hs1⟩ v2a (show 0 < V[m + 1]?.getD 0 by omega) ⟨by omega, by omega⟩ (by
         have := mul_bd (show 0 ≤ gi - 1 by omega) (show gi - 1 ≤ 65535 by omega) v2a (show V[m]?.getD 0 ≤ 65535 by omega)
         omega)
        have HD := Lib.hid hdone
        clear hdone
        go_wp2
        go_quiet (fail)
        go_wp2
        go_meet
        case rel => exact ⟨gi - 1, rfl, by omega, by omega, HDN.out, HD.out, hownr.drewN nq, hOr.drewN nq⟩
      · go_wp2
        go_quiet (fail)
        go_wp2
        go_roundw
        case rel => exact ⟨gi - 1, rfl, by omega, by omega, p7, HDN.out, hownr.drewN nq, hOr.drewN nq⟩
        case measure => simp [intOf]; omega
    · have hdone := guess_done (g := gi) hPpos HU.out hr0 HV.out ⟨hs0, hs1⟩ v2a (show 0 < V[m + 1]?.getD 0 by omega) ⟨by omega, by omega⟩ (by omega)
      have HD := Lib.hid hdone
      clear hdone
      go_wp2
      go_quiet (fail)
      go_wp2
      go_meet
      case rel => exact ⟨gi, rfl, by omega, by omega, HGV.out, HD.out, hownr.drewN nq, hOr.drewN nq⟩
  case rest =>
   clear hg0 hg1 hgl HGV hown2 hO2
   obtain ⟨gi, rfl, hg0, hg1, hgv, hgd, hown3, hO3⟩ := hcut
   have HGV := Lib.hid hgv
   have HGD := Lib.hid hgd
   clear hgv hgd
   clear c0 c1 c2 d1 d2 hor
   go_upto_block 2 with (fail)
   go_cut [9] (fun ev wc => ∃ (e : Int) (S2 : List Int), ev = .int .i64 e ∧ -65535 ≤ e ∧ e ≤ 0 ∧ Lm S2 ∧ S2.length = m + 3 ∧ S2[m + 2]?.getD 0 = S[m + 2]?.getD 0 ∧
    val (S2.take (m + 2)) + 65536 ^ (m + 2) * e = val (S.take (m + 2)) - gi * val (V.take (m + 2)) ∧ Own16 B wc (.slice (some ⟨bu, 0, none⟩) L0 C0) (A ++ S2 ++ C) ∧ Only bu w wc)
   case first =>
    go_wp2
    go_loopw [9, 75] (fun ev kv wr => ∃ (e : Int) (k : Nat) (S2 : List Int), k ≤ m + 2 ∧ ev = .int .i64 e ∧ kv = .int .i64 k ∧ -65535 ≤ e ∧ e ≤ 0 ∧ Lm S2 ∧ S2.length = m + 3 ∧ (∀ j, k ≤ j → S2[j]?.getD 0 = S[j]?.getD 0) ∧
     val (S2.take k) + 65536 ^ k * e = val (S.take k) - gi * val (V.take k) ∧ Own16 B wr (.slice (some ⟨bu, 0, none⟩) L0 C0) (A ++ S2 ++ C) ∧ Only bu w wr) (fun _ kv _ => m + 2 - (intOf kv).toNat)
    case atStart => exact ⟨0, 0, S, Nat.zero_le _, rfl, rfl, by omega, by omega, hS, HSL.out, fun _ _ => rfl, by simp [val], hown3, hO3⟩
    case round =>
     obtain ⟨e, k, S2, hk, rfl, rfl, he0, he1, hL2, hl2, hag, hval, hownr, hOr⟩ := hrel
     have HL2 := Lib.hid hl2
     have HAG := Lib.hid hag
     have HVAL := Lib.hid hval
     clear hl2 hag hval
     by_cases hkl : k < m + 2
     · obtain ⟨ck, fk⟩ := hownr.segAt (k := k) (by rw [HL2.out]; omega)
       rw [HAL.out] at ck fk
       have dk : wr.cell? ⟨bv, ov + k, none⟩ = some (.int .u16 (V[k]?.getD 0)) := (hOr.cell (p := ⟨bv, ov + k, none⟩) hne).trans (hcV k hkl)
       obtain ⟨x0, x1⟩ := hL2.getD k
       obtain ⟨y0, y1⟩ := hV.getD k
       obtain ⟨q0, q1⟩ := mul_bd hg0 hg1 y0 (show V[k]?.getD 0 ≤ 65535 by omega)
       have hst := mulsub_step (V := V) (g := gi) (show k < S2.length by rw [HL2.out]; omega) (HAG.out k (Nat.le_refl _)) HVAL.out
       have HST := Lib.hid hst
       clear hst
       go_wp2
       go_roundw
       case rel =>
        have hset := hownr.segSet (k := k) (by rw [HL2.out]; omega) ((S2[k]?.getD 0 - gi * V[k]?.getD 0 + e) % 65536)
        rw [HAL.out, ← IntKind.wrap_u16] at hset
        refine ⟨_, k + 1, _, by omega, rfl, by go_num, by omega, by omega, hL2.set k (x := (S2[k]?.getD 0 - gi * V[k]?.getD 0 + e) % 65536) (by omega), by rw [List.length_set]; exact HL2.out, fun j hj => ?_, HST.out, ?_, hOr.setCell _ _⟩
        · rw [getD_set, if_neg (by omega)]; exact HAG.out j (by omega)
        · rw [← IntKind.wrap_u16]; exact hset
       case measure => simp [intOf]; omega
     · obtain rfl : k = m + 2 := by omega
       go_wp2
       go_meet
       case rel => exact ⟨e, S2, rfl, he0, he1, hL2, HL2.out, HAG.out _ (Nat.le_refl _), HVAL.out, hownr, hOr⟩
   case rest =>
    obtain ⟨e, S2, rfl, he0, he1, hL2, hl2, htop2, hval, hown4, hO4⟩ := hcut
    have hend := digit_end (n := m + 2) HSL.out hl2 hL2 hV HVL.out htop2 hval HGV.out HGD.out
    have HL2 := Lib.hid hl2
    clear hl2 htop2 hval
    obtain ⟨ck, fk⟩ := hown4.segAt (k := m + 2) (by rw [HL2.out]; omega)
    rw [HAL.out] at ck fk
    obtain ⟨x0, x1⟩ := hL2.getD (m + 2)
    rcases hend with ⟨hd, hv, hr0, hr1⟩ | ⟨hd, hv, hr0, hr1⟩
    · have huni := div_unique (a := val S) (b := val V) (q := gi) (r := val S - gi * val V) (by omega) hr0 hr1
      have HU2 := Lib.hid huni
      have HVV := Lib.hid hv
      clear huni hv hr0 hr1
      have hdd : S2[m + 2]?.getD 0 = -e := by omega
      have HDD := Lib.hid hdd
      have hw0 : 0 ≤ S2[m + 2]?.getD 0 + e := by omega
      have hset := hown4.segSet (k := m + 2) (by rw [HL2.out]; omega) 0
      rw [HAL.out] at hset
      have HSET := Lib.hid hset
      have HD := Lib.hid hd
      clear hd hdd hset
      go_wp2
      go_ret
      refine ⟨S2.set (m + 2) 0, congrArg (fun x => Ending.returned (Value.int IntKind.u16 x)) HU2.out.1, hL2.set _ (by omega), by rw [List.length_set]; exact HL2.out, by rw [HVV.out]; exact HU2.out.2, ?_, hO4.setCell _ _⟩
      rw [HD.out]; exact HSET.out
    · have hg2 : 1 ≤ gi := by
       rcases (show gi = 0 ∨ 1 ≤ gi by omega) with h | h
       · subst h; have := val_nonneg hS; simp only [Int.zero_mul] at hr0; omega
       · exact h
      have hone : (gi - 1) * val V = gi * val V - val V := by rw [Int.sub_mul]; omega
      have huni := div_unique (a := val S) (b := val V) (q := gi - 1) (r := val S - gi * val V + val V) (by omega) (by omega) (by omega)
      have hrn : 0 ≤ val S - gi * val V + val V := by omega
      have hw0 : S2[m + 2]?.getD 0 + e < 0 := by omega
      have hw1 : IntKind.u16.wrap (S2[m + 2]?.getD 0 + e) = 65535 := by rw [hd]; decide
      have hset := hown4.segSet (k := m + 2) (by rw [HL2.out]; omega) 65535
      rw [HAL.out] at hset
      have HU2 := Lib.hid huni
      have HRN := Lib.hid hrn
      have HV2 : Hid (val ((S2.set (m + 2) 65535).take (m + 2)) = (val S - gi * val V + val V) - val V + 65536 ^ (m + 2)) := by
       rw [List.take_set_of_le (Nat.le_refl _), hv]; show _ = _; omega
      have HSET := Lib.hid hset
      have HW1 := Lib.hid hw1
      have htop : (S2.set (m + 2) 65535)[m + 2]?.getD 0 = 65535 := by rw [getD_set, if_pos ⟨rfl, by rw [HL2.out]; omega⟩]
      have HTOP := Lib.hid htop
      have hLn : Lm (S2.set (m + 2) 65535) := hL2.set _ (by omega)
      have hln : (S2.set (m + 2) 65535).length = m + 3 := by rw [List.length_set]; exact HL2.out
      have HLN := Lib.hid hln
      clear hd hset huni hrn hv hr0 hr1 hone hw1 htop hln
      go_wp2
      rw [HW1.out]
      have hown5 := HSET.out
      have hO5 : Only bu w (wc.setCell ⟨bu, i + (m + 2), none⟩ (.int .u16 65535)) := hO4.setCell _ _
      generalize wc.setCell ⟨bu, i + (m + 2), none⟩ (.int .u16 65535) = w5 at *
      generalize S2.set (m + 2) 65535 = Sx at *
      clear ck fk hown4 hO4 hL2 HL2 HSET x0 x1 HW1
      go_loopw [14, 119] (fun cv kv wr => ∃ (c : Int) (k : Nat) (S3 : List Int), k ≤ m + 2 ∧ cv = .int .u32 c ∧ kv = .int .i64 k ∧ 0 ≤ c ∧ c ≤ 1 ∧ Lm S3 ∧ S3.length = m + 3 ∧ (∀ j, k ≤ j → S3[j]?.getD 0 = Sx[j]?.getD 0) ∧
       val (S3.take k) + 65536 ^ k * c = val (Sx.take k) + val (V.take k) ∧ Own16 B wr (.slice (some ⟨bu, 0, none⟩) L0 C0) (A ++ S3 ++ C) ∧ Only bu w wr) (fun _ kv _ => m + 2 - (intOf kv).toNat)
      case atStart => exact ⟨0, 0, Sx, Nat.zero_le _, rfl, rfl, by omega, by omega, hLn, HLN.out, fun _ _ => rfl, by simp [val], hown5, hO5⟩
      case round =>
       obtain ⟨c, k, S3, hk, rfl, rfl, hc0, hc1, hL3, hl3, hag, hval, hownr, hOr⟩ := hrel
       have HL3 := Lib.hid hl3
       have HAG := Lib.hid hag
       have HVAL := Lib.hid hval
       clear hl3 hag hval
       by_cases hkl : k < m + 2
       · obtain ⟨ck, fk⟩ := hownr.segAt (k := k) (by rw [HL3.out]; omega)
         rw [HAL.out] at ck fk
         have dk : wr.cell? ⟨bv, ov + k, none⟩ = some (.int .u16 (V[k]?.getD 0)) := (hOr.cell (p := ⟨bv, ov + k, none⟩) hne).trans (hcV k hkl)
         obtain ⟨x0, x1⟩ := hL3.getD k
         obtain ⟨y0, y1⟩ := hV.getD k
         have hst := addback_step (V := V) (show k < S3.length by rw [HL3.out]; omega) (HAG.out k (Nat.le_refl _)) HVAL.out
         have HST := Lib.hid hst
         clear hst
         go_wp2
         go_roundw
         case rel =>
          have hset := hownr.segSet (k := k) (by rw [HL3.out]; omega) ((S3[k]?.getD 0 + V[k]?.getD 0 + c) % 65536)
          rw [HAL.out, ← IntKind.wrap_u16] at hset
          refine ⟨_, k + 1, _, by omega, rfl, by go_num, by omega, by omega, hL3.set k (x := (S3[k]?.getD 0 + V[k]?.getD 0 + c) % 65536) (by omega), by rw [List.length_set]; exact HL3.out, fun j hj => ?_, HST.out, ?_, hOr.setCell _ _⟩
          · rw [getD_set, if_neg (by omega)]; exact HAG.out j (by omega)
          · rw [← IntKind.wrap_u16]; exact hset
         case measure => simp [intOf]; omega
       · obtain rfl : k = m + 2 := by omega
         obtain ⟨rfl, hv3⟩ := addback_end (n := m + 2) HL3.out hL3 HVL.out hc0 hc1 HVAL.out HV2.out HRN.out
         obtain ⟨ck, fk⟩ := hownr.segAt (k := m + 2) (by rw [HL3.out]; omega)
         rw [HAL.out, HAG.out _ (Nat.le_refl _), HTOP.out] at ck
         rw [HAL.out] at fk
         have hset := hownr.segSet (k := m + 2) (by rw [HL3.out]; omega) 0
         rw [HAL.out] at hset
         have HSET := Lib.hid hset
         have HV3 := Lib.hid hv3
         clear hset hv3
         go_wp2
         go_ret
         exact ⟨S3.set (m + 2) 0, congrArg (fun x => Ending.returned (Value.int IntKind.u16 x)) HU2.out.1, hL3.set _ (by omega), by rw [List.length_set]; exact HL3.out, by rw [HV3.out]; exact HU2.out.2, HSET.out, hOr.setCell _ _⟩
end Go.Proofs.YtihdbjilolmfiaaGreatDoor
