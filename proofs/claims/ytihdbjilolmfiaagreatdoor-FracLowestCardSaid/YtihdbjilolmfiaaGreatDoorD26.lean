import Derived.Test.YtihdbjilolmfiaaGreatDoorD25
import Derived.Test.YtihdbjilolmfiaaGreatDoorD23
import Derived.Test.YtihdbjilolmfiaaGreatDoorD24
import Derived.Test.YtihdbjilolmfiaaGreatDoorD12
import Derived.Test.YtihdbjilolmfiaaGreatDoorD01
import Derived.OwnWalkIn
import Derived.LoopIn
import Derived.LoopNIn
set_option maxRecDepth 100000
set_option maxHeartbeats 4000000
namespace Go.Proofs.YtihdbjilolmfiaaGreatDoor
open Go.RowKit Go.WM Go.WR
attribute [local go_sem] Oper.semAt_some
def Own32 (B : Nat) (W : World) (v : Value) (gs : List Int) : Prop := W.ownsRow B 101 1 v gs.length (gs.map (Value.int .u32))
theorem Own32.below {B : Nat} {W W' : World} {v : Value} {zs : List Int} (h : Own32 B W v zs) (hb : Below W.heap.size W W') : Own32 B W' v zs := by
 refine World.ownsRow.kept h (row := none) ⟨hb.os, hb.tape, hb.output, hb.size, fun k hk _ => hb.block k hk⟩ ?_
 cases hv : v.ownBlock <;> simp
theorem Own32.alloc {B : Nat} {W : World} {v : Value} {zs : List Int} (h : Own32 B W v zs) (o : Obj) : Own32 B (W.alloc o) v zs := World.ownsRow.alloc h o
theorem Own32.shape {B : Nat} {W : World} {v : Value} {zs : List Int} (h : Own32 B W v zs) : ∃ p c, v = .slice p zs.length c := by
 rcases h.2 with ⟨e, h0⟩ | ⟨g, cap, cur, e, _⟩
 · exact ⟨none, 0, by rw [e, h0]⟩
 · exact ⟨_, _, e⟩
theorem Own32.form {B : Nat} {W : World} {v : Value} {zs : List Int} (h : Own32 B W v zs) (h0 : zs ≠ []) : ∃ g cap, v = .slice (some ⟨g, 0, none⟩) zs.length cap ∧ B ≤ g ∧ g < W.heap.size ∧ zs.length ≤ cap ∧ ∀ j, j < zs.length → W.cell? ⟨g, 0 + j, none⟩ = some (.int .u32 (zs[j]?.getD 0)) := by
 have hcells := fun g => World.ownsRow.cells (g := g) h
 obtain ⟨hl, h⟩ := h
 rcases h with ⟨e, hn⟩ | ⟨g', cap', cur, e, hB, hh, hn, hc, hs, ht⟩
 · exact absurd (List.length_eq_zero_iff.1 hn) h0
 · refine ⟨g', cap', e, hB, (Array.getElem?_eq_some_iff.1 hh).1, hn, fun j hj => ?_⟩
   have := hcells g' (by rw [e]; rfl) j (.int .u32 (zs[j]?.getD 0)) (by simp [hj])
   rw [show (⟨g', 0, none⟩ : Addr).add j = ⟨g', 0 + j, none⟩ by by_cases hj0 : j = 0 <;> simp [Addr.add, hj0]] at this
   exact this
theorem floor_mul {x y q : Int} (h : q * y = x) : Floor x y q 0 := ⟨by omega, fun h => ⟨Int.le_refl 0, h⟩, fun h => ⟨h, Int.le_refl 0⟩⟩
theorem divInt_exact {n d N D g : Int} (hd : d ≠ 0) (hg : g.natAbs = Int.gcd n d) (hN : N * g = n) (hD : D * g = d) (hp : 0 < D) : N = (Rat.divInt n d).num ∧ D = ((Rat.divInt n d).den : Int) := by
 have hg0 : g ≠ 0 := by intro e; subst e; simp at hD; exact hd hD.symm
 have h1 : Int.gcd N D = 1 := by
  have e : Int.gcd (N * g) (D * g) = Int.gcd N D * g.natAbs := Int.gcd_mul_right ..
  rw [hN, hD, ← hg] at e
  have hpos : 0 < g.natAbs := by omega
  have : 1 * g.natAbs = Int.gcd N D * g.natAbs := by omega
  exact (Nat.eq_of_mul_eq_mul_right hpos this).symm
 have h2 : Rat.divInt n d = Rat.divInt N D := by
  rw [Rat.divInt_eq_divInt_iff hd (by omega), ← hN, ← hD]; grind
 rw [h2]
 obtain ⟨k, hk⟩ : ∃ k : Nat, D = k := ⟨D.toNat, by omega⟩
 subst hk
 have hk0 : k ≠ 0 := by omega
 rw [gcd_cast] at h1
 rw [← Rat.mk_eq_divInt (nz := hk0) (c := h1)]
 exact ⟨rfl, rfl⟩
theorem c46a {n d g N D : Int} {v0 v1 : Value} {w : World} (_hd0 : d ≠ 0) (hd : d < 0) (hg : ((Int.gcd n d : Nat) : Int) = g) (g0 : ¬ g < 0) (g1 : (-g) ≠ 0) (f1 : Floor n (-g) N 0) (f2 : Floor d (-g) D 0) (ht : (decide ((N.natAbs : Int) < CapF) && decide ((D.natAbs : Int) < CapF)) = true) (h0 : Is (num n) v0 w) (h1 : Is (num d) v1 w) : Calls Tryz.prog 46 #[v0, v1] w (Ret (.k (tup2 (.k (fr N D)) (.val (.int .i64 0)))) w) := by
 obtain ⟨ya0, yp0, yl0, yd0, rfl⟩ := h0.form
 obtain ⟨ya1, yp1, yl1, yd1, rfl⟩ := h1.form
 obtain rfl : ya1 = true := (num_sign (W := w) h1).trans (decide_eq_true hd)
 have hz : decide (((yl1 : Nat) : Int) = 0) = false := decide_eq_false (by have := num_len (W := w) h1; omega)
 have HZ := Lib.hid hz
 have HG := Lib.hid hg
 have G0 := Lib.hid g0
 have G1 := Lib.hid g1
 have F1 := Lib.hid f1
 have F2 := Lib.hid f2
 have HT := Lib.hid ht
 clear hz hg g0 g1 f1 f2 ht hd _hd0
 have hB0 := Below.refl w.heap.size w
 go_enter Tryz.func46, Tryz.ntmps46
 go_upto_region 0 with fail
 refine rg (n := 9) (t16 := 48) w.heap.size [] [.any, .any, .any, vZ] [(0, 2), (1, 3), (2, 4), (3, 5)] [⟨24, some 0, 0, pt, 2, [.c #[.bool ya0, .slice yp0 yl0 yd0]], []⟩, ⟨24, some 1, 0, pt, 2, [.c #[.bool true, .slice yp1 yl1 yd1]], []⟩, ⟨26, some 2, 0, pt, 4, [.c #[.bool false, .slice none 0 0, .bool false, .slice none 0 0]], []⟩] ?ok1 ?st1 ?al1 ?pu1 ?en1
 case ok1 => exact BxOK.fresh rfl hB0.size
 case st1 =>
  intro zi zo ho hro a' u lc W hM
  match zi, ho, hro with
  | 0, _, hro => exact nr1 hro (by kernel_rfl)
  | 1, _, hro => exact nr1 hro (by kernel_rfl)
  | 2, _, hro => exact nr1 hro (by kernel_rfl)
  | 3, ho, _ => cases ho; exact wn (kAssign rfl rfl)
  | zk + 4, ho, _ => simp at ho
 case al1 =>
  intro zk zb zi zo hk ha ho a' u lc W hM
  match zk, hk with
  | 0, hk => cases hk; cases ha; cases ho; exact ⟨rfl, rfl, rfl, rfl, kBox rfl (hM.ol 0)⟩
  | 1, hk => cases hk; cases ha; cases ho; exact ⟨rfl, rfl, rfl, rfl, kBox rfl (hM.ol 1)⟩
  | 2, hk => cases hk; cases ha; cases ho; exact ⟨rfl, rfl, rfl, rfl, kAlloc26 rfl⟩
  | zk + 3, hk => simp at hk
 case pu1 =>
  intro zk zb zs zo hk hs ho a' u lc W zc hM hc hcs
  match zk, hk with
  | 0, hk => cases hk; simp at hs
  | 1, hk => cases hk; simp at hs
  | 2, hk => cases hk; simp at hs
  | zk + 3, hk => simp at hk
 case en1 =>
  intro u1 lc1 W1 hK1 hB1 hO1 hV1 hX1 hA1
  obtain ⟨qr, ho, hl⟩ := hX1 0 _ rfl
  have e1_0 : u1 0 = .pointer (some ⟨lc1 0, 0, none⟩) := (hl 0 rfl).1
  have g1_0 := (hl 0 rfl).2
  have f1_0 := h0.kept hK1
  have q1_0 : W1.heap[(lc1 0)]? = some (.cells #[.bool ya0, .slice yp0 yl0 yd0] 24) := by
   exact qr
  obtain ⟨qr, ho, hl⟩ := hX1 1 _ rfl
  have e1_1 : u1 1 = .pointer (some ⟨lc1 1, 0, none⟩) := (hl 1 rfl).1
  have g1_1 := (hl 1 rfl).2
  have f1_1 := h1.kept hK1
  have q1_1 : W1.heap[(lc1 1)]? = some (.cells #[.bool true, .slice yp1 yl1 yd1] 24) := by
   exact qr
  obtain ⟨qr, ho, hl⟩ := hX1 2 _ rfl
  have e1_2 : u1 2 = .pointer (some ⟨lc1 2, 0, none⟩) := (hl 2 rfl).1
  have g1_2 := (hl 2 rfl).2
  have q1_2 : W1.heap[(lc1 2)]? = some (.cells #[.bool false, .slice none 0 0, .bool false, .slice none 0 0] 26) := by
   exact qr
  have ne1_0_2 := hA1 0 2 _ _ rfl rfl (by decide)
  have ne1_1_2 := hA1 1 2 _ _ rfl rfl (by decide)
  simp only [putK, fC, fN, kZ, kS, vV, vA, sI, sZ, sS, e1_0, e1_1, e1_2]
  have hBt1 := hB0.trans hB1
  clear hV1 hX1 hA1
  go_upto_region 1 with fail
  refine rg0 (n := 9) (t16 := 48) w.heap.size [.val (.agg #[.bool ya0, .slice yp0 yl0 yd0]), vT, vF, vF, .val (.agg #[.bool true, .slice yp1 yl1 yd1]), vT, vF, vF, vF] [(0, 8), (1, 9), (2, 10), (3, 11), (4, 12), (5, 13), (6, 14), (7, 15), (8, 7)] hBt1.size ?st2 ?en2
  case st2 =>
   intro zi zo ho hro a' u lc W hM
   match zi, ho, hro with
   | 0, ho, _ => cases ho; exact wn (kL24 rfl (hM.ol 2) (hM.o0 q1_0) rfl)
   | 1, ho, _ => cases ho; exact wn (kCall1 rfl may43 (hM.d 0 8 rfl) (c43n (f1_0.kept hM.kept)))
   | 2, ho, _ => cases ho; exact wn (kNot rfl (hM.d 1 9 rfl) rfl)
   | 3, ho, _ => cases ho; exact wn (kMove rfl (hM.d 2 10 rfl))
   | 4, ho, _ => cases ho; exact hM.wg (hM.d 3 11 rfl) (kL24 rfl (hM.ol 3) (hM.o0 q1_1) rfl)
   | 5, ho, _ => cases ho; exact hM.wg (hM.d 3 11 rfl) (kCall1 rfl may43 (hM.d 4 12 rfl) (c43n (f1_1.kept hM.kept)))
   | 6, ho, _ => cases ho; exact hM.wg (hM.d 3 11 rfl) (kNot rfl (hM.d 5 13 rfl) rfl)
   | 7, ho, _ => cases ho; exact wn (kPick rfl (hM.d 3 11 rfl) (hM.d 6 14 rfl))
   | 8, ho, _ => cases ho; exact wn (kAssign rfl (hM.d 7 15 rfl))
   | zk + 9, ho, _ => simp at ho
  case en2 =>
   intro u2 lc2 W2 hK2 hB2 hO2 hV2 hX2 hA2
   have q2_1_0 := oth0 hO2 q1_0
   have f2_0 := f1_0.kept hK2
   have q2_1_1 := oth0 hO2 q1_1
   have f2_1 := f1_1.kept hK2
   have q2_1_2 := oth0 hO2 q1_2
   simp only [putK, fC, fN, kZ, kS, vV, sI, sZ, sS]
   have hBt2 := hBt1.trans hB2
   clear hV2 hX2 hA2
   go_upto_region 3 with fail
   refine rg0 (n := 9) (t16 := 48) w.heap.size [.val (.pointer (some ⟨(lc1 1), 1, none⟩)), .val (.slice yp1 yl1 yd1), .val (.int .i64 ((yl1 : Nat) : Int)), vF, vF] [(0, 18), (1, 19), (2, 20), (3, 21), (4, 17)] hBt2.size ?st3 ?en3
   case st3 =>
    intro zi zo ho hro a' u lc W hM
    match zi, ho, hro with
    | 0, ho, _ => cases ho; exact wn (kField24_1 rfl (hM.ol 3))
    | 1, ho, _ => cases ho; exact wn (kLoad1 Tryz.underlying22 rfl rfl (hM.d 0 18 rfl) (hM.o0 q2_1_1) rfl rfl)
    | 2, ho, _ => cases ho; exact wn (kLen rfl (hM.d 1 19 rfl))
    | 3, ho, _ => cases ho; exact wn (kEql3 rfl (hM.d 2 20 rfl) rfl HZ.out)
    | 4, ho, _ => cases ho; exact wn (kAssign rfl (hM.d 3 21 rfl))
    | zk + 5, ho, _ => simp at ho
   case en3 =>
    intro u3 lc3 W3 hK3 hB3 hO3 hV3 hX3 hA3
    have q3_1_0 := oth0 hO3 q2_1_0
    have f3_0 := f2_0.kept hK3
    have q3_1_1 := oth0 hO3 q2_1_1
    have f3_1 := f2_1.kept hK3
    have q3_1_2 := oth0 hO3 q2_1_2
    simp only [putK, fC, fN, kZ, kS, vV, sI, sZ, sS]
    have hBt3 := hBt2.trans hB3
    clear hV3 hX3 hA3
    go_upto_region 5 with fail
    refine rg (n := 9) (t16 := 48) w.heap.size [] [.val (.agg #[.bool ya0, .slice yp0 yl0 yd0]), .val (.agg #[.bool true, .slice yp1 yl1 yd1]), .k (num g), .any, .any] [(0, 23), (1, 24), (2, 25), (3, 6)] [⟨24, some 3, 0, pt, 2, [.c #[.bool false, .slice none 0 0]], [(4, 0, 2)]⟩] ?ok4 ?st4 ?al4 ?pu4 ?en4
    case ok4 => exact BxOK.fresh rfl hBt3.size
    case st4 =>
     intro zi zo ho hro a' u lc W hM
     match zi, ho, hro with
     | 0, ho, _ => cases ho; exact wn (kL24 rfl (hM.ol 2) (hM.o0 q3_1_0) rfl)
     | 1, ho, _ => cases ho; exact wn (kL24 rfl (hM.ol 3) (hM.o0 q3_1_1) rfl)
     | 2, ho, _ => cases ho; exact wn (kCall2 rfl may73 (hM.d 0 23 rfl) (hM.d 1 24 rfl) (c73 HG.out (f3_0.kept hM.kept) (f3_1.kept hM.kept)))
     | 3, _, hro => exact nr1 hro (by kernel_rfl)
     | 4, _, hro => exact nr1 hro (by kernel_rfl)
     | zk + 5, ho, _ => simp at ho
    case al4 =>
     intro zk zb zi zo hk ha ho a' u lc W hM
     match zk, hk with
     | 0, hk => cases hk; cases ha; cases ho; exact ⟨rfl, rfl, rfl, rfl, kAlloc24 rfl⟩
     | zk + 1, hk => simp at hk
    case pu4 =>
     intro zk zb zs zo hk hs ho a' u lc W zc hM hc hcs
     match zk, hk with
     | 0, hk =>
      cases hk
      simp only [List.mem_cons, List.not_mem_nil, or_false] at hs
      rcases hs with rfl
      · cases ho
        obtain ⟨sb, sp, sl, sc, e⟩ := (show Is (num g) (u 2) W from (hM.kd 2)).form
        exact kPut rfl e ((hM.v 3 6 rfl).trans (hM.loc 0 _ 3 rfl rfl (by kernel_rfl))) (hM.v 2 25 rfl) hc hcs sz24
     | zk + 1, hk => simp at hk
    case en4 =>
     intro u4 lc4 W4 hK4 hB4 hO4 hV4 hX4 hA4
     have e4_0 := kv (hV4 0 23 rfl) rfl
     have k4_2 := kk (hV4 2 25 rfl) rfl
     obtain ⟨qr, ho, hl⟩ := hX4 0 _ rfl
     have e4_3 : u4 3 = .pointer (some ⟨lc4 0, 0, none⟩) := (hl 3 rfl).1
     have g4_0 := (hl 3 rfl).2
     obtain ⟨x4_4, y4_4, z4_4, c4_4, es4_4⟩ := k4_2.form
     have sk4_4 : Is (num g) (.agg #[.bool x4_4, .slice y4_4 z4_4 c4_4]) W4 := by rw [← es4_4]; exact k4_2
     have q4_0 : W4.heap[(lc4 0)]? = some (.cells #[.bool x4_4, .slice y4_4 z4_4 c4_4] 24) := by
      rw [contAll_one rfl (cs := #[.bool x4_4, .slice y4_4 z4_4 c4_4]) (by rw [es4_4]; rfl) rfl] at qr; exact qr
     have ne4_0_1_0 := Nat.ne_of_lt (Nat.lt_of_lt_of_le (Array.getElem?_eq_some_iff.1 q3_1_0).1 g4_0)
     have ne4_0_1_1 := Nat.ne_of_lt (Nat.lt_of_lt_of_le (Array.getElem?_eq_some_iff.1 q3_1_1).1 g4_0)
     have ne4_0_1_2 := Nat.ne_of_lt (Nat.lt_of_lt_of_le (Array.getElem?_eq_some_iff.1 q3_1_2).1 g4_0)
     have q4_1_0 := oth0 hO4 q3_1_0
     have f4_0 := f3_0.kept hK4
     have q4_1_1 := oth0 hO4 q3_1_1
     have f4_1 := f3_1.kept hK4
     have q4_1_2 := oth0 hO4 q3_1_2
     simp only [putK, fC, fN, kZ, kS, vV, vA, vK, sI, sZ, sS, e4_3]
     have hBt4 := hBt3.trans hB4
     clear hV4 hX4 hA4
     go_upto_region 6 with fail
     refine rg0 (n := 9) (t16 := 48) w.heap.size [.val (.pointer (some ⟨(lc1 1), 0, none⟩)), vT] [(0, 26), (1, 27)] hBt4.size ?st5 ?en5
     case st5 =>
      intro zi zo ho hro a' u lc W hM
      match zi, ho, hro with
      | 0, ho, _ => cases ho; exact wn (kField24_0 rfl (hM.ol 3))
      | 1, ho, _ => cases ho; exact wn (kLoad1 Tryz.underlying4 rfl rfl (hM.d 0 26 rfl) (hM.o0 q4_1_1) rfl rfl)
      | zk + 2, ho, _ => simp at ho
     case en5 =>
      intro u5 lc5 W5 hK5 hB5 hO5 hV5 hX5 hA5
      have q5_1_0 := oth0 hO5 q4_1_0
      have f5_0 := f4_0.kept hK5
      have q5_1_1 := oth0 hO5 q4_1_1
      have f5_1 := f4_1.kept hK5
      have q5_1_2 := oth0 hO5 q4_1_2
      have q5_4_0 := oth0 hO5 q4_0
      have f5_2 := sk4_4.kept hK5
      simp only [putK, fC, fN, kZ, kS, vV, sI, sZ, sS]
      have hBt5 := hBt4.trans hB5
      clear hV5 hX5 hA5
      go_upto_region 7 with fail
      refine rg (n := 9) (t16 := 48) w.heap.size [(lc4 0)] [.val (.agg #[.bool x4_4, .slice y4_4 z4_4 c4_4]), .k (num (-g)), .any] [(0, 28), (1, 29)] [⟨24, none, (lc4 0), pt, 2, [.c #[.bool x4_4, .slice y4_4 z4_4 c4_4]], [(2, 0, 1)]⟩] ?ok6 ?st6 ?al6 ?pu6 ?en6
      case ok6 => exact BxOK.one ⟨(Nat.le_trans hBt3.size g4_0), ⟨_, q5_4_0, rfl, rfl, rfl⟩, by simp, (by decide : (24 : Nat) ≠ 48)⟩ rfl hBt5.size
      case st6 =>
       intro zi zo ho hro a' u lc W hM
       match zi, ho, hro with
       | 0, ho, _ => cases ho; exact wn (kL24 rfl (hM.ol 6) (show W.heap[(lc4 0)]? = some (.cells #[.bool x4_4, .slice y4_4 z4_4 c4_4] 24) from by rw [← (show lc 0 = (lc4 0) from hM.locO 0 _ rfl rfl)]; exact hM.fresh 0 _ rfl (by kernel_rfl) (by kernel_rfl)) rfl)
       | 1, ho, _ => cases ho; exact wn (kCall1 rfl may91 (hM.d 0 28 rfl) (c91b G0.out (f5_2.kept hM.kept)))
       | 2, _, hro => exact nr1 hro (by kernel_rfl)
       | zk + 3, ho, _ => simp at ho
      case al6 =>
       intro zk zb zi zo hk ha ho a' u lc W hM
       match zk, hk with
       | 0, hk => cases hk; cases ha
       | zk + 1, hk => simp at hk
      case pu6 =>
       intro zk zb zs zo hk hs ho a' u lc W zc hM hc hcs
       match zk, hk with
       | 0, hk =>
        cases hk
        simp only [List.mem_cons, List.not_mem_nil, or_false] at hs
        rcases hs with rfl
        · cases ho
          obtain ⟨sb, sp, sl, sc, e⟩ := (show Is (num (-g)) (u 1) W from (hM.kd 1)).form
          exact kPut rfl e ((hM.ol 6).trans (show _ = Value.pointer (some ⟨lc 0, 0, none⟩) from by rw [show lc 0 = (lc4 0) from hM.locO 0 _ rfl rfl]; rfl)) (hM.v 1 29 rfl) hc hcs sz24
       | zk + 1, hk => simp at hk
      case en6 =>
       intro u6 lc6 W6 hK6 hB6 hO6 hV6 hX6 hA6
       have k6_1 := kk (hV6 1 29 rfl) rfl
       obtain ⟨qr, ho, hl⟩ := hX6 0 _ rfl
       have elc : lc6 0 = (lc4 0) := ho rfl
       rw [elc] at qr
       obtain ⟨x6_2, y6_2, z6_2, c6_2, es6_2⟩ := k6_1.form
       have sk6_2 : Is (num (-g)) (.agg #[.bool x6_2, .slice y6_2 z6_2 c6_2]) W6 := by rw [← es6_2]; exact k6_1
       have q6_0 : W6.heap[(lc4 0)]? = some (.cells #[.bool x6_2, .slice y6_2 z6_2 c6_2] 24) := by
        rw [contAll_one rfl (cs := #[.bool x6_2, .slice y6_2 z6_2 c6_2]) (by rw [es6_2]; rfl) rfl] at qr; exact qr
       have q6_1_0 := oth1 hO6 q5_1_0 (by omega)
       have f6_1 := f5_0.kept hK6
       have q6_1_1 := oth1 hO6 q5_1_1 (by omega)
       have f6_2 := f5_1.kept hK6
       have q6_1_2 := oth1 hO6 q5_1_2 (by omega)
       simp only [putK, fC, fN, kZ, kS, vV, vK, sI, sZ, sS]
       have hBt6 := hBt5.trans hB6
       clear hV6 hX6 hA6
       go_upto_region 8 with fail
       refine rg (n := 9) (t16 := 48) w.heap.size [(lc1 2)] [.val (.agg #[.bool ya0, .slice yp0 yl0 yd0]), .val (.agg #[.bool x6_2, .slice y6_2 z6_2 c6_2]), .k (num N), .val (.agg #[.bool true, .slice yp1 yl1 yd1]), .val (.agg #[.bool x6_2, .slice y6_2 z6_2 c6_2]), .k (num D), .k (fr N D), .k (fr N D), .k (tup2 (.k (fr N D)) (vZ)), .k (fr N D), vZ, .any, vZ] [(0, 30), (1, 31), (2, 32), (3, 33), (4, 34), (5, 35), (6, 36), (7, 37), (8, 38), (9, 39), (10, 40), (12, 5)] [⟨26, none, (lc1 2), pt, 4, [.c #[.bool false, .slice none 0 0, .bool false, .slice none 0 0]], [(11, 0, 9)]⟩] ?ok7 ?st7 ?al7 ?pu7 ?en7
       case ok7 => exact BxOK.one ⟨(Nat.le_trans hB0.size g1_2), ⟨_, q6_1_2, rfl, rfl, rfl⟩, by simp, (by decide : (26 : Nat) ≠ 48)⟩ rfl hBt6.size
       case st7 =>
        intro zi zo ho hro a' u lc W hM
        match zi, ho, hro with
        | 0, ho, _ => cases ho; exact wn (kL24 rfl (hM.ol 2) (hM.o1 q6_1_0 (by omega)) rfl)
        | 1, ho, _ => cases ho; exact wn (kL24 rfl (hM.ol 6) (hM.o1 q6_0 (by omega)) rfl)
        | 2, ho, _ => cases ho; exact wn (kCall2 rfl may74 (hM.d 0 30 rfl) (hM.d 1 31 rfl) (c74 G1.out F1.out (f6_1.kept hM.kept) (sk6_2.kept hM.kept)))
        | 3, ho, _ => cases ho; exact wn (kL24 rfl (hM.ol 3) (hM.o1 q6_1_1 (by omega)) rfl)
        | 4, ho, _ => cases ho; exact wn (kL24 rfl (hM.ol 6) (hM.o1 q6_0 (by omega)) rfl)
        | 5, ho, _ => cases ho; exact wn (kCall2 rfl may74 (hM.d 3 33 rfl) (hM.d 4 34 rfl) (c74 G1.out F2.out (f6_2.kept hM.kept) (sk6_2.kept hM.kept)))
        | 6, ho, _ =>
         cases ho
         refine .inl ⟨wanted_none rfl, ?_⟩
         obtain ⟨sbx, spx, slx, scx, ex⟩ := (show Is (num N) _ W from (hM.kd 2)).form
         obtain ⟨sby, spy, sly, scy, ey⟩ := (show Is (num D) _ W from (hM.kd 5)).form
         exact kBuild26 rfl ((hM.v 2 32 rfl).trans ex) ((hM.v 5 35 rfl).trans ey) ⟨_, _, _, _, _, _, _, _, rfl, (by rw [← ex]; exact (hM.kd 2)), (by rw [← ey]; exact (hM.kd 5))⟩
        | 7, ho, _ =>
         cases ho
         refine .inl ⟨wanted_none rfl, ?_⟩
         obtain ⟨sb1, sp1, sl1, sc1, sb2, sp2, sl2, sc2, e, sh1, sh2⟩ := (show Is (fr N D) _ W from (hM.kd 6))
         exact kBuild73 rfl ((hM.v 6 36 rfl).trans e) ⟨_, _, _, _, _, _, _, _, rfl, sh1, sh2⟩
        | 8, ho, _ => cases ho; exact wn (kCall1 rfl may75 (hM.v 7 37 rfl) (c75fit HT.out (hM.kd 7)))
        | 9, ho, _ => cases ho; exact wn (kEx20 rfl (hM.d 8 38 rfl))
        | 10, ho, _ => cases ho; exact wn (kEx21 rfl (hM.d 8 38 rfl))
        | 11, _, hro => exact nr1 hro (by kernel_rfl)
        | 12, ho, _ => cases ho; exact wn (kAssign rfl (hM.d 10 40 rfl))
        | zk + 13, ho, _ => simp at ho
       case al7 =>
        intro zk zb zi zo hk ha ho a' u lc W hM
        match zk, hk with
        | 0, hk => cases hk; cases ha
        | zk + 1, hk => simp at hk
       case pu7 =>
        intro zk zb zs zo hk hs ho a' u lc W zc hM hc hcs
        match zk, hk with
        | 0, hk =>
         cases hk
         simp only [List.mem_cons, List.not_mem_nil, or_false] at hs
         rcases hs with rfl
         · cases ho
           obtain ⟨sb, sp, sl, sc, sb2, sp2, sl2, sc2, e, _⟩ := (show Is (fr N D) (u 9) W from (hM.kd 9))
           exact kPut rfl e ((hM.ol 4).trans (show _ = Value.pointer (some ⟨lc 0, 0, none⟩) from by rw [show lc 0 = (lc1 2) from hM.locO 0 _ rfl rfl]; rfl)) (hM.v 9 39 rfl) hc hcs sz26
        | zk + 1, hk => simp at hk
       case en7 =>
        intro u7 lc7 W7 hK7 hB7 hO7 hV7 hX7 hA7
        have k7_9 := kk (hV7 9 39 rfl) rfl
        obtain ⟨qr, ho, hl⟩ := hX7 0 _ rfl
        have elc : lc7 0 = (lc1 2) := ho rfl
        rw [elc] at qr
        obtain ⟨x7_11, y7_11, z7_11, c7_11, x27_11, y27_11, z27_11, c27_11, es7_11, sa7_11, sb7_11⟩ := id k7_9
        have sk7_11 : Is (fr N D) (.agg #[.bool x7_11, .slice y7_11 z7_11 c7_11, .bool x27_11, .slice y27_11 z27_11 c27_11]) W7 := by rw [← es7_11]; exact k7_9
        have q7_0 : W7.heap[(lc1 2)]? = some (.cells #[.bool x7_11, .slice y7_11 z7_11 c7_11, .bool x27_11, .slice y27_11 z27_11 c27_11] 26) := by
         rw [contAll_one rfl (cs := #[.bool x7_11, .slice y7_11 z7_11 c7_11, .bool x27_11, .slice y27_11 z27_11 c27_11]) (by rw [es7_11]; rfl) rfl] at qr; exact qr
        simp only [putK, fC, fN, kZ, kS, vV, vK, sI, sZ, sS]
        have hBt7 := hBt6.trans hB7
        clear hV7 hX7 hA7
        have cr0 := cell_of q7_0 0 rfl
        have cr1 := cell_of q7_0 1 rfl
        have cr2 := cell_of q7_0 2 rfl
        have cr3 := cell_of q7_0 3 rfl
        go_wp2
        exact bodyPost_ret (v := .tuple #[.agg #[.bool x7_11, .slice y7_11 z7_11 c7_11, .bool x27_11, .slice y27_11 z27_11 c27_11], .int .i64 0]) (by simp [results, Tryz.results46, go_sem, cr0, cr1, cr2, cr3]) rfl ⟨_, rfl, ⟨_, _, rfl, sk7_11, rfl⟩, hBt7⟩
theorem c51 {r : Rat} {q t : Int} {v0 : Value} {w : World} (hr : Fs r) (hf : Floor r.num (r.den : Int) q t) (h0 : Is (frq r) v0 w) : Calls Tryz.prog 51 #[v0] w (Ret (.k (tup2 (.k (num q)) (.val (.int .i64 0)))) w) := by
 obtain ⟨ya0, yp0, yl0, yd0, ye0, yq0, ym0, yr0, rfl, yg0, yk0⟩ := id h0
 replace yg0 : Is (num r.num) (.agg #[.bool ya0, .slice yp0 yl0 yd0]) w := yg0
 replace yk0 : Is (num ((r.den : Nat) : Int)) (.agg #[.bool ye0, .slice yq0 ym0 yr0]) w := yk0
 have hB0 := Below.refl w.heap.size w
 have HR := Lib.hid hr
 have HF := Lib.hid hf
 clear hr hf
 go_enter Tryz.func51, Tryz.ntmps51
 go_upto_region 0 with fail
 refine rg (n := 9) (t16 := 48) w.heap.size [] [.any, .any, vZ] [(0, 1), (1, 2), (2, 3)] [⟨26, some 0, 0, pt, 4, [.c #[.bool ya0, .slice yp0 yl0 yd0, .bool ye0, .slice yq0 ym0 yr0]], []⟩, ⟨24, some 1, 0, pt, 2, [.c #[.bool false, .slice none 0 0]], []⟩] ?ok1 ?st1 ?al1 ?pu1 ?en1
 case ok1 => exact BxOK.fresh rfl hB0.size
 case st1 =>
  intro zi zo ho hro a' u lc W hM
  match zi, ho, hro with
  | 0, _, hro => exact nr1 hro (by kernel_rfl)
  | 1, _, hro => exact nr1 hro (by kernel_rfl)
  | 2, ho, _ => cases ho; exact wn (kAssign rfl rfl)
  | zk + 3, ho, _ => simp at ho
 case al1 =>
  intro zk zb zi zo hk ha ho a' u lc W hM
  match zk, hk with
  | 0, hk => cases hk; cases ha; cases ho; exact ⟨rfl, rfl, rfl, rfl, kBox rfl (hM.ol 0)⟩
  | 1, hk => cases hk; cases ha; cases ho; exact ⟨rfl, rfl, rfl, rfl, kAlloc24 rfl⟩
  | zk + 2, hk => simp at hk
 case pu1 =>
  intro zk zb zs zo hk hs ho a' u lc W zc hM hc hcs
  match zk, hk with
  | 0, hk => cases hk; simp at hs
  | 1, hk => cases hk; simp at hs
  | zk + 2, hk => simp at hk
 case en1 =>
  intro u1 lc1 W1 hK1 hB1 hO1 hV1 hX1 hA1
  obtain ⟨qr, ho, hl⟩ := hX1 0 _ rfl
  have e1_0 : u1 0 = .pointer (some ⟨lc1 0, 0, none⟩) := (hl 0 rfl).1
  have g1_0 := (hl 0 rfl).2
  have f1_0 := h0.kept hK1
  have q1_0 : W1.heap[(lc1 0)]? = some (.cells #[.bool ya0, .slice yp0 yl0 yd0, .bool ye0, .slice yq0 ym0 yr0] 26) := by
   exact qr
  obtain ⟨qr, ho, hl⟩ := hX1 1 _ rfl
  have e1_1 : u1 1 = .pointer (some ⟨lc1 1, 0, none⟩) := (hl 1 rfl).1
  have g1_1 := (hl 1 rfl).2
  have q1_1 : W1.heap[(lc1 1)]? = some (.cells #[.bool false, .slice none 0 0] 24) := by
   exact qr
  have ne1_0_1 := hA1 0 1 _ _ rfl rfl (by decide)
  simp only [putK, fC, fN, kZ, kS, vV, vA, sI, sZ, sS, e1_0, e1_1]
  have hBt1 := hB0.trans hB1
  clear hV1 hX1 hA1
  go_upto_region 1 with fail
  refine rg0 (n := 9) (t16 := 48) w.heap.size [.val (.agg #[.bool ya0, .slice yp0 yl0 yd0, .bool ye0, .slice yq0 ym0 yr0]), vT, vF] [(0, 6), (1, 7), (2, 8)] hBt1.size ?st2 ?en2
  case st2 =>
   intro zi zo ho hro a' u lc W hM
   match zi, ho, hro with
   | 0, ho, _ => cases ho; exact wn (kL26 rfl (hM.ol 1) (hM.o0 q1_0))
   | 1, ho, _ => cases ho; exact wn (kCall1 rfl may44 (hM.d 0 6 rfl) (c44_ok HR.out (f1_0.kept hM.kept)))
   | 2, ho, _ => cases ho; exact wn (kNot rfl (hM.d 1 7 rfl) rfl)
   | zk + 3, ho, _ => simp at ho
  case en2 =>
   intro u2 lc2 W2 hK2 hB2 hO2 hV2 hX2 hA2
   have q2_1_0 := oth0 hO2 q1_0
   have f2_0 := f1_0.kept hK2
   have q2_1_1 := oth0 hO2 q1_1
   simp only [putK, fC, fN, kZ, kS, vV, sI, sZ, sS]
   have hBt2 := hBt1.trans hB2
   clear hV2 hX2 hA2
   go_upto_region 3 with fail
   refine rg (n := 9) (t16 := 48) w.heap.size [] [.val (.agg #[.bool ya0, .slice yp0 yl0 yd0, .bool ye0, .slice yq0 ym0 yr0]), .val (.agg #[.bool ya0, .slice yp0 yl0 yd0, .bool ye0, .slice yq0 ym0 yr0]), .k (tup2 (.k (num q)) (.val (.bool (decide (t = 0))))), .k (tup2 (.k (num q)) (.val (.bool (decide (t = 0))))), .k (num q), .val (.bool (decide (t = 0))), .any, .any, .val (.bool (decide (t = 0)))] [(0, 11), (1, 12), (2, 13), (3, 10), (4, 14), (5, 15), (6, 4), (8, 5)] [⟨24, some 6, 0, pt, 2, [.c #[.bool false, .slice none 0 0]], [(7, 0, 4)]⟩] ?ok3 ?st3 ?al3 ?pu3 ?en3
   case ok3 => exact BxOK.fresh rfl hBt2.size
   case st3 =>
    intro zi zo ho hro a' u lc W hM
    match zi, ho, hro with
    | 0, ho, _ => cases ho; exact wn (kL26 rfl (hM.ol 1) (hM.o0 q2_1_0))
    | 1, ho, _ => cases ho; exact wn (kBuild73 rfl (hM.d 0 11 rfl) rfl)
    | 2, ho, _ => cases ho; exact wn (kCall1 rfl may99 (hM.d 1 12 rfl) (c99 (by have := rat_pos r; omega) HF.out rfl (f2_0.kept hM.kept)))
    | 3, ho, _ => cases ho; exact wn (kMove rfl (hM.d 2 13 rfl))
    | 4, ho, _ => cases ho; exact wn (kEx20 rfl (hM.d 3 10 rfl))
    | 5, ho, _ => cases ho; exact wn (kEx21 rfl (hM.d 3 10 rfl))
    | 6, _, hro => exact nr1 hro (by kernel_rfl)
    | 7, _, hro => exact nr1 hro (by kernel_rfl)
    | 8, ho, _ => cases ho; exact wn (kAssign rfl (hM.d 5 15 rfl))
    | zk + 9, ho, _ => simp at ho
   case al3 =>
    intro zk zb zi zo hk ha ho a' u lc W hM
    match zk, hk with
    | 0, hk => cases hk; cases ha; cases ho; exact ⟨rfl, rfl, rfl, rfl, kAlloc24 rfl⟩
    | zk + 1, hk => simp at hk
   case pu3 =>
    intro zk zb zs zo hk hs ho a' u lc W zc hM hc hcs
    match zk, hk with
    | 0, hk =>
     cases hk
     simp only [List.mem_cons, List.not_mem_nil, or_false] at hs
     rcases hs with rfl
     · cases ho
       obtain ⟨sb, sp, sl, sc, e⟩ := (show Is (num q) (u 4) W from (hM.kd 4)).form
       exact kPut rfl e ((hM.v 6 4 rfl).trans (hM.loc 0 _ 6 rfl rfl (by kernel_rfl))) (hM.v 4 14 rfl) hc hcs sz24
    | zk + 1, hk => simp at hk
   case en3 =>
    intro u3 lc3 W3 hK3 hB3 hO3 hV3 hX3 hA3
    have e3_0 := kv (hV3 0 11 rfl) rfl
    have k3_4 := kk (hV3 4 14 rfl) rfl
    obtain ⟨qr, ho, hl⟩ := hX3 0 _ rfl
    have e3_6 : u3 6 = .pointer (some ⟨lc3 0, 0, none⟩) := (hl 6 rfl).1
    have g3_0 := (hl 6 rfl).2
    obtain ⟨x3_7, y3_7, z3_7, c3_7, es3_7⟩ := k3_4.form
    have sk3_7 : Is (num q) (.agg #[.bool x3_7, .slice y3_7 z3_7 c3_7]) W3 := by rw [← es3_7]; exact k3_4
    have q3_0 : W3.heap[(lc3 0)]? = some (.cells #[.bool x3_7, .slice y3_7 z3_7 c3_7] 24) := by
     rw [contAll_one rfl (cs := #[.bool x3_7, .slice y3_7 z3_7 c3_7]) (by rw [es3_7]; rfl) rfl] at qr; exact qr
    have ne3_0_1_1 := Nat.ne_of_lt (Nat.lt_of_lt_of_le (Array.getElem?_eq_some_iff.1 q2_1_1).1 g3_0)
    have q3_1_1 := oth0 hO3 q2_1_1
    simp only [putK, fC, fN, kZ, kS, vV, vA, vK, sI, sZ, sS, e3_6]
    have hBt3 := hBt2.trans hB3
    clear hV3 hX3 hA3
    go_upto_region 4 with fail
    refine rg (n := 9) (t16 := 48) w.heap.size [(lc1 1)] [.val (.agg #[.bool x3_7, .slice y3_7 z3_7 c3_7]), .any, vZ] [(0, 16), (2, 3)] [⟨24, none, (lc1 1), pt, 2, [.c #[.bool false, .slice none 0 0]], [(1, 0, 0)]⟩] ?ok4 ?st4 ?al4 ?pu4 ?en4
    case ok4 => exact BxOK.one ⟨(Nat.le_trans hB0.size g1_1), ⟨_, q3_1_1, rfl, rfl, rfl⟩, by simp, (by decide : (24 : Nat) ≠ 48)⟩ rfl hBt3.size
    case st4 =>
     intro zi zo ho hro a' u lc W hM
     match zi, ho, hro with
     | 0, ho, _ => cases ho; exact wn (kL24 rfl (hM.ol 4) (hM.o1 q3_0 (by omega)) rfl)
     | 1, _, hro => exact nr1 hro (by kernel_rfl)
     | 2, ho, _ => cases ho; exact wn (kAssign rfl rfl)
     | zk + 3, ho, _ => simp at ho
    case al4 =>
     intro zk zb zi zo hk ha ho a' u lc W hM
     match zk, hk with
     | 0, hk => cases hk; cases ha
     | zk + 1, hk => simp at hk
    case pu4 =>
     intro zk zb zs zo hk hs ho a' u lc W zc hM hc hcs
     match zk, hk with
     | 0, hk =>
      cases hk
      simp only [List.mem_cons, List.not_mem_nil, or_false] at hs
      rcases hs with rfl
      · cases ho
        have e : u 0 = .agg #[.bool x3_7, .slice y3_7 z3_7 c3_7] := hM.kd 0
        exact kPut rfl e ((hM.ol 2).trans (show _ = Value.pointer (some ⟨lc 0, 0, none⟩) from by rw [show lc 0 = (lc1 1) from hM.locO 0 _ rfl rfl]; rfl)) (hM.v 0 16 rfl) hc hcs sz24
     | zk + 1, hk => simp at hk
    case en4 =>
     intro u4 lc4 W4 hK4 hB4 hO4 hV4 hX4 hA4
     have e4_0 := kv (hV4 0 16 rfl) rfl
     obtain ⟨qr, ho, hl⟩ := hX4 0 _ rfl
     have elc : lc4 0 = (lc1 1) := ho rfl
     rw [elc] at qr
     have f4_0 := sk3_7.kept hK4
     have q4_0 : W4.heap[(lc1 1)]? = some (.cells #[.bool x3_7, .slice y3_7 z3_7 c3_7] 24) := by
      rw [contAll_one rfl (cs := #[.bool x3_7, .slice y3_7 z3_7 c3_7]) (by rw [e4_0]; rfl) rfl] at qr; exact qr
     simp only [putK, fC, fN, kZ, kS, vV, sI, sZ, sS]
     have hBt4 := hBt3.trans hB4
     clear hV4 hX4 hA4
     have cr0 := cell_of q4_0 0 rfl
     have cr1 := cell_of q4_0 1 rfl
     go_wp2
     exact bodyPost_ret (v := .tuple #[.agg #[.bool x3_7, .slice y3_7 z3_7 c3_7], .int .i64 0]) (by simp [results, Tryz.results51, go_sem, cr0, cr1]) rfl ⟨_, rfl, ⟨_, _, rfl, f4_0, rfl⟩, hBt4⟩
theorem c52b {r : Rat} {q t z : Int} {v0 : Value} {w : World} (hr : Fs r) (hf : Floor r.num (r.den : Int) q t) (ht : decide (t = 0) = false) (hz : q + 1 = z) (cz : z.natAbs < Cap) (h0 : Is (frq r) v0 w) : Calls Tryz.prog 52 #[v0] w (Ret (.k (tup2 (.k (num z)) (.val (.int .i64 0)))) w) := by
 obtain ⟨ya0, yp0, yl0, yd0, ye0, yq0, ym0, yr0, rfl, yg0, yk0⟩ := id h0
 replace yg0 : Is (num r.num) (.agg #[.bool ya0, .slice yp0 yl0 yd0]) w := yg0
 replace yk0 : Is (num ((r.den : Nat) : Int)) (.agg #[.bool ye0, .slice yq0 ym0 yr0]) w := yk0
 have hB0 := Below.refl w.heap.size w
 have HR := Lib.hid hr
 have HF := Lib.hid hf
 have HT := Lib.hid ht
 have HZ := Lib.hid hz
 have CZ := Lib.hid cz
 clear hr hf ht hz cz
 go_enter Tryz.func52, Tryz.ntmps52
 go_upto_region 0 with fail
 refine rg (n := 9) (t16 := 48) w.heap.size [] [.any, .any, vZ] [(0, 1), (1, 2), (2, 3)] [⟨26, some 0, 0, pt, 4, [.c #[.bool ya0, .slice yp0 yl0 yd0, .bool ye0, .slice yq0 ym0 yr0]], []⟩, ⟨24, some 1, 0, pt, 2, [.c #[.bool false, .slice none 0 0]], []⟩] ?ok1 ?st1 ?al1 ?pu1 ?en1
 case ok1 => exact BxOK.fresh rfl hB0.size
 case st1 =>
  intro zi zo ho hro a' u lc W hM
  match zi, ho, hro with
  | 0, _, hro => exact nr1 hro (by kernel_rfl)
  | 1, _, hro => exact nr1 hro (by kernel_rfl)
  | 2, ho, _ => cases ho; exact wn (kAssign rfl rfl)
  | zk + 3, ho, _ => simp at ho
 case al1 =>
  intro zk zb zi zo hk ha ho a' u lc W hM
  match zk, hk with
  | 0, hk => cases hk; cases ha; cases ho; exact ⟨rfl, rfl, rfl, rfl, kBox rfl (hM.ol 0)⟩
  | 1, hk => cases hk; cases ha; cases ho; exact ⟨rfl, rfl, rfl, rfl, kAlloc24 rfl⟩
  | zk + 2, hk => simp at hk
 case pu1 =>
  intro zk zb zs zo hk hs ho a' u lc W zc hM hc hcs
  match zk, hk with
  | 0, hk => cases hk; simp at hs
  | 1, hk => cases hk; simp at hs
  | zk + 2, hk => simp at hk
 case en1 =>
  intro u1 lc1 W1 hK1 hB1 hO1 hV1 hX1 hA1
  obtain ⟨qr, ho, hl⟩ := hX1 0 _ rfl
  have e1_0 : u1 0 = .pointer (some ⟨lc1 0, 0, none⟩) := (hl 0 rfl).1
  have g1_0 := (hl 0 rfl).2
  have f1_0 := h0.kept hK1
  have q1_0 : W1.heap[(lc1 0)]? = some (.cells #[.bool ya0, .slice yp0 yl0 yd0, .bool ye0, .slice yq0 ym0 yr0] 26) := by
   exact qr
  obtain ⟨qr, ho, hl⟩ := hX1 1 _ rfl
  have e1_1 : u1 1 = .pointer (some ⟨lc1 1, 0, none⟩) := (hl 1 rfl).1
  have g1_1 := (hl 1 rfl).2
  have q1_1 : W1.heap[(lc1 1)]? = some (.cells #[.bool false, .slice none 0 0] 24) := by
   exact qr
  have ne1_0_1 := hA1 0 1 _ _ rfl rfl (by decide)
  simp only [putK, fC, fN, kZ, kS, vV, vA, sI, sZ, sS, e1_0, e1_1]
  have hBt1 := hB0.trans hB1
  clear hV1 hX1 hA1
  go_upto_region 1 with fail
  refine rg0 (n := 9) (t16 := 48) w.heap.size [.val (.agg #[.bool ya0, .slice yp0 yl0 yd0, .bool ye0, .slice yq0 ym0 yr0]), vT, vF] [(0, 6), (1, 7), (2, 8)] hBt1.size ?st2 ?en2
  case st2 =>
   intro zi zo ho hro a' u lc W hM
   match zi, ho, hro with
   | 0, ho, _ => cases ho; exact wn (kL26 rfl (hM.ol 1) (hM.o0 q1_0))
   | 1, ho, _ => cases ho; exact wn (kCall1 rfl may44 (hM.d 0 6 rfl) (c44_ok HR.out (f1_0.kept hM.kept)))
   | 2, ho, _ => cases ho; exact wn (kNot rfl (hM.d 1 7 rfl) rfl)
   | zk + 3, ho, _ => simp at ho
  case en2 =>
   intro u2 lc2 W2 hK2 hB2 hO2 hV2 hX2 hA2
   have q2_1_0 := oth0 hO2 q1_0
   have f2_0 := f1_0.kept hK2
   have q2_1_1 := oth0 hO2 q1_1
   simp only [putK, fC, fN, kZ, kS, vV, sI, sZ, sS]
   have hBt2 := hBt1.trans hB2
   clear hV2 hX2 hA2
   go_upto_region 3 with fail
   refine rg (n := 9) (t16 := 48) w.heap.size [] [.val (.agg #[.bool ya0, .slice yp0 yl0 yd0, .bool ye0, .slice yq0 ym0 yr0]), .val (.agg #[.bool ya0, .slice yp0 yl0 yd0, .bool ye0, .slice yq0 ym0 yr0]), .k (tup2 (.k (num q)) (vF)), .k (tup2 (.k (num q)) (vF)), .k (num q), vF, .any, .any, vF] [(0, 11), (1, 12), (2, 13), (3, 10), (4, 14), (5, 15), (6, 4), (8, 5)] [⟨24, some 6, 0, pt, 2, [.c #[.bool false, .slice none 0 0]], [(7, 0, 4)]⟩] ?ok3 ?st3 ?al3 ?pu3 ?en3
   case ok3 => exact BxOK.fresh rfl hBt2.size
   case st3 =>
    intro zi zo ho hro a' u lc W hM
    match zi, ho, hro with
    | 0, ho, _ => cases ho; exact wn (kL26 rfl (hM.ol 1) (hM.o0 q2_1_0))
    | 1, ho, _ => cases ho; exact wn (kBuild73 rfl (hM.d 0 11 rfl) rfl)
    | 2, ho, _ => cases ho; exact wn (kCall1 rfl may99 (hM.d 1 12 rfl) (c99 (by have := rat_pos r; omega) HF.out HT.out (f2_0.kept hM.kept)))
    | 3, ho, _ => cases ho; exact wn (kMove rfl (hM.d 2 13 rfl))
    | 4, ho, _ => cases ho; exact wn (kEx20 rfl (hM.d 3 10 rfl))
    | 5, ho, _ => cases ho; exact wn (kEx21 rfl (hM.d 3 10 rfl))
    | 6, _, hro => exact nr1 hro (by kernel_rfl)
    | 7, _, hro => exact nr1 hro (by kernel_rfl)
    | 8, ho, _ => cases ho; exact wn (kAssign rfl (hM.d 5 15 rfl))
    | zk + 9, ho, _ => simp at ho
   case al3 =>
    intro zk zb zi zo hk ha ho a' u lc W hM
    match zk, hk with
    | 0, hk => cases hk; cases ha; cases ho; exact ⟨rfl, rfl, rfl, rfl, kAlloc24 rfl⟩
    | zk + 1, hk => simp at hk
   case pu3 =>
    intro zk zb zs zo hk hs ho a' u lc W zc hM hc hcs
    match zk, hk with
    | 0, hk =>
     cases hk
     simp only [List.mem_cons, List.not_mem_nil, or_false] at hs
     rcases hs with rfl
     · cases ho
       obtain ⟨sb, sp, sl, sc, e⟩ := (show Is (num q) (u 4) W from (hM.kd 4)).form
       exact kPut rfl e ((hM.v 6 4 rfl).trans (hM.loc 0 _ 6 rfl rfl (by kernel_rfl))) (hM.v 4 14 rfl) hc hcs sz24
    | zk + 1, hk => simp at hk
   case en3 =>
    intro u3 lc3 W3 hK3 hB3 hO3 hV3 hX3 hA3
    have e3_0 := kv (hV3 0 11 rfl) rfl
    have k3_4 := kk (hV3 4 14 rfl) rfl
    obtain ⟨qr, ho, hl⟩ := hX3 0 _ rfl
    have e3_6 : u3 6 = .pointer (some ⟨lc3 0, 0, none⟩) := (hl 6 rfl).1
    have g3_0 := (hl 6 rfl).2
    obtain ⟨x3_7, y3_7, z3_7, c3_7, es3_7⟩ := k3_4.form
    have sk3_7 : Is (num q) (.agg #[.bool x3_7, .slice y3_7 z3_7 c3_7]) W3 := by rw [← es3_7]; exact k3_4
    have q3_0 : W3.heap[(lc3 0)]? = some (.cells #[.bool x3_7, .slice y3_7 z3_7 c3_7] 24) := by
     rw [contAll_one rfl (cs := #[.bool x3_7, .slice y3_7 z3_7 c3_7]) (by rw [es3_7]; rfl) rfl] at qr; exact qr
    have ne3_0_1_0 := Nat.ne_of_lt (Nat.lt_of_lt_of_le (Array.getElem?_eq_some_iff.1 q2_1_0).1 g3_0)
    have ne3_0_1_1 := Nat.ne_of_lt (Nat.lt_of_lt_of_le (Array.getElem?_eq_some_iff.1 q2_1_1).1 g3_0)
    have q3_1_1 := oth0 hO3 q2_1_1
    simp only [putK, fC, fN, kZ, kS, vV, vA, vK, sI, sZ, sS, e3_6]
    have hBt3 := hBt2.trans hB3
    clear hV3 hX3 hA3
    go_upto_region 4 with fail
    refine rg0 (n := 9) (t16 := 48) w.heap.size [vF, vT] [(0, 16), (1, 17)] hBt3.size ?st4 ?en4
    case st4 =>
     intro zi zo ho hro a' u lc W hM
     match zi, ho, hro with
     | 0, ho, _ => cases ho; exact wn (kMove rfl (hM.ol 5))
     | 1, ho, _ => cases ho; exact wn (kNot rfl (hM.d 0 16 rfl) rfl)
     | zk + 2, ho, _ => simp at ho
    case en4 =>
     intro u4 lc4 W4 hK4 hB4 hO4 hV4 hX4 hA4
     have q4_1_1 := oth0 hO4 q3_1_1
     have q4_3_0 := oth0 hO4 q3_0
     have f4_3 := sk3_7.kept hK4
     simp only [putK, fC, fN, kZ, kS, vV, sI, sZ, sS]
     have hBt4 := hBt3.trans hB4
     clear hV4 hX4 hA4
     go_upto_region 5 with fail
     refine rg (n := 9) (t16 := 48) w.heap.size [(lc3 0)] [.val (.agg #[.bool x3_7, .slice y3_7 z3_7 c3_7]), .k (num 1), .k (num z), .any] [(0, 18), (1, 19), (2, 20)] [⟨24, none, (lc3 0), pt, 2, [.c #[.bool x3_7, .slice y3_7 z3_7 c3_7]], [(3, 0, 2)]⟩] ?ok5 ?st5 ?al5 ?pu5 ?en5
     case ok5 => exact BxOK.one ⟨(Nat.le_trans hBt2.size g3_0), ⟨_, q4_3_0, rfl, rfl, rfl⟩, by simp, (by decide : (24 : Nat) ≠ 48)⟩ rfl hBt4.size
     case st5 =>
      intro zi zo ho hro a' u lc W hM
      match zi, ho, hro with
      | 0, ho, _ => cases ho; exact wn (kL24 rfl (hM.ol 4) (show W.heap[(lc3 0)]? = some (.cells #[.bool x3_7, .slice y3_7 z3_7 c3_7] 24) from by rw [← (show lc 0 = (lc3 0) from hM.locO 0 _ rfl rfl)]; exact hM.fresh 0 _ rfl (by kernel_rfl) (by kernel_rfl)) rfl)
      | 1, ho, _ => cases ho; exact wn (kCall1 rfl may72 rfl (c72 (by decide) (by decide)))
      | 2, ho, _ => cases ho; exact wn (kCall2 rfl may70 (hM.d 0 18 rfl) (hM.v 1 19 rfl) (c70 HZ.out CZ.out (f4_3.kept hM.kept) (hM.kd 1)))
      | 3, _, hro => exact nr1 hro (by kernel_rfl)
      | zk + 4, ho, _ => simp at ho
     case al5 =>
      intro zk zb zi zo hk ha ho a' u lc W hM
      match zk, hk with
      | 0, hk => cases hk; cases ha
      | zk + 1, hk => simp at hk
     case pu5 =>
      intro zk zb zs zo hk hs ho a' u lc W zc hM hc hcs
      match zk, hk with
      | 0, hk =>
       cases hk
       simp only [List.mem_cons, List.not_mem_nil, or_false] at hs
       rcases hs with rfl
       · cases ho
         obtain ⟨sb, sp, sl, sc, e⟩ := (show Is (num z) (u 2) W from (hM.kd 2)).form
         exact kPut rfl e ((hM.ol 4).trans (show _ = Value.pointer (some ⟨lc 0, 0, none⟩) from by rw [show lc 0 = (lc3 0) from hM.locO 0 _ rfl rfl]; rfl)) (hM.v 2 20 rfl) hc hcs sz24
      | zk + 1, hk => simp at hk
     case en5 =>
      intro u5 lc5 W5 hK5 hB5 hO5 hV5 hX5 hA5
      have k5_2 := kk (hV5 2 20 rfl) rfl
      obtain ⟨qr, ho, hl⟩ := hX5 0 _ rfl
      have elc : lc5 0 = (lc3 0) := ho rfl
      rw [elc] at qr
      obtain ⟨x5_3, y5_3, z5_3, c5_3, es5_3⟩ := k5_2.form
      have sk5_3 : Is (num z) (.agg #[.bool x5_3, .slice y5_3 z5_3 c5_3]) W5 := by rw [← es5_3]; exact k5_2
      have q5_0 : W5.heap[(lc3 0)]? = some (.cells #[.bool x5_3, .slice y5_3 z5_3 c5_3] 24) := by
       rw [contAll_one rfl (cs := #[.bool x5_3, .slice y5_3 z5_3 c5_3]) (by rw [es5_3]; rfl) rfl] at qr; exact qr
      have q5_1_1 := oth1 hO5 q4_1_1 (by omega)
      simp only [putK, fC, fN, kZ, kS, vV, vK, sI, sZ, sS]
      have hBt5 := hBt4.trans hB5
      clear hV5 hX5 hA5
      go_upto_region 6 with fail
      refine rg (n := 9) (t16 := 48) w.heap.size [(lc1 1)] [.val (.agg #[.bool x5_3, .slice y5_3 z5_3 c5_3]), .any, vZ] [(0, 21), (2, 3)] [⟨24, none, (lc1 1), pt, 2, [.c #[.bool false, .slice none 0 0]], [(1, 0, 0)]⟩] ?ok6 ?st6 ?al6 ?pu6 ?en6
      case ok6 => exact BxOK.one ⟨(Nat.le_trans hB0.size g1_1), ⟨_, q5_1_1, rfl, rfl, rfl⟩, by simp, (by decide : (24 : Nat) ≠ 48)⟩ rfl hBt5.size
      case st6 =>
       intro zi zo ho hro a' u lc W hM
       match zi, ho, hro with
       | 0, ho, _ => cases ho; exact wn (kL24 rfl (hM.ol 4) (hM.o1 q5_0 (by omega)) rfl)
       | 1, _, hro => exact nr1 hro (by kernel_rfl)
       | 2, ho, _ => cases ho; exact wn (kAssign rfl rfl)
       | zk + 3, ho, _ => simp at ho
      case al6 =>
       intro zk zb zi zo hk ha ho a' u lc W hM
       match zk, hk with
       | 0, hk => cases hk; cases ha
       | zk + 1, hk => simp at hk
      case pu6 =>
       intro zk zb zs zo hk hs ho a' u lc W zc hM hc hcs
       match zk, hk with
       | 0, hk =>
        cases hk
        simp only [List.mem_cons, List.not_mem_nil, or_false] at hs
        rcases hs with rfl
        · cases ho
          have e : u 0 = .agg #[.bool x5_3, .slice y5_3 z5_3 c5_3] := hM.kd 0
          exact kPut rfl e ((hM.ol 2).trans (show _ = Value.pointer (some ⟨lc 0, 0, none⟩) from by rw [show lc 0 = (lc1 1) from hM.locO 0 _ rfl rfl]; rfl)) (hM.v 0 21 rfl) hc hcs sz24
       | zk + 1, hk => simp at hk
      case en6 =>
       intro u6 lc6 W6 hK6 hB6 hO6 hV6 hX6 hA6
       have e6_0 := kv (hV6 0 21 rfl) rfl
       obtain ⟨qr, ho, hl⟩ := hX6 0 _ rfl
       have elc : lc6 0 = (lc1 1) := ho rfl
       rw [elc] at qr
       have f6_0 := sk5_3.kept hK6
       have q6_0 : W6.heap[(lc1 1)]? = some (.cells #[.bool x5_3, .slice y5_3 z5_3 c5_3] 24) := by
        rw [contAll_one rfl (cs := #[.bool x5_3, .slice y5_3 z5_3 c5_3]) (by rw [e6_0]; rfl) rfl] at qr; exact qr
       simp only [putK, fC, fN, kZ, kS, vV, sI, sZ, sS]
       have hBt6 := hBt5.trans hB6
       clear hV6 hX6 hA6
       have cr0 := cell_of q6_0 0 rfl
       have cr1 := cell_of q6_0 1 rfl
       go_wp2
       exact bodyPost_ret (v := .tuple #[.agg #[.bool x5_3, .slice y5_3 z5_3 c5_3], .int .i64 0]) (by simp [results, Tryz.results52, go_sem, cr0, cr1]) rfl ⟨_, rfl, ⟨_, _, rfl, f6_0, rfl⟩, hBt6⟩
theorem c174 {n d : Int} {v0 : Value} {w : World} (hd0 : 1 ≤ d) (hd1 : d ≤ 65535) (hn : n < Cap) (h0 : Is (rowk n) v0 w) : Calls Tryz.prog 174 #[v0, .int .i64 d] w (Ret (.k (tup2 (.k (rowk (n / d))) (.k (rowk (n % d))))) w) := by
 obtain ⟨zs, hL, hR⟩ := h0
 obtain ⟨p, l, c, rfl⟩ := hL.form
 have hl := hL.cells.1
 have h2 := hR.cap.2 hn
 refine (refshort_rep p l c zs n d w hR hd0 hd1 (by omega) hL).mono ?_
 rintro e w' ⟨v1, v2, z1, z2, rfl, hO1, hR1, hO2, hR2, hb⟩
 exact ⟨_, rfl, ⟨_, _, rfl, ⟨z1, hO1.lims, hR1⟩, ⟨z2, hO2.lims, hR2⟩⟩, hb⟩
theorem c139s {n d : Int} {v0 v1 : Value} {w : World} (hd0 : 1 ≤ d) (hd1 : d ≤ 65535) (hn : n < Cap) (h0 : Is (rowk n) v0 w) (h1 : Is (rowk d) v1 w) : Calls Tryz.prog 139 #[v0, v1] w (Ret (.k (tup2 (.k (rowk (n / d))) (.k (rowk (n % d))))) w) := by
 obtain ⟨zs, hL, hR⟩ := h1
 obtain ⟨p, l, c, rfl⟩ := hL.form
 obtain ⟨p0, l0, c0, e0⟩ : ∃ p l c, v0 = .slice p l c := by obtain ⟨z, h, _⟩ := h0; exact h.form
 subst e0
 have hl := hL.cells.1
 have hlen : zs.length = 1 := by
  have a := (hR.len_le_iff 1).2 (by simpa using (show d < 65536 by omega))
  have b := hR.pos
  omega
 obtain ⟨y, rfl⟩ : ∃ y, zs = [y] := by
  match zs, hlen with
  | [y], _ => exact ⟨y, rfl⟩
 obtain rfl : l = 1 := hl
 have hy : y = d := by have := hR.eq; simp [val] at this; exact this
 subst hy
 obtain ⟨b, off, rfl, hb, _, hc⟩ := hL.cells.2 (by decide)
 have hc0 : w.cell? ⟨b, off, none⟩ = some (.int .u16 y) := hc 0 (by decide)
 have hcall := c174 hd0 hd1 hn h0
 clear hc hL hR hlen h0
 go_enter Tryz.func139, Tryz.ntmps139
 go_wp2_with (go_at_call 174; refine hcall.mono ?_; rintro e w1 ⟨_, rfl, ⟨x1, x2, rfl, hx1, hx2⟩, hb1⟩)
 exact bodyPost_ret (v := .tuple #[x1, x2]) (by simp [results, Tryz.results139, go_sem]) rfl ⟨_, rfl, ⟨_, _, rfl, hx1, hx2⟩, hb1⟩
theorem c112 {a b : Int} {v0 v1 : Value} {w : World} (ha : a ≤ 65535) (hb : b ≤ 65535) (h0 : Is (rowk a) v0 w) (h1 : Is (rowk b) v1 w) : Calls Tryz.prog 112 #[v0, v1] w (Ret (.k (rowk ((Int.gcd a b : Nat) : Int))) w) := by
 obtain ⟨A, hLa, hRa⟩ := h0
 obtain ⟨B, hLb, hRb⟩ := h1
 obtain ⟨px, lx, cx, rfl⟩ := hLa.form
 obtain ⟨py, ly, cy, rfl⟩ := hLb.form
 have hcap : (65535 : Int) < Cap := by
  have := capF_sq
  have h2 : (65536 : Int) ^ 1 ≤ 65536 ^ 1024 := pow_le_pow' (by decide)
  rw [Cap.eq]
  omega
 have HCAP := Lib.hid hcap
 clear hcap
 go_enter Tryz.func112, Tryz.ntmps112
 go_wp2
 go_loopw [0, 1] (fun xv yv wr => ∃ (px : Option Addr) (lx cx : Nat) (py : Option Addr) (ly cy : Nat) (X Y : List Int) (n m : Int), xv = .slice px lx cx ∧ yv = .slice py ly cy ∧ Rep X n ∧ Rep Y m ∧ Int.gcd n m = Int.gcd a b ∧ n ≤ 65535 ∧ m ≤ 65535 ∧
  Lims wr.heap.size wr (.slice px lx cx) X ∧ Lims wr.heap.size wr (.slice py ly cy) Y ∧ Below w.heap.size w wr) (fun _ yv wr => readN wr yv)
 case atStart => exact ⟨px, lx, cx, py, ly, cy, A, B, _, _, rfl, rfl, hRa, hRb, rfl, ha, hb, hLa, hLb, Below.refl _ _⟩
 case round =>
  clear hLa hLb hRa hRb ha hb
  obtain ⟨px, lx, cx, py, ly, cy, X, Y, n, m, rfl, rfl, hRx, hRy, hg, hnc, hmc, hLx, hLy, hBw⟩ := hrel
  have hpos := hRy.pos
  have hLY := hLy.cells.1
  have HG := Lib.hid hg
  clear hg
  by_cases hm : 0 < m
  · have hy0 : 0 < ly := by omega
    have HLY := Lib.hid hLY
    have hcall := c139s (n := n) (d := m) (v0 := .slice px lx cx) (v1 := .slice py ly cy) (w := wr) (by omega) hmc (by have := HCAP.out; omega) ⟨X, hLx, hRx⟩ ⟨Y, hLy, hRy⟩
    clear hLY hpos
    go_wp2_with (go_at_call 139; refine hcall.mono ?_; rintro e w7 ⟨_, rfl, ⟨vq, vr, rfl, ⟨zq, hoq, hrq⟩, ⟨zr, hor, hrr⟩⟩, hb7⟩; obtain ⟨pq, lq, cq, rfl⟩ := hoq.form; obtain ⟨pr, lr, cr, rfl⟩ := hor.form)
    go_roundw
    case rel => exact ⟨py, ly, cy, pr, lr, cr, Y, zr, m, n % m, rfl, rfl, hRy, hrr, by rw [← HG.out, Int.gcd_comm n m, gcd_mod], hmc, by have := Int.emod_lt_of_pos n hm; omega, (hLy.below hb7).mono hb7.size, hor, hBw.trans (hb7.mono hBw.size)⟩
    case measure =>
     rw [readN_eq hor, readN_eq hLy, hrr.eq, hRy.eq]
     have := Int.emod_lt_of_pos n hm
     omega
  · have hm0 : m = 0 := by have := hRy.nonneg; omega
    subst hm0
    have hly0 : ly = 0 := by omega
    subst hly0
    have hgn : n = ((Int.gcd a b : Nat) : Int) := by have := HG.out; rw [Int.gcd_zero_right] at this; have := hRx.nonneg; omega
    have HN := Lib.hid hgn
    clear hgn hLY hpos
    go_wp2
    go_ret
    exact ⟨_, rfl, ⟨X, hLx, by rw [← HN.out]; exact hRx⟩, hBw⟩
theorem c82 {n : Int} {t : Bool} {v0 : Value} {w : World} (_hn : n < Cap) (ht : decide (n = 1) = t) (h0 : Is (rowk n) v0 w) : Calls Tryz.prog 82 #[v0] w (Ret (.val (.bool t)) w) := by
 obtain ⟨zs, hL, hR⟩ := h0
 obtain ⟨p, l, c, rfl⟩ := hL.form
 have hl := hL.cells.1
 have HT := Lib.hid ht
 clear ht _hn
 by_cases h1 : l = 1
 · subst h1
   obtain ⟨y, rfl⟩ : ∃ y, zs = [y] := by
    match zs, hl with
    | [y], _ => exact ⟨y, rfl⟩
   have hy : y = n := by have := hR.eq; simp [val] at this; exact this
   subst hy
   obtain ⟨b, off, rfl, hb, _, hc⟩ := hL.cells.2 (by decide)
   have hc1 : w.cell? ⟨b, off, none⟩ = some (.int .u16 y) := hc 0 (by decide)
   clear hL hR hc hl
   by_cases hy1 : y = 1
   · have hf : t = true := by rw [← HT.out]; exact decide_eq_true hy1
     subst hf
     subst hy1
     clear HT
     go_enter Tryz.func82, Tryz.ntmps82
     go_wp2
     go_ret
     exact ⟨_, rfl, rfl, Below.refl _ _⟩
   · have hf : t = false := by rw [← HT.out]; exact decide_eq_false hy1
     subst hf
     clear HT
     have hq : (y == 1) = false := beq_eq_false_iff_ne.2 hy1
     go_enter Tryz.func82, Tryz.ntmps82
     go_wp2
     go_ret
     exact ⟨_, rfl, rfl, Below.refl _ _⟩
 · have hf : t = false := by
    rw [← HT.out]
    refine decide_eq_false (fun e => h1 ?_)
    subst e
    have h2 : zs.length ≤ 1 := (hR.len_le_iff 1).2 (by decide)
    have h3 := hR.pos
    omega
   subst hf
   have hq : (((l : Nat) : Int) == 1) = false := beq_eq_false_iff_ne.2 (by omega)
   clear HT hl hR hL
   go_enter Tryz.func82, Tryz.ntmps82
   go_wp2
   go_ret
   exact ⟨_, rfl, rfl, Below.refl _ _⟩
end Go.Proofs.YtihdbjilolmfiaaGreatDoor
namespace Go.Proofs.YtihdbjilolmfiaaGreatDoor
open Go.RowKit Go.WM Go.WR
attribute [local go_sem] Oper.semAt_some
variable {n : Nat} {o : Oper} {a : Act} {w : World} in
theorem kNeq4 {x y : Operand} {p q t : Bool} (ho : o.op = .binOp .neq 4 x y 4) (hx : a.eval x = .bool p) (hy : a.eval y = .bool q) (ht : (p != q) = t) : Op1 n Tryz.prog o a w (fun v W' => KW (t16 := 48) (.val (.bool t)) v W' ∧ Below w.heap.size w W') := by
 refine Op1.of_run (v := .bool (p != q)) ?_ ⟨congrArg Value.bool ht, Below.refl _ _⟩
 unfold execOp
 rw [ho]
 simp only [hx, hy]
 cases p <;> cases q <;> simp [go_sem]
theorem row_of {x : Int} {b : Bool} {p : Option Addr} {l c : Nat} {W : World} (h : Is (num x) (.agg #[.bool b, .slice p l c]) W) : Is (rowk (x.natAbs : Int)) (.slice p l c) W := by
 obtain ⟨sv, zs, e, hL, hR, hC⟩ := h
 cases e
 exact ⟨zs, hL, hR⟩
theorem num_cap {x : Int} {v : Value} {W : World} (h : Is (num x) v W) : (x.natAbs : Int) < Cap := by
 obtain ⟨sv, zs, e, hL, hR, hC⟩ := h
 exact hC
theorem c94 {neg : Bool} {m z : Int} {v1 : Value} {w : World} (hz : sgn neg m = z) (hc : m < Cap) (h1 : Is (rowk m) v1 w) : Calls Tryz.prog 94 #[.bool neg, v1] w (Ret (.k (num z)) w) := by
 obtain ⟨zs, hL, hR⟩ := h1
 obtain ⟨p, l, c, rfl⟩ := hL.form
 have hl := hL.cells.1
 subst hl
 refine (Make_any neg p zs.length c w).mono ?_
 rintro e w' ⟨rfl, rfl⟩
 have hb : Below w.heap.size w (w.alloc (.cells #[.bool (neg && decide (0 < zs.length)), .slice p zs.length c] 24)) := (Below.refl _ _).alloc (Nat.le_refl _) _
 refine ⟨_, rfl, ?_, hb⟩
 refine ⟨_, zs, ?_, (hL.below hb).mono hb.size, ?_, ?_⟩
 · rw [← hz, sgn_neg neg hR]
 · rw [← hz, sgn_abs neg hR]; exact hR
 · rw [← hz, sgn_abs neg hR]; exact hc
theorem c112g {a b g : Int} {v0 v1 : Value} {w : World} (ha : a ≤ 65535) (hb : b ≤ 65535) (hg : ((Int.gcd a b : Nat) : Int) = g) (h0 : Is (rowk a) v0 w) (h1 : Is (rowk b) v1 w) : Calls Tryz.prog 112 #[v0, v1] w (Ret (.k (rowk g)) w) := by
 subst hg
 exact c112 ha hb h0 h1
theorem c48 {k : Int} {w : World} (h0 : -9223372036854775808 ≤ k) (h1 : k < 9223372036854775808) : Calls Tryz.prog 48 #[.int .i64 k] w (Ret (.k (num k)) w) := by
 refine (refFromInt_any k w h0 h1).mono ?_
 rintro e w' ⟨v, rfl, hO, hb⟩
 exact ⟨_, rfl, wo_is hO, hb⟩
theorem c63 {x y : Int} {t : Bool} {v0 v1 : Value} {w : World} (ht : decide (x = y) = t) (h0 : Is (num x) v0 w) (h1 : Is (num y) v1 w) : Calls Tryz.prog 63 #[v0, v1] w (Ret (.val (.bool t)) w) := by
 obtain ⟨A, ha, hRa, _, hla, _⟩ := Wn.raw h0
 obtain ⟨B, hb, hRb, _, hlb, _⟩ := Wn.raw h1
 refine (refSame_any v0 v1 _ _ A B w (by omega) (by omega) ha hb).mono ?_
 rintro e w' ⟨rfl, hb⟩
 exact ⟨_, rfl, by rw [same_num hRa hRb, ht]; rfl, hb⟩
theorem c79a {x y g N D : Int} {sg : Bool} {v0 v1 : Value} {w : World} (hx : ((x.natAbs : Nat) : Int) ≤ 65535) (hy : ((y.natAbs : Nat) : Int) ≤ 65535) (hsg : (decide (x < 0) != decide (y < 0)) = sg) (hg : ((Int.gcd ((x.natAbs : Nat) : Int) ((y.natAbs : Nat) : Int) : Nat) : Int) = g) (ht : decide (g = 1) = true) (hN : sgn sg ((x.natAbs : Nat) : Int) = N) (hD : sgn false ((y.natAbs : Nat) : Int) = D) (hgc : g < Cap) (h0 : Is (num x) v0 w) (h1 : Is (num y) v1 w) : Calls Tryz.prog 79 #[v0, v1] w (Ret (.k (fr N D)) w) := by
 have HGC := Lib.hid hgc
 clear hgc
 obtain ⟨ya0, yp0, yl0, yd0, rfl⟩ := h0.form
 obtain ⟨ya1, yp1, yl1, yd1, rfl⟩ := h1.form
 have hr0 := row_of (W := w) h0
 have hr1 := row_of (W := w) h1
 have hc0 := num_cap h0
 have hc1 := num_cap h1
 have hs : (ya0 != ya1) = sg := by rw [num_sign (W := w) h0, num_sign (W := w) h1]; exact hsg
 have HX := Lib.hid hx
 have HY := Lib.hid hy
 have HG := Lib.hid hg
 have HT := Lib.hid ht
 have HN := Lib.hid hN
 have HD := Lib.hid hD
 have HS := Lib.hid hs
 have HC0 := Lib.hid hc0
 have HC1 := Lib.hid hc1
 clear hx hy hg ht hN hD hs hc0 hc1 hsg
 have hB0 := Below.refl w.heap.size w
 go_enter Tryz.func79, Tryz.ntmps79
 go_upto_region 0 with fail
 refine rg (n := 9) (t16 := 48) w.heap.size [] [.any, .any, .any] [(0, 2), (1, 3), (2, 4)] [⟨24, some 0, 0, pt, 2, [.c #[.bool ya0, .slice yp0 yl0 yd0]], []⟩, ⟨24, some 1, 0, pt, 2, [.c #[.bool ya1, .slice yp1 yl1 yd1]], []⟩, ⟨26, some 2, 0, pt, 4, [.c #[.bool false, .slice none 0 0, .bool false, .slice none 0 0]], []⟩] ?ok1 ?st1 ?al1 ?pu1 ?en1
 case ok1 => exact BxOK.fresh rfl hB0.size
 case st1 =>
  intro zi zo ho hro a' u lc W hM
  match zi, ho, hro with
  | 0, _, hro => exact nr1 hro (by kernel_rfl)
  | 1, _, hro => exact nr1 hro (by kernel_rfl)
  | 2, _, hro => exact nr1 hro (by kernel_rfl)
  | zk + 3, ho, _ => simp at ho
 case al1 =>
  intro zk zb zi zo hk ha ho a' u lc W hM
  match zk, hk with
  | 0, hk => cases hk; cases ha; cases ho; exact ⟨rfl, rfl, rfl, rfl, kBox rfl (hM.ol 0)⟩
  | 1, hk => cases hk; cases ha; cases ho; exact ⟨rfl, rfl, rfl, rfl, kBox rfl (hM.ol 1)⟩
  | 2, hk => cases hk; cases ha; cases ho; exact ⟨rfl, rfl, rfl, rfl, kAlloc26 rfl⟩
  | zk + 3, hk => simp at hk
 case pu1 =>
  intro zk zb zs zo hk hs ho a' u lc W zc hM hc hcs
  match zk, hk with
  | 0, hk => cases hk; simp at hs
  | 1, hk => cases hk; simp at hs
  | 2, hk => cases hk; simp at hs
  | zk + 3, hk => simp at hk
 case en1 =>
  intro u1 lc1 W1 hK1 hB1 hO1 hV1 hX1 hA1
  obtain ⟨qr, ho, hl⟩ := hX1 0 _ rfl
  have e1_0 : u1 0 = .pointer (some ⟨lc1 0, 0, none⟩) := (hl 0 rfl).1
  have g1_0 := (hl 0 rfl).2
  have f1_1 := hr0.kept hK1
  have q1_0 : W1.heap[(lc1 0)]? = some (.cells #[.bool ya0, .slice yp0 yl0 yd0] 24) := by
   exact qr
  obtain ⟨qr, ho, hl⟩ := hX1 1 _ rfl
  have e1_1 : u1 1 = .pointer (some ⟨lc1 1, 0, none⟩) := (hl 1 rfl).1
  have g1_1 := (hl 1 rfl).2
  have f1_3 := hr1.kept hK1
  have q1_1 : W1.heap[(lc1 1)]? = some (.cells #[.bool ya1, .slice yp1 yl1 yd1] 24) := by
   exact qr
  obtain ⟨qr, ho, hl⟩ := hX1 2 _ rfl
  have e1_2 : u1 2 = .pointer (some ⟨lc1 2, 0, none⟩) := (hl 2 rfl).1
  have g1_2 := (hl 2 rfl).2
  have q1_2 : W1.heap[(lc1 2)]? = some (.cells #[.bool false, .slice none 0 0, .bool false, .slice none 0 0] 26) := by
   exact qr
  have ne1_0_2 := hA1 0 2 _ _ rfl rfl (by decide)
  have ne1_1_2 := hA1 1 2 _ _ rfl rfl (by decide)
  simp only [putK, fC, fN, kZ, kS, vA, sI, sZ, sS, e1_0, e1_1, e1_2]
  have hBt1 := hB0.trans hB1
  clear hV1 hX1 hA1
  go_upto_region 1 with fail
  refine rg0 (n := 9) (t16 := 48) w.heap.size [.val (.pointer (some ⟨(lc1 0), 1, none⟩)), .val (.slice yp0 yl0 yd0), .val (.pointer (some ⟨(lc1 1), 1, none⟩)), .val (.slice yp1 yl1 yd1), .k (rowk g), .k (rowk g)] [(0, 10), (1, 11), (2, 12), (3, 13), (4, 14), (5, 5)] hBt1.size ?st2 ?en2
  case st2 =>
   intro zi zo ho hro a' u lc W hM
   match zi, ho, hro with
   | 0, ho, _ => cases ho; exact wn (kField24_1 rfl (hM.ol 2))
   | 1, ho, _ => cases ho; exact wn (kLoad1 Tryz.underlying22 rfl rfl (hM.d 0 10 rfl) (hM.o0 q1_0) rfl rfl)
   | 2, ho, _ => cases ho; exact wn (kField24_1 rfl (hM.ol 3))
   | 3, ho, _ => cases ho; exact wn (kLoad1 Tryz.underlying22 rfl rfl (hM.d 2 12 rfl) (hM.o0 q1_1) rfl rfl)
   | 4, ho, _ => cases ho; exact wn (kCall2 rfl may112 (hM.d 1 11 rfl) (hM.d 3 13 rfl) (c112g HX.out HY.out HG.out (f1_1.kept hM.kept) (f1_3.kept hM.kept)))
   | 5, ho, _ => cases ho; exact wn (kAssign rfl (hM.d 4 14 rfl))
   | zk + 6, ho, _ => simp at ho
  case en2 =>
   intro u2 lc2 W2 hK2 hB2 hO2 hV2 hX2 hA2
   have k2_5 := kk (hV2 5 5 rfl) rfl
   have q2_1_0 := oth0 hO2 q1_0
   have f2_1 := f1_1.kept hK2
   have q2_1_1 := oth0 hO2 q1_1
   have f2_3 := f1_3.kept hK2
   have q2_1_2 := oth0 hO2 q1_2
   simp only [putK, fC, fN, kZ, kS, vV, vK, sI, sZ, sS]
   have hBt2 := hBt1.trans hB2
   clear hV2 hX2 hA2
   go_upto_region 2 with fail
   refine rg0 (n := 9) (t16 := 48) w.heap.size [.k (rowk g), vT] [(0, 15), (1, 16)] hBt2.size ?st3 ?en3
   case st3 =>
    intro zi zo ho hro a' u lc W hM
    match zi, ho, hro with
    | 0, ho, _ => cases ho; exact wn (kMove rfl ((k2_5.kept hM.kept).at (hM.ol 5)))
    | 1, ho, _ => cases ho; exact wn (kCall1 rfl may82 (hM.v 0 15 rfl) (c82 HGC.out HT.out (hM.kd 0)))
    | zk + 2, ho, _ => simp at ho
   case en3 =>
    intro u3 lc3 W3 hK3 hB3 hO3 hV3 hX3 hA3
    have q3_1_0 := oth0 hO3 q2_1_0
    have f3_1 := f2_1.kept hK3
    have q3_1_1 := oth0 hO3 q2_1_1
    have f3_3 := f2_3.kept hK3
    have q3_1_2 := oth0 hO3 q2_1_2
    simp only [putK, fC, fN, kZ, kS, vV, vK, sI, sZ, sS]
    have hBt3 := hBt2.trans hB3
    clear hV3 hX3 hA3
    go_upto_region 3 with fail
    refine rg (n := 9) (t16 := 48) w.heap.size [(lc1 2)] [.val (.pointer (some ⟨(lc1 0), 0, none⟩)), .val (.bool ya0), .val (.pointer (some ⟨(lc1 1), 0, none⟩)), .val (.bool ya1), .val (.bool sg), .val (.pointer (some ⟨(lc1 0), 1, none⟩)), .val (.slice yp0 yl0 yd0), .k (num N), .val (.pointer (some ⟨(lc1 1), 1, none⟩)), .val (.slice yp1 yl1 yd1), .k (num D), .k (fr N D), .any] [(0, 17), (1, 18), (2, 19), (3, 20), (4, 21), (5, 22), (6, 23), (7, 24), (8, 25), (9, 26), (10, 27), (11, 28)] [⟨26, none, (lc1 2), pt, 4, [.c #[.bool false, .slice none 0 0, .bool false, .slice none 0 0]], [(12, 0, 11)]⟩] ?ok4 ?st4 ?al4 ?pu4 ?en4
    case ok4 => exact BxOK.one ⟨(Nat.le_trans hB0.size g1_2), ⟨_, q3_1_2, rfl, rfl, rfl⟩, by simp, (by decide : (26 : Nat) ≠ 48)⟩ rfl hBt3.size
    case st4 =>
     intro zi zo ho hro a' u lc W hM
     match zi, ho, hro with
     | 0, ho, _ => cases ho; exact wn (kField24_0 rfl (hM.ol 2))
     | 1, ho, _ => cases ho; exact wn (kLoad1 Tryz.underlying4 rfl rfl (hM.d 0 17 rfl) (hM.o1 q3_1_0 (by omega)) rfl rfl)
     | 2, ho, _ => cases ho; exact wn (kField24_0 rfl (hM.ol 3))
     | 3, ho, _ => cases ho; exact wn (kLoad1 Tryz.underlying4 rfl rfl (hM.d 2 19 rfl) (hM.o1 q3_1_1 (by omega)) rfl rfl)
     | 4, ho, _ => cases ho; exact wn (kNeq4 rfl (hM.d 1 18 rfl) (hM.d 3 20 rfl) HS.out)
     | 5, ho, _ => cases ho; exact wn (kField24_1 rfl (hM.ol 2))
     | 6, ho, _ => cases ho; exact wn (kLoad1 Tryz.underlying22 rfl rfl (hM.d 5 22 rfl) (hM.o1 q3_1_0 (by omega)) rfl rfl)
     | 7, ho, _ => cases ho; exact wn (kCall2 rfl may94 (hM.d 4 21 rfl) (hM.d 6 23 rfl) (c94 HN.out HC0.out (f3_1.kept hM.kept)))
     | 8, ho, _ => cases ho; exact wn (kField24_1 rfl (hM.ol 3))
     | 9, ho, _ => cases ho; exact wn (kLoad1 Tryz.underlying22 rfl rfl (hM.d 8 25 rfl) (hM.o1 q3_1_1 (by omega)) rfl rfl)
     | 10, ho, _ => cases ho; exact wn (kCall2 rfl may94 rfl (hM.d 9 26 rfl) (c94 HD.out HC1.out (f3_3.kept hM.kept)))
     | 11, ho, _ =>
      cases ho
      refine .inl ⟨wanted_none rfl, ?_⟩
      obtain ⟨sbx, spx, slx, scx, ex⟩ := (show Is (num N) _ W from (hM.kd 7)).form
      obtain ⟨sby, spy, sly, scy, ey⟩ := (show Is (num D) _ W from (hM.kd 10)).form
      exact kBuild26 rfl ((hM.v 7 24 rfl).trans ex) ((hM.v 10 27 rfl).trans ey) ⟨_, _, _, _, _, _, _, _, rfl, (by rw [← ex]; exact (hM.kd 7)), (by rw [← ey]; exact (hM.kd 10))⟩
     | 12, _, hro => exact nr1 hro (by kernel_rfl)
     | zk + 13, ho, _ => simp at ho
    case al4 =>
     intro zk zb zi zo hk ha ho a' u lc W hM
     match zk, hk with
     | 0, hk => cases hk; cases ha
     | zk + 1, hk => simp at hk
    case pu4 =>
     intro zk zb zs zo hk hs ho a' u lc W zc hM hc hcs
     match zk, hk with
     | 0, hk =>
      cases hk
      simp only [List.mem_cons, List.not_mem_nil, or_false] at hs
      rcases hs with rfl
      · cases ho
        obtain ⟨sb, sp, sl, sc, sb2, sp2, sl2, sc2, e, _⟩ := (show Is (fr N D) (u 11) W from (hM.kd 11))
        exact kPut rfl e ((hM.ol 4).trans (show _ = Value.pointer (some ⟨lc 0, 0, none⟩) from by rw [show lc 0 = (lc1 2) from hM.locO 0 _ rfl rfl]; rfl)) (hM.v 11 28 rfl) hc hcs sz26
     | zk + 1, hk => simp at hk
    case en4 =>
     intro u4 lc4 W4 hK4 hB4 hO4 hV4 hX4 hA4
     have k4_11 := kk (hV4 11 28 rfl) rfl
     obtain ⟨qr, ho, hl⟩ := hX4 0 _ rfl
     have elc : lc4 0 = (lc1 2) := ho rfl
     rw [elc] at qr
     obtain ⟨x4_12, y4_12, z4_12, c4_12, x24_12, y24_12, z24_12, c24_12, es4_12, sa4_12, sb4_12⟩ := id k4_11
     have sk4_12 : Is (fr N D) (.agg #[.bool x4_12, .slice y4_12 z4_12 c4_12, .bool x24_12, .slice y24_12 z24_12 c24_12]) W4 := by rw [← es4_12]; exact k4_11
     have q4_0 : W4.heap[(lc1 2)]? = some (.cells #[.bool x4_12, .slice y4_12 z4_12 c4_12, .bool x24_12, .slice y24_12 z24_12 c24_12] 26) := by
      rw [contAll_one rfl (cs := #[.bool x4_12, .slice y4_12 z4_12 c4_12, .bool x24_12, .slice y24_12 z24_12 c24_12]) (by rw [es4_12]; rfl) rfl] at qr; exact qr
     simp only [putK, fC, fN, kZ, kS, vV, vK, sI, sZ, sS]
     have hBt4 := hBt3.trans hB4
     clear hV4 hX4 hA4
     have cr0 := cell_of q4_0 0 rfl
     have cr1 := cell_of q4_0 1 rfl
     have cr2 := cell_of q4_0 2 rfl
     have cr3 := cell_of q4_0 3 rfl
     go_wp2
     exact bodyPost_ret (v := .agg #[.bool x4_12, .slice y4_12 z4_12 c4_12, .bool x24_12, .slice y24_12 z24_12 c24_12]) (by simp [results, Tryz.results79, go_sem, cr0, cr1, cr2, cr3]) rfl ⟨_, rfl, sk4_12, hBt4⟩
theorem c79b {x y g N D : Int} {sg : Bool} {v0 v1 : Value} {w : World} (hx : ((x.natAbs : Nat) : Int) ≤ 65535) (hy : ((y.natAbs : Nat) : Int) ≤ 65535) (hsg : (decide (x < 0) != decide (y < 0)) = sg) (hg : ((Int.gcd ((x.natAbs : Nat) : Int) ((y.natAbs : Nat) : Int) : Nat) : Int) = g) (ht : decide (g = 1) = false) (hN : sgn sg (((x.natAbs : Nat) : Int) / g) = N) (hD : sgn false (((y.natAbs : Nat) : Int) / g) = D) (hg0 : 1 ≤ g) (hgm : g ≤ 65535) (hq1 : ((x.natAbs : Nat) : Int) / g < Cap) (hq2 : ((y.natAbs : Nat) : Int) / g < Cap) (hgc : g < Cap) (h0 : Is (num x) v0 w) (h1 : Is (num y) v1 w) : Calls Tryz.prog 79 #[v0, v1] w (Ret (.k (fr N D)) w) := by
 have HGC := Lib.hid hgc
 clear hgc
 obtain ⟨ya0, yp0, yl0, yd0, rfl⟩ := h0.form
 obtain ⟨ya1, yp1, yl1, yd1, rfl⟩ := h1.form
 have hr0 := row_of (W := w) h0
 have hr1 := row_of (W := w) h1
 have hc0 := num_cap h0
 have hc1 := num_cap h1
 have hs : (ya0 != ya1) = sg := by rw [num_sign (W := w) h0, num_sign (W := w) h1]; exact hsg
 have HX := Lib.hid hx
 have HY := Lib.hid hy
 have HG := Lib.hid hg
 have HT := Lib.hid ht
 have HN := Lib.hid hN
 have HD := Lib.hid hD
 have HS := Lib.hid hs
 have HC0 := Lib.hid hc0
 have HC1 := Lib.hid hc1
 have HG0 := Lib.hid hg0
 have HGM := Lib.hid hgm
 have HQ1 := Lib.hid hq1
 have HQ2 := Lib.hid hq2
 clear hx hy hg ht hN hD hs hc0 hc1 hsg hg0 hgm hq1 hq2
 have hB0 := Below.refl w.heap.size w
 go_enter Tryz.func79, Tryz.ntmps79
 go_upto_region 0 with fail
 refine rg (n := 9) (t16 := 48) w.heap.size [] [.any, .any, .any] [(0, 2), (1, 3), (2, 4)] [⟨24, some 0, 0, pt, 2, [.c #[.bool ya0, .slice yp0 yl0 yd0]], []⟩, ⟨24, some 1, 0, pt, 2, [.c #[.bool ya1, .slice yp1 yl1 yd1]], []⟩, ⟨26, some 2, 0, pt, 4, [.c #[.bool false, .slice none 0 0, .bool false, .slice none 0 0]], []⟩] ?ok1 ?st1 ?al1 ?pu1 ?en1
 case ok1 => exact BxOK.fresh rfl hB0.size
 case st1 =>
  intro zi zo ho hro a' u lc W hM
  match zi, ho, hro with
  | 0, _, hro => exact nr1 hro (by kernel_rfl)
  | 1, _, hro => exact nr1 hro (by kernel_rfl)
  | 2, _, hro => exact nr1 hro (by kernel_rfl)
  | zk + 3, ho, _ => simp at ho
 case al1 =>
  intro zk zb zi zo hk ha ho a' u lc W hM
  match zk, hk with
  | 0, hk => cases hk; cases ha; cases ho; exact ⟨rfl, rfl, rfl, rfl, kBox rfl (hM.ol 0)⟩
  | 1, hk => cases hk; cases ha; cases ho; exact ⟨rfl, rfl, rfl, rfl, kBox rfl (hM.ol 1)⟩
  | 2, hk => cases hk; cases ha; cases ho; exact ⟨rfl, rfl, rfl, rfl, kAlloc26 rfl⟩
  | zk + 3, hk => simp at hk
 case pu1 =>
  intro zk zb zs zo hk hs ho a' u lc W zc hM hc hcs
  match zk, hk with
  | 0, hk => cases hk; simp at hs
  | 1, hk => cases hk; simp at hs
  | 2, hk => cases hk; simp at hs
  | zk + 3, hk => simp at hk
 case en1 =>
  intro u1 lc1 W1 hK1 hB1 hO1 hV1 hX1 hA1
  obtain ⟨qr, ho, hl⟩ := hX1 0 _ rfl
  have e1_0 : u1 0 = .pointer (some ⟨lc1 0, 0, none⟩) := (hl 0 rfl).1
  have g1_0 := (hl 0 rfl).2
  have f1_1 := hr0.kept hK1
  have q1_0 : W1.heap[(lc1 0)]? = some (.cells #[.bool ya0, .slice yp0 yl0 yd0] 24) := by
   exact qr
  obtain ⟨qr, ho, hl⟩ := hX1 1 _ rfl
  have e1_1 : u1 1 = .pointer (some ⟨lc1 1, 0, none⟩) := (hl 1 rfl).1
  have g1_1 := (hl 1 rfl).2
  have f1_3 := hr1.kept hK1
  have q1_1 : W1.heap[(lc1 1)]? = some (.cells #[.bool ya1, .slice yp1 yl1 yd1] 24) := by
   exact qr
  obtain ⟨qr, ho, hl⟩ := hX1 2 _ rfl
  have e1_2 : u1 2 = .pointer (some ⟨lc1 2, 0, none⟩) := (hl 2 rfl).1
  have g1_2 := (hl 2 rfl).2
  have q1_2 : W1.heap[(lc1 2)]? = some (.cells #[.bool false, .slice none 0 0, .bool false, .slice none 0 0] 26) := by
   exact qr
  have ne1_0_2 := hA1 0 2 _ _ rfl rfl (by decide)
  have ne1_1_2 := hA1 1 2 _ _ rfl rfl (by decide)
  simp only [putK, fC, fN, kZ, kS, vA, sI, sZ, sS, e1_0, e1_1, e1_2]
  have hBt1 := hB0.trans hB1
  clear hV1 hX1 hA1
  go_upto_region 1 with fail
  refine rg0 (n := 9) (t16 := 48) w.heap.size [.val (.pointer (some ⟨(lc1 0), 1, none⟩)), .val (.slice yp0 yl0 yd0), .val (.pointer (some ⟨(lc1 1), 1, none⟩)), .val (.slice yp1 yl1 yd1), .k (rowk g), .k (rowk g)] [(0, 10), (1, 11), (2, 12), (3, 13), (4, 14), (5, 5)] hBt1.size ?st2 ?en2
  case st2 =>
   intro zi zo ho hro a' u lc W hM
   match zi, ho, hro with
   | 0, ho, _ => cases ho; exact wn (kField24_1 rfl (hM.ol 2))
   | 1, ho, _ => cases ho; exact wn (kLoad1 Tryz.underlying22 rfl rfl (hM.d 0 10 rfl) (hM.o0 q1_0) rfl rfl)
   | 2, ho, _ => cases ho; exact wn (kField24_1 rfl (hM.ol 3))
   | 3, ho, _ => cases ho; exact wn (kLoad1 Tryz.underlying22 rfl rfl (hM.d 2 12 rfl) (hM.o0 q1_1) rfl rfl)
   | 4, ho, _ => cases ho; exact wn (kCall2 rfl may112 (hM.d 1 11 rfl) (hM.d 3 13 rfl) (c112g HX.out HY.out HG.out (f1_1.kept hM.kept) (f1_3.kept hM.kept)))
   | 5, ho, _ => cases ho; exact wn (kAssign rfl (hM.d 4 14 rfl))
   | zk + 6, ho, _ => simp at ho
  case en2 =>
   intro u2 lc2 W2 hK2 hB2 hO2 hV2 hX2 hA2
   have k2_5 := kk (hV2 5 5 rfl) rfl
   have q2_1_0 := oth0 hO2 q1_0
   have f2_1 := f1_1.kept hK2
   have q2_1_1 := oth0 hO2 q1_1
   have f2_3 := f1_3.kept hK2
   have q2_1_2 := oth0 hO2 q1_2
   simp only [putK, fC, fN, kZ, kS, vV, vK, sI, sZ, sS]
   have hBt2 := hBt1.trans hB2
   clear hV2 hX2 hA2
   go_upto_region 2 with fail
   refine rg0 (n := 9) (t16 := 48) w.heap.size [.k (rowk g), vF] [(0, 15), (1, 16)] hBt2.size ?st3 ?en3
   case st3 =>
    intro zi zo ho hro a' u lc W hM
    match zi, ho, hro with
    | 0, ho, _ => cases ho; exact wn (kMove rfl ((k2_5.kept hM.kept).at (hM.ol 5)))
    | 1, ho, _ => cases ho; exact wn (kCall1 rfl may82 (hM.v 0 15 rfl) (c82 HGC.out HT.out (hM.kd 0)))
    | zk + 2, ho, _ => simp at ho
   case en3 =>
    intro u3 lc3 W3 hK3 hB3 hO3 hV3 hX3 hA3
    have q3_1_0 := oth0 hO3 q2_1_0
    have f3_1 := f2_1.kept hK3
    have q3_1_1 := oth0 hO3 q2_1_1
    have f3_3 := f2_3.kept hK3
    have q3_1_2 := oth0 hO3 q2_1_2
    have f3_5 := k2_5.kept hK3
    simp only [putK, fC, fN, kZ, kS, vV, vK, sI, sZ, sS]
    have hBt3 := hBt2.trans hB3
    clear hV3 hX3 hA3
    go_upto_region 4 with fail
    refine rg0 (n := 9) (t16 := 48) w.heap.size [.val (.pointer (some ⟨(lc1 0), 1, none⟩)), .val (.slice yp0 yl0 yd0), .k (rowk g), .k (tup2 (.k (rowk (((x.natAbs : Nat) : Int) / g))) (.k (rowk (((x.natAbs : Nat) : Int) % g)))), .k (tup2 (.k (rowk (((x.natAbs : Nat) : Int) / g))) (.k (rowk (((x.natAbs : Nat) : Int) % g)))), .k (rowk (((x.natAbs : Nat) : Int) / g)), .k (rowk (((x.natAbs : Nat) : Int) % g)), .k (rowk (((x.natAbs : Nat) : Int) / g)), .k (rowk (((x.natAbs : Nat) : Int) % g))] [(0, 30), (1, 31), (2, 32), (3, 33), (4, 29), (5, 34), (6, 35), (7, 6), (8, 7)] hBt3.size ?st4 ?en4
    case st4 =>
     intro zi zo ho hro a' u lc W hM
     match zi, ho, hro with
     | 0, ho, _ => cases ho; exact wn (kField24_1 rfl (hM.ol 2))
     | 1, ho, _ => cases ho; exact wn (kLoad1 Tryz.underlying22 rfl rfl (hM.d 0 30 rfl) (hM.o0 q3_1_0) rfl rfl)
     | 2, ho, _ => cases ho; exact wn (kMove rfl ((f3_5.kept hM.kept).at (hM.ol 5)))
     | 3, ho, _ => cases ho; exact wn (kCall2 rfl may139 (hM.d 1 31 rfl) (hM.v 2 32 rfl) (c139s HG0.out HGM.out HC0.out (f3_1.kept hM.kept) (hM.kd 2)))
     | 4, ho, _ => cases ho; exact wn (kMove rfl (hM.d 3 33 rfl))
     | 5, ho, _ => cases ho; exact wn (kEx20 rfl (hM.d 4 29 rfl))
     | 6, ho, _ => cases ho; exact wn (kEx21 rfl (hM.d 4 29 rfl))
     | 7, ho, _ => cases ho; exact wn (kAssign rfl (hM.d 5 34 rfl))
     | 8, ho, _ => cases ho; exact wn (kAssign rfl (hM.d 6 35 rfl))
     | zk + 9, ho, _ => simp at ho
    case en4 =>
     intro u4 lc4 W4 hK4 hB4 hO4 hV4 hX4 hA4
     have k4_7 := kk (hV4 7 6 rfl) rfl
     have q4_1_0 := oth0 hO4 q3_1_0
     have q4_1_1 := oth0 hO4 q3_1_1
     have f4_3 := f3_3.kept hK4
     have q4_1_2 := oth0 hO4 q3_1_2
     have f4_5 := f3_5.kept hK4
     simp only [putK, fC, fN, kZ, kS, vV, vK, sI, sZ, sS]
     have hBt4 := hBt3.trans hB4
     clear hV4 hX4 hA4
     go_upto_region 5 with fail
     refine rg0 (n := 9) (t16 := 48) w.heap.size [.val (.pointer (some ⟨(lc1 1), 1, none⟩)), .val (.slice yp1 yl1 yd1), .k (rowk g), .k (tup2 (.k (rowk (((y.natAbs : Nat) : Int) / g))) (.k (rowk (((y.natAbs : Nat) : Int) % g)))), .k (tup2 (.k (rowk (((y.natAbs : Nat) : Int) / g))) (.k (rowk (((y.natAbs : Nat) : Int) % g)))), .k (rowk (((y.natAbs : Nat) : Int) / g)), .k (rowk (((y.natAbs : Nat) : Int) % g)), .k (rowk (((y.natAbs : Nat) : Int) / g)), .k (rowk (((y.natAbs : Nat) : Int) % g))] [(0, 37), (1, 38), (2, 39), (3, 40), (4, 36), (5, 41), (6, 42), (7, 8), (8, 9)] hBt4.size ?st5 ?en5
     case st5 =>
      intro zi zo ho hro a' u lc W hM
      match zi, ho, hro with
      | 0, ho, _ => cases ho; exact wn (kField24_1 rfl (hM.ol 3))
      | 1, ho, _ => cases ho; exact wn (kLoad1 Tryz.underlying22 rfl rfl (hM.d 0 37 rfl) (hM.o0 q4_1_1) rfl rfl)
      | 2, ho, _ => cases ho; exact wn (kMove rfl ((f4_5.kept hM.kept).at (hM.ol 5)))
      | 3, ho, _ => cases ho; exact wn (kCall2 rfl may139 (hM.d 1 38 rfl) (hM.v 2 39 rfl) (c139s HG0.out HGM.out HC1.out (f4_3.kept hM.kept) (hM.kd 2)))
      | 4, ho, _ => cases ho; exact wn (kMove rfl (hM.d 3 40 rfl))
      | 5, ho, _ => cases ho; exact wn (kEx20 rfl (hM.d 4 36 rfl))
      | 6, ho, _ => cases ho; exact wn (kEx21 rfl (hM.d 4 36 rfl))
      | 7, ho, _ => cases ho; exact wn (kAssign rfl (hM.d 5 41 rfl))
      | 8, ho, _ => cases ho; exact wn (kAssign rfl (hM.d 6 42 rfl))
      | zk + 9, ho, _ => simp at ho
     case en5 =>
      intro u5 lc5 W5 hK5 hB5 hO5 hV5 hX5 hA5
      have k5_7 := kk (hV5 7 8 rfl) rfl
      have q5_1_0 := oth0 hO5 q4_1_0
      have q5_1_1 := oth0 hO5 q4_1_1
      have q5_1_2 := oth0 hO5 q4_1_2
      have f5_12 := k4_7.kept hK5
      simp only [putK, fC, fN, kZ, kS, vV, vK, sI, sZ, sS]
      have hBt5 := hBt4.trans hB5
      clear hV5 hX5 hA5
      go_upto_region 6 with fail
      refine rg (n := 9) (t16 := 48) w.heap.size [(lc1 2)] [.val (.pointer (some ⟨(lc1 0), 0, none⟩)), .val (.bool ya0), .val (.pointer (some ⟨(lc1 1), 0, none⟩)), .val (.bool ya1), .val (.bool sg), .k (rowk (((x.natAbs : Nat) : Int) / g)), .k (num N), .k (rowk (((y.natAbs : Nat) : Int) / g)), .k (num D), .k (fr N D), .any] [(0, 43), (1, 44), (2, 45), (3, 46), (4, 47), (5, 48), (6, 49), (7, 50), (8, 51), (9, 52)] [⟨26, none, (lc1 2), pt, 4, [.c #[.bool false, .slice none 0 0, .bool false, .slice none 0 0]], [(10, 0, 9)]⟩] ?ok6 ?st6 ?al6 ?pu6 ?en6
      case ok6 => exact BxOK.one ⟨(Nat.le_trans hB0.size g1_2), ⟨_, q5_1_2, rfl, rfl, rfl⟩, by simp, (by decide : (26 : Nat) ≠ 48)⟩ rfl hBt5.size
      case st6 =>
       intro zi zo ho hro a' u lc W hM
       match zi, ho, hro with
       | 0, ho, _ => cases ho; exact wn (kField24_0 rfl (hM.ol 2))
       | 1, ho, _ => cases ho; exact wn (kLoad1 Tryz.underlying4 rfl rfl (hM.d 0 43 rfl) (hM.o1 q5_1_0 (by omega)) rfl rfl)
       | 2, ho, _ => cases ho; exact wn (kField24_0 rfl (hM.ol 3))
       | 3, ho, _ => cases ho; exact wn (kLoad1 Tryz.underlying4 rfl rfl (hM.d 2 45 rfl) (hM.o1 q5_1_1 (by omega)) rfl rfl)
       | 4, ho, _ => cases ho; exact wn (kNeq4 rfl (hM.d 1 44 rfl) (hM.d 3 46 rfl) HS.out)
       | 5, ho, _ => cases ho; exact wn (kMove rfl ((f5_12.kept hM.kept).at (hM.ol 6)))
       | 6, ho, _ => cases ho; exact wn (kCall2 rfl may94 (hM.d 4 47 rfl) (hM.v 5 48 rfl) (c94 HN.out HQ1.out (hM.kd 5)))
       | 7, ho, _ => cases ho; exact wn (kMove rfl ((k5_7.kept hM.kept).at (hM.ol 8)))
       | 8, ho, _ => cases ho; exact wn (kCall2 rfl may94 rfl (hM.v 7 50 rfl) (c94 HD.out HQ2.out (hM.kd 7)))
       | 9, ho, _ =>
        cases ho
        refine .inl ⟨wanted_none rfl, ?_⟩
        obtain ⟨sbx, spx, slx, scx, ex⟩ := (show Is (num N) _ W from (hM.kd 6)).form
        obtain ⟨sby, spy, sly, scy, ey⟩ := (show Is (num D) _ W from (hM.kd 8)).form
        exact kBuild26 rfl ((hM.v 6 49 rfl).trans ex) ((hM.v 8 51 rfl).trans ey) ⟨_, _, _, _, _, _, _, _, rfl, (by rw [← ex]; exact (hM.kd 6)), (by rw [← ey]; exact (hM.kd 8))⟩
       | 10, _, hro => exact nr1 hro (by kernel_rfl)
       | zk + 11, ho, _ => simp at ho
      case al6 =>
       intro zk zb zi zo hk ha ho a' u lc W hM
       match zk, hk with
       | 0, hk => cases hk; cases ha
       | zk + 1, hk => simp at hk
      case pu6 =>
       intro zk zb zs zo hk hs ho a' u lc W zc hM hc hcs
       match zk, hk with
       | 0, hk =>
        cases hk
        simp only [List.mem_cons, List.not_mem_nil, or_false] at hs
        rcases hs with rfl
        · cases ho
          obtain ⟨sb, sp, sl, sc, sb2, sp2, sl2, sc2, e, _⟩ := (show Is (fr N D) (u 9) W from (hM.kd 9))
          exact kPut rfl e ((hM.ol 4).trans (show _ = Value.pointer (some ⟨lc 0, 0, none⟩) from by rw [show lc 0 = (lc1 2) from hM.locO 0 _ rfl rfl]; rfl)) (hM.v 9 52 rfl) hc hcs sz26
       | zk + 1, hk => simp at hk
      case en6 =>
       intro u6 lc6 W6 hK6 hB6 hO6 hV6 hX6 hA6
       have k6_9 := kk (hV6 9 52 rfl) rfl
       obtain ⟨qr, ho, hl⟩ := hX6 0 _ rfl
       have elc : lc6 0 = (lc1 2) := ho rfl
       rw [elc] at qr
       obtain ⟨x6_10, y6_10, z6_10, c6_10, x26_10, y26_10, z26_10, c26_10, es6_10, sa6_10, sb6_10⟩ := id k6_9
       have sk6_10 : Is (fr N D) (.agg #[.bool x6_10, .slice y6_10 z6_10 c6_10, .bool x26_10, .slice y26_10 z26_10 c26_10]) W6 := by rw [← es6_10]; exact k6_9
       have q6_0 : W6.heap[(lc1 2)]? = some (.cells #[.bool x6_10, .slice y6_10 z6_10 c6_10, .bool x26_10, .slice y26_10 z26_10 c26_10] 26) := by
        rw [contAll_one rfl (cs := #[.bool x6_10, .slice y6_10 z6_10 c6_10, .bool x26_10, .slice y26_10 z26_10 c26_10]) (by rw [es6_10]; rfl) rfl] at qr; exact qr
       simp only [putK, fC, fN, kZ, kS, vV, vK, sI, sZ, sS]
       have hBt6 := hBt5.trans hB6
       clear hV6 hX6 hA6
       have cr0 := cell_of q6_0 0 rfl
       have cr1 := cell_of q6_0 1 rfl
       have cr2 := cell_of q6_0 2 rfl
       have cr3 := cell_of q6_0 3 rfl
       go_wp2
       exact bodyPost_ret (v := .agg #[.bool x6_10, .slice y6_10 z6_10 c6_10, .bool x26_10, .slice y26_10 z26_10 c26_10]) (by simp [results, Tryz.results79, go_sem, cr0, cr1, cr2, cr3]) rfl ⟨_, rfl, sk6_10, hBt6⟩
end Go.Proofs.YtihdbjilolmfiaaGreatDoor
namespace Go.Proofs.YtihdbjilolmfiaaGreatDoor
open Go.RowKit Go.WM Go.WR
attribute [local go_sem] Oper.semAt_some
theorem gcd_abs (x y : Int) : Int.gcd ((x.natAbs : Nat) : Int) ((y.natAbs : Nat) : Int) = Int.gcd x y := by simp [Int.gcd]
theorem cap_small' : (65535 : Int) < Cap := by
 have h2 : (65536 : Int) ^ 1 ≤ 65536 ^ 1024 := pow_le_pow' (by decide)
 rw [Cap.eq]
 omega
theorem sgn_ne {x y a g : Int} (hg : 0 < g) (ha : a * g = x.natAbs) (hy : y ≠ 0) : sgn (decide (x < 0) != decide (y < 0)) a * (y.sign * g) = x := by
 have h0 : 0 ≤ a := by
  rcases Int.lt_or_le a 0 with h | h
  · have := Int.mul_neg_of_neg_of_pos h hg; omega
  · exact h
 rcases (show x < 0 ∨ 0 ≤ x by omega) with h | h <;> rcases (show y < 0 ∨ 0 < y by omega) with k | k
 · rw [decide_eq_true h, decide_eq_true k, Int.sign_eq_neg_one_of_neg k]; simp only [bne_self_eq_false, sgn, cond_false]
   have : a * (-1 * g) = -(a * g) := by grind
   omega
 · rw [decide_eq_true h, decide_eq_false (by omega), Int.sign_eq_one_of_pos k]; simp only [Bool.true_bne, Bool.not_false, sgn, cond_true]
   have : -a * (1 * g) = -(a * g) := by grind
   omega
 · rw [decide_eq_false (by omega), decide_eq_true k, Int.sign_eq_neg_one_of_neg k]; simp only [Bool.false_bne, sgn, cond_true]
   have : -a * (-1 * g) = a * g := by grind
   omega
 · rw [decide_eq_false (by omega), decide_eq_false (by omega), Int.sign_eq_one_of_pos k]; simp only [bne_self_eq_false, sgn, cond_false]
   have : a * (1 * g) = a * g := by grind
   omega
theorem c79q {x y : Int} {v0 v1 : Value} {w : World} (hx : ((x.natAbs : Nat) : Int) ≤ 65535) (hy : ((y.natAbs : Nat) : Int) ≤ 65535) (hy0 : y ≠ 0) (h0 : Is (num x) v0 w) (h1 : Is (num y) v1 w) : Calls Tryz.prog 79 #[v0, v1] w (Ret (.k (frq (Rat.divInt x y))) w) := by
 obtain ⟨g, hg⟩ : ∃ g : Int, ((Int.gcd ((x.natAbs : Nat) : Int) ((y.natAbs : Nat) : Int) : Nat) : Int) = g := ⟨_, rfl⟩
 have hgp : 0 < g := by rw [← hg]; exact gcd_pos_of (by omega)
 have hgx : g ∣ ((x.natAbs : Nat) : Int) := by rw [← hg]; exact gcd_l _ _
 have hgy : g ∣ ((y.natAbs : Nat) : Int) := by rw [← hg]; exact gcd_r _ _
 have hgm : g ≤ ((y.natAbs : Nat) : Int) := Int.le_of_dvd (by omega) hgy
 have hcap := cap_small'
 have e1 := Int.ediv_mul_cancel hgx
 have e2 := Int.ediv_mul_cancel hgy
 have hD : 0 < ((y.natAbs : Nat) : Int) / g := by
  rcases Int.lt_or_le 0 (((y.natAbs : Nat) : Int) / g) with h | h
  · exact h
  · have := Int.mul_nonpos_of_nonpos_of_nonneg h (Int.le_of_lt hgp); omega
 have hgg : (y.sign * g).natAbs = Int.gcd x y := by
  rw [← gcd_abs, Int.natAbs_mul, Int.natAbs_sign_of_ne_zero hy0]
  omega
 have hDy : ((y.natAbs : Nat) : Int) / g * (y.sign * g) = y := by
  have := Int.sign_mul_natAbs y
  grind
 obtain ⟨r1, r2⟩ := divInt_exact hy0 hgg (sgn_ne hgp e1 hy0) hDy hD
 unfold frq
 rw [← r1, ← r2]
 by_cases h : g = 1
 · have d1 : ((x.natAbs : Nat) : Int) / g = ((x.natAbs : Nat) : Int) := by rw [h, Int.ediv_one]
   have d2 : ((y.natAbs : Nat) : Int) / g = ((y.natAbs : Nat) : Int) := by rw [h, Int.ediv_one]
   rw [d1, d2]
   exact c79a hx hy rfl hg (decide_eq_true h) rfl rfl (by omega) h0 h1
 · refine c79b hx hy rfl hg (decide_eq_false h) rfl rfl (by omega) (by omega) ?_ ?_ (by omega) h0 h1
   · have := Int.ediv_le_self (a := ((x.natAbs : Nat) : Int)) g (by omega); omega
   · have := Int.ediv_le_self (a := ((y.natAbs : Nat) : Int)) g (by omega); omega
theorem c84 {x y : Int} {w : World} (hx : ((x.natAbs : Nat) : Int) ≤ 65535) (hy : ((y.natAbs : Nat) : Int) ≤ 65535) (hy0 : y ≠ 0) : Calls Tryz.prog 84 #[.int .i64 x, .int .i64 y] w (Ret (.k (frq (Rat.divInt x y))) w) := by
 have HX := Lib.hid hx
 have HY := Lib.hid hy
 have HY0 := Lib.hid hy0
 clear hx hy hy0
 have hB0 := Below.refl w.heap.size w
 go_enter Tryz.func84, Tryz.ntmps84
 go_upto_region 0 with fail
 refine rg (n := 9) (t16 := 48) w.heap.size [] [.any] [(0, 4)] [⟨26, some 0, 0, pt, 4, [.c #[.bool false, .slice none 0 0, .bool false, .slice none 0 0]], []⟩] ?ok1 ?st1 ?al1 ?pu1 ?en1
 case ok1 => exact BxOK.fresh rfl hB0.size
 case st1 =>
  intro zi zo ho hro a' u lc W hM
  match zi, ho, hro with
  | 0, _, hro => exact nr1 hro (by kernel_rfl)
  | zk + 1, ho, _ => simp at ho
 case al1 =>
  intro zk zb zi zo hk ha ho a' u lc W hM
  match zk, hk with
  | 0, hk => cases hk; cases ha; cases ho; exact ⟨rfl, rfl, rfl, rfl, kAlloc26 rfl⟩
  | zk + 1, hk => simp at hk
 case pu1 =>
  intro zk zb zs zo hk hs ho a' u lc W zc hM hc hcs
  match zk, hk with
  | 0, hk => cases hk; simp at hs
  | zk + 1, hk => simp at hk
 case en1 =>
  intro u1 lc1 W1 hK1 hB1 hO1 hV1 hX1 hA1
  obtain ⟨qr, ho, hl⟩ := hX1 0 _ rfl
  have e1_0 : u1 0 = .pointer (some ⟨lc1 0, 0, none⟩) := (hl 0 rfl).1
  have g1_0 := (hl 0 rfl).2
  have q1_0 : W1.heap[(lc1 0)]? = some (.cells #[.bool false, .slice none 0 0, .bool false, .slice none 0 0] 26) := by
   exact qr
  simp only [putK, fC, fN, kZ, vA, sI, sZ, sS, e1_0]
  have hBt1 := hB0.trans hB1
  clear hV1 hX1 hA1
  go_upto_region 1 with fail
  refine rg (n := 9) (t16 := 48) w.heap.size [(lc1 0)] [.val (.int .i64 x), .k (num x), .val (.int .i64 y), .k (num y), .k (frq (Rat.divInt x y)), .any] [(0, 5), (1, 6), (2, 7), (3, 8), (4, 9)] [⟨26, none, (lc1 0), pt, 4, [.c #[.bool false, .slice none 0 0, .bool false, .slice none 0 0]], [(5, 0, 4)]⟩] ?ok2 ?st2 ?al2 ?pu2 ?en2
  case ok2 => exact BxOK.one ⟨(Nat.le_trans hB0.size g1_0), ⟨_, q1_0, rfl, rfl, rfl⟩, by simp, (by decide : (26 : Nat) ≠ 48)⟩ rfl hBt1.size
  case st2 =>
   intro zi zo ho hro a' u lc W hM
   match zi, ho, hro with
   | 0, ho, _ => cases ho; exact wn (kMove rfl (hM.ol 0))
   | 1, ho, _ => cases ho; exact wn (kCall1 rfl may48 (hM.d 0 5 rfl) (c48 (by have := HX.out; omega) (by have := HX.out; omega)))
   | 2, ho, _ => cases ho; exact wn (kMove rfl (hM.ol 1))
   | 3, ho, _ => cases ho; exact wn (kCall1 rfl may48 (hM.d 2 7 rfl) (c48 (by have := HY.out; omega) (by have := HY.out; omega)))
   | 4, ho, _ => cases ho; exact wn (kCall2 rfl may79 (hM.v 1 6 rfl) (hM.v 3 8 rfl) (c79q HX.out HY.out HY0.out (hM.kd 1) (hM.kd 3)))
   | 5, _, hro => exact nr1 hro (by kernel_rfl)
   | zk + 6, ho, _ => simp at ho
  case al2 =>
   intro zk zb zi zo hk ha ho a' u lc W hM
   match zk, hk with
   | 0, hk => cases hk; cases ha
   | zk + 1, hk => simp at hk
  case pu2 =>
   intro zk zb zs zo hk hs ho a' u lc W zc hM hc hcs
   match zk, hk with
   | 0, hk =>
    cases hk
    simp only [List.mem_cons, List.not_mem_nil, or_false] at hs
    rcases hs with rfl
    · cases ho
      obtain ⟨sb, sp, sl, sc, sb2, sp2, sl2, sc2, e, _⟩ := (show Is (frq (Rat.divInt x y)) (u 4) W from (hM.kd 4))
      exact kPut rfl e ((hM.ol 4).trans (show _ = Value.pointer (some ⟨lc 0, 0, none⟩) from by rw [show lc 0 = (lc1 0) from hM.locO 0 _ rfl rfl]; rfl)) (hM.v 4 9 rfl) hc hcs sz26
   | zk + 1, hk => simp at hk
  case en2 =>
   intro u2 lc2 W2 hK2 hB2 hO2 hV2 hX2 hA2
   have k2_4 := kk (hV2 4 9 rfl) rfl
   obtain ⟨qr, ho, hl⟩ := hX2 0 _ rfl
   have elc : lc2 0 = (lc1 0) := ho rfl
   rw [elc] at qr
   obtain ⟨x2_5, y2_5, z2_5, c2_5, x22_5, y22_5, z22_5, c22_5, es2_5, sa2_5, sb2_5⟩ := id k2_4
   have sk2_5 : Is (frq (Rat.divInt x y)) (.agg #[.bool x2_5, .slice y2_5 z2_5 c2_5, .bool x22_5, .slice y22_5 z22_5 c22_5]) W2 := by rw [← es2_5]; exact k2_4
   have q2_0 : W2.heap[(lc1 0)]? = some (.cells #[.bool x2_5, .slice y2_5 z2_5 c2_5, .bool x22_5, .slice y22_5 z22_5 c22_5] 26) := by
    rw [contAll_one rfl (cs := #[.bool x2_5, .slice y2_5 z2_5 c2_5, .bool x22_5, .slice y22_5 z22_5 c22_5]) (by rw [es2_5]; rfl) rfl] at qr; exact qr
   simp only [putK, fC, fN, kZ, kS, vV, vK, sI, sZ, sS]
   have hBt2 := hBt1.trans hB2
   clear hV2 hX2 hA2
   have cr0 := cell_of q2_0 0 rfl
   have cr1 := cell_of q2_0 1 rfl
   have cr2 := cell_of q2_0 2 rfl
   have cr3 := cell_of q2_0 3 rfl
   go_wp2
   exact bodyPost_ret (v := .agg #[.bool x2_5, .slice y2_5 z2_5 c2_5, .bool x22_5, .slice y22_5 z22_5 c22_5]) (by simp [results, Tryz.results84, go_sem, cr0, cr1, cr2, cr3]) rfl ⟨_, rfl, sk2_5, hBt2⟩
theorem c22 {x y : Int} {w : World} (hx : ((x.natAbs : Nat) : Int) ≤ 65535) (hy : ((y.natAbs : Nat) : Int) ≤ 65535) (hy0 : y ≠ 0) : Calls Tryz.prog 22 #[.int .i64 x, .int .i64 y] w (Ret (.k (frq (Rat.divInt x y))) w) := by
 have HX := Lib.hid hx
 have HY := Lib.hid hy
 have HY0 := Lib.hid hy0
 clear hx hy hy0
 have hB0 := Below.refl w.heap.size w
 go_enter Tryz.func22, Tryz.ntmps22
 go_upto_region 0 with fail
 refine rg (n := 9) (t16 := 48) w.heap.size [] [.any] [(0, 4)] [⟨26, some 0, 0, pt, 4, [.c #[.bool false, .slice none 0 0, .bool false, .slice none 0 0]], []⟩] ?ok1 ?st1 ?al1 ?pu1 ?en1
 case ok1 => exact BxOK.fresh rfl hB0.size
 case st1 =>
  intro zi zo ho hro a' u lc W hM
  match zi, ho, hro with
  | 0, _, hro => exact nr1 hro (by kernel_rfl)
  | zk + 1, ho, _ => simp at ho
 case al1 =>
  intro zk zb zi zo hk ha ho a' u lc W hM
  match zk, hk with
  | 0, hk => cases hk; cases ha; cases ho; exact ⟨rfl, rfl, rfl, rfl, kAlloc26 rfl⟩
  | zk + 1, hk => simp at hk
 case pu1 =>
  intro zk zb zs zo hk hs ho a' u lc W zc hM hc hcs
  match zk, hk with
  | 0, hk => cases hk; simp at hs
  | zk + 1, hk => simp at hk
 case en1 =>
  intro u1 lc1 W1 hK1 hB1 hO1 hV1 hX1 hA1
  obtain ⟨qr, ho, hl⟩ := hX1 0 _ rfl
  have e1_0 : u1 0 = .pointer (some ⟨lc1 0, 0, none⟩) := (hl 0 rfl).1
  have g1_0 := (hl 0 rfl).2
  have q1_0 : W1.heap[(lc1 0)]? = some (.cells #[.bool false, .slice none 0 0, .bool false, .slice none 0 0] 26) := by
   exact qr
  simp only [putK, fC, fN, kZ, vA, sI, sZ, sS, e1_0]
  have hBt1 := hB0.trans hB1
  clear hV1 hX1 hA1
  go_upto_region 1 with fail
  refine rg (n := 9) (t16 := 48) w.heap.size [(lc1 0)] [.val (.int .i64 x), .val (.int .i64 y), .k (frq (Rat.divInt x y)), .any] [(0, 5), (1, 6), (2, 7)] [⟨26, none, (lc1 0), pt, 4, [.c #[.bool false, .slice none 0 0, .bool false, .slice none 0 0]], [(3, 0, 2)]⟩] ?ok2 ?st2 ?al2 ?pu2 ?en2
  case ok2 => exact BxOK.one ⟨(Nat.le_trans hB0.size g1_0), ⟨_, q1_0, rfl, rfl, rfl⟩, by simp, (by decide : (26 : Nat) ≠ 48)⟩ rfl hBt1.size
  case st2 =>
   intro zi zo ho hro a' u lc W hM
   match zi, ho, hro with
   | 0, ho, _ => cases ho; exact wn (kMove rfl (hM.ol 0))
   | 1, ho, _ => cases ho; exact wn (kMove rfl (hM.ol 1))
   | 2, ho, _ => cases ho; exact wn (kCall2 rfl may84 (hM.d 0 5 rfl) (hM.d 1 6 rfl) (c84 HX.out HY.out HY0.out))
   | 3, _, hro => exact nr1 hro (by kernel_rfl)
   | zk + 4, ho, _ => simp at ho
  case al2 =>
   intro zk zb zi zo hk ha ho a' u lc W hM
   match zk, hk with
   | 0, hk => cases hk; cases ha
   | zk + 1, hk => simp at hk
  case pu2 =>
   intro zk zb zs zo hk hs ho a' u lc W zc hM hc hcs
   match zk, hk with
   | 0, hk =>
    cases hk
    simp only [List.mem_cons, List.not_mem_nil, or_false] at hs
    rcases hs with rfl
    · cases ho
      obtain ⟨sb, sp, sl, sc, sb2, sp2, sl2, sc2, e, _⟩ := (show Is (frq (Rat.divInt x y)) (u 2) W from (hM.kd 2))
      exact kPut rfl e ((hM.ol 4).trans (show _ = Value.pointer (some ⟨lc 0, 0, none⟩) from by rw [show lc 0 = (lc1 0) from hM.locO 0 _ rfl rfl]; rfl)) (hM.v 2 7 rfl) hc hcs sz26
   | zk + 1, hk => simp at hk
  case en2 =>
   intro u2 lc2 W2 hK2 hB2 hO2 hV2 hX2 hA2
   have k2_2 := kk (hV2 2 7 rfl) rfl
   obtain ⟨qr, ho, hl⟩ := hX2 0 _ rfl
   have elc : lc2 0 = (lc1 0) := ho rfl
   rw [elc] at qr
   obtain ⟨x2_3, y2_3, z2_3, c2_3, x22_3, y22_3, z22_3, c22_3, es2_3, sa2_3, sb2_3⟩ := id k2_2
   have sk2_3 : Is (frq (Rat.divInt x y)) (.agg #[.bool x2_3, .slice y2_3 z2_3 c2_3, .bool x22_3, .slice y22_3 z22_3 c22_3]) W2 := by rw [← es2_3]; exact k2_2
   have q2_0 : W2.heap[(lc1 0)]? = some (.cells #[.bool x2_3, .slice y2_3 z2_3 c2_3, .bool x22_3, .slice y22_3 z22_3 c22_3] 26) := by
    rw [contAll_one rfl (cs := #[.bool x2_3, .slice y2_3 z2_3 c2_3, .bool x22_3, .slice y22_3 z22_3 c22_3]) (by rw [es2_3]; rfl) rfl] at qr; exact qr
   simp only [putK, fC, fN, kZ, kS, vV, vK, sI, sZ, sS]
   have hBt2 := hBt1.trans hB2
   clear hV2 hX2 hA2
   have cr0 := cell_of q2_0 0 rfl
   have cr1 := cell_of q2_0 1 rfl
   have cr2 := cell_of q2_0 2 rfl
   have cr3 := cell_of q2_0 3 rfl
   go_wp2
   exact bodyPost_ret (v := .agg #[.bool x2_3, .slice y2_3 z2_3 c2_3, .bool x22_3, .slice y22_3 z22_3 c22_3]) (by simp [results, Tryz.results22, go_sem, cr0, cr1, cr2, cr3]) rfl ⟨_, rfl, sk2_3, hBt2⟩
theorem c47a {x y z u : Int} {t : Bool} {v0 v1 : Value} {w : World} (e1 : decide (x = z) = true) (e2 : decide (y = u) = t) (h0 : Is (fr x y) v0 w) (h1 : Is (fr z u) v1 w) : Calls Tryz.prog 47 #[v0, v1] w (Ret (.val (.bool t)) w) := by
 obtain ⟨ya0, yp0, yl0, yd0, ye0, yq0, ym0, yr0, rfl, yg0, yk0⟩ := id h0
 replace yg0 : Is (num x) (.agg #[.bool ya0, .slice yp0 yl0 yd0]) w := yg0
 replace yk0 : Is (num y) (.agg #[.bool ye0, .slice yq0 ym0 yr0]) w := yk0
 obtain ⟨ya1, yp1, yl1, yd1, ye1, yq1, ym1, yr1, rfl, yg1, yk1⟩ := id h1
 replace yg1 : Is (num z) (.agg #[.bool ya1, .slice yp1 yl1 yd1]) w := yg1
 replace yk1 : Is (num u) (.agg #[.bool ye1, .slice yq1 ym1 yr1]) w := yk1
 have hB0 := Below.refl w.heap.size w
 have E1 := Lib.hid e1
 have E2 := Lib.hid e2
 clear e1 e2
 go_enter Tryz.func47, Tryz.ntmps47
 go_upto_region 0 with fail
 refine rg (n := 9) (t16 := 48) w.heap.size [] [.any, .any, vF] [(0, 2), (1, 3), (2, 4)] [⟨26, some 0, 0, pt, 4, [.c #[.bool ya0, .slice yp0 yl0 yd0, .bool ye0, .slice yq0 ym0 yr0]], []⟩, ⟨26, some 1, 0, pt, 4, [.c #[.bool ya1, .slice yp1 yl1 yd1, .bool ye1, .slice yq1 ym1 yr1]], []⟩] ?ok1 ?st1 ?al1 ?pu1 ?en1
 case ok1 => exact BxOK.fresh rfl hB0.size
 case st1 =>
  intro zi zo ho hro a' u lc W hM
  match zi, ho, hro with
  | 0, _, hro => exact nr1 hro (by kernel_rfl)
  | 1, _, hro => exact nr1 hro (by kernel_rfl)
  | 2, ho, _ => cases ho; exact wn (kAssign rfl rfl)
  | zk + 3, ho, _ => simp at ho
 case al1 =>
  intro zk zb zi zo hk ha ho a' u lc W hM
  match zk, hk with
  | 0, hk => cases hk; cases ha; cases ho; exact ⟨rfl, rfl, rfl, rfl, kBox rfl (hM.ol 0)⟩
  | 1, hk => cases hk; cases ha; cases ho; exact ⟨rfl, rfl, rfl, rfl, kBox rfl (hM.ol 1)⟩
  | zk + 2, hk => simp at hk
 case pu1 =>
  intro zk zb zs zo hk hs ho a' u lc W zc hM hc hcs
  match zk, hk with
  | 0, hk => cases hk; simp at hs
  | 1, hk => cases hk; simp at hs
  | zk + 2, hk => simp at hk
 case en1 =>
  intro u1 lc1 W1 hK1 hB1 hO1 hV1 hX1 hA1
  obtain ⟨qr, ho, hl⟩ := hX1 0 _ rfl
  have e1_0 : u1 0 = .pointer (some ⟨lc1 0, 0, none⟩) := (hl 0 rfl).1
  have g1_0 := (hl 0 rfl).2
  have f1_1 := yg0.kept hK1
  have f1_2 := yk0.kept hK1
  have q1_0 : W1.heap[(lc1 0)]? = some (.cells #[.bool ya0, .slice yp0 yl0 yd0, .bool ye0, .slice yq0 ym0 yr0] 26) := by
   exact qr
  obtain ⟨qr, ho, hl⟩ := hX1 1 _ rfl
  have e1_1 : u1 1 = .pointer (some ⟨lc1 1, 0, none⟩) := (hl 1 rfl).1
  have g1_1 := (hl 1 rfl).2
  have f1_4 := yg1.kept hK1
  have f1_5 := yk1.kept hK1
  have q1_1 : W1.heap[(lc1 1)]? = some (.cells #[.bool ya1, .slice yp1 yl1 yd1, .bool ye1, .slice yq1 ym1 yr1] 26) := by
   exact qr
  simp only [putK, fC, fN, kZ, kS, vV, vA, sI, sZ, sS, e1_0, e1_1]
  have hBt1 := hB0.trans hB1
  clear hV1 hX1 hA1
  go_upto_region 1 with fail
  refine rg0 (n := 9) (t16 := 48) w.heap.size [.val (.pointer (some ⟨(lc1 0), 0, none⟩)), .val (.agg #[.bool ya0, .slice yp0 yl0 yd0]), .val (.pointer (some ⟨(lc1 1), 0, none⟩)), .val (.agg #[.bool ya1, .slice yp1 yl1 yd1]), vT, vT, .val (.pointer (some ⟨(lc1 0), 2, none⟩)), .val (.agg #[.bool ye0, .slice yq0 ym0 yr0]), .val (.pointer (some ⟨(lc1 1), 2, none⟩)), .val (.agg #[.bool ye1, .slice yq1 ym1 yr1]), .val (.bool t), .val (.bool t), .val (.bool t)] [(0, 5), (1, 6), (2, 7), (3, 8), (4, 9), (5, 10), (6, 11), (7, 12), (8, 13), (9, 14), (10, 15), (11, 16), (12, 4)] hBt1.size ?st2 ?en2
  case st2 =>
   intro zi zo ho hro a' u lc W hM
   match zi, ho, hro with
   | 0, ho, _ => cases ho; exact wn (kField26_0 rfl (hM.ol 2))
   | 1, ho, _ => cases ho; exact wn (kL24 rfl (hM.d 0 5 rfl) (hM.o0 q1_0) rfl)
   | 2, ho, _ => cases ho; exact wn (kField26_0 rfl (hM.ol 3))
   | 3, ho, _ => cases ho; exact wn (kL24 rfl (hM.d 2 7 rfl) (hM.o0 q1_1) rfl)
   | 4, ho, _ => cases ho; exact wn (kCall2 rfl may63 (hM.d 1 6 rfl) (hM.d 3 8 rfl) (c63 E1.out (f1_1.kept hM.kept) (f1_4.kept hM.kept)))
   | 5, ho, _ => cases ho; exact wn (kMove rfl (hM.d 4 9 rfl))
   | 6, ho, _ => cases ho; exact hM.wg (hM.d 5 10 rfl) (kField26_1 rfl (hM.ol 2))
   | 7, ho, _ => cases ho; exact hM.wg (hM.d 5 10 rfl) (kL24 rfl (hM.d 6 11 rfl) (hM.o0 q1_0) rfl)
   | 8, ho, _ => cases ho; exact hM.wg (hM.d 5 10 rfl) (kField26_1 rfl (hM.ol 3))
   | 9, ho, _ => cases ho; exact hM.wg (hM.d 5 10 rfl) (kL24 rfl (hM.d 8 13 rfl) (hM.o0 q1_1) rfl)
   | 10, ho, _ => cases ho; exact hM.wg (hM.d 5 10 rfl) (kCall2 rfl may63 (hM.d 7 12 rfl) (hM.d 9 14 rfl) (c63 E2.out (f1_2.kept hM.kept) (f1_5.kept hM.kept)))
   | 11, ho, _ => cases ho; exact wn (kPick rfl (hM.d 5 10 rfl) (hM.d 10 15 rfl))
   | 12, ho, _ => cases ho; exact wn (kAssign rfl (hM.d 11 16 rfl))
   | zk + 13, ho, _ => simp at ho
  case en2 =>
   intro u2 lc2 W2 hK2 hB2 hO2 hV2 hX2 hA2
   simp only [putK, fC, fN, kZ, kS, vV, sI, sZ, sS]
   have hBt2 := hBt1.trans hB2
   clear hV2 hX2 hA2
   go_wp2
   exact bodyPost_ret (v := .bool t) (by simp [results, Tryz.results47, go_sem]) rfl ⟨_, rfl, rfl, hBt2⟩
theorem c47b {x y z u : Int} {v0 v1 : Value} {w : World} (e1 : decide (x = z) = false) (h0 : Is (fr x y) v0 w) (h1 : Is (fr z u) v1 w) : Calls Tryz.prog 47 #[v0, v1] w (Ret (.val (.bool false)) w) := by
 obtain ⟨ya0, yp0, yl0, yd0, ye0, yq0, ym0, yr0, rfl, yg0, yk0⟩ := id h0
 replace yg0 : Is (num x) (.agg #[.bool ya0, .slice yp0 yl0 yd0]) w := yg0
 replace yk0 : Is (num y) (.agg #[.bool ye0, .slice yq0 ym0 yr0]) w := yk0
 obtain ⟨ya1, yp1, yl1, yd1, ye1, yq1, ym1, yr1, rfl, yg1, yk1⟩ := id h1
 replace yg1 : Is (num z) (.agg #[.bool ya1, .slice yp1 yl1 yd1]) w := yg1
 replace yk1 : Is (num u) (.agg #[.bool ye1, .slice yq1 ym1 yr1]) w := yk1
 have hB0 := Below.refl w.heap.size w
 have E1 := Lib.hid e1
 clear e1
 go_enter Tryz.func47, Tryz.ntmps47
 go_upto_region 0 with fail
 refine rg (n := 9) (t16 := 48) w.heap.size [] [.any, .any, vF] [(0, 2), (1, 3), (2, 4)] [⟨26, some 0, 0, pt, 4, [.c #[.bool ya0, .slice yp0 yl0 yd0, .bool ye0, .slice yq0 ym0 yr0]], []⟩, ⟨26, some 1, 0, pt, 4, [.c #[.bool ya1, .slice yp1 yl1 yd1, .bool ye1, .slice yq1 ym1 yr1]], []⟩] ?ok1 ?st1 ?al1 ?pu1 ?en1
 case ok1 => exact BxOK.fresh rfl hB0.size
 case st1 =>
  intro zi zo ho hro a' u lc W hM
  match zi, ho, hro with
  | 0, _, hro => exact nr1 hro (by kernel_rfl)
  | 1, _, hro => exact nr1 hro (by kernel_rfl)
  | 2, ho, _ => cases ho; exact wn (kAssign rfl rfl)
  | zk + 3, ho, _ => simp at ho
 case al1 =>
  intro zk zb zi zo hk ha ho a' u lc W hM
  match zk, hk with
  | 0, hk => cases hk; cases ha; cases ho; exact ⟨rfl, rfl, rfl, rfl, kBox rfl (hM.ol 0)⟩
  | 1, hk => cases hk; cases ha; cases ho; exact ⟨rfl, rfl, rfl, rfl, kBox rfl (hM.ol 1)⟩
  | zk + 2, hk => simp at hk
 case pu1 =>
  intro zk zb zs zo hk hs ho a' u lc W zc hM hc hcs
  match zk, hk with
  | 0, hk => cases hk; simp at hs
  | 1, hk => cases hk; simp at hs
  | zk + 2, hk => simp at hk
 case en1 =>
  intro u1 lc1 W1 hK1 hB1 hO1 hV1 hX1 hA1
  obtain ⟨qr, ho, hl⟩ := hX1 0 _ rfl
  have e1_0 : u1 0 = .pointer (some ⟨lc1 0, 0, none⟩) := (hl 0 rfl).1
  have g1_0 := (hl 0 rfl).2
  have f1_1 := yg0.kept hK1
  have q1_0 : W1.heap[(lc1 0)]? = some (.cells #[.bool ya0, .slice yp0 yl0 yd0, .bool ye0, .slice yq0 ym0 yr0] 26) := by
   exact qr
  obtain ⟨qr, ho, hl⟩ := hX1 1 _ rfl
  have e1_1 : u1 1 = .pointer (some ⟨lc1 1, 0, none⟩) := (hl 1 rfl).1
  have g1_1 := (hl 1 rfl).2
  have f1_4 := yg1.kept hK1
  have q1_1 : W1.heap[(lc1 1)]? = some (.cells #[.bool ya1, .slice yp1 yl1 yd1, .bool ye1, .slice yq1 ym1 yr1] 26) := by
   exact qr
  simp only [putK, fC, fN, kZ, kS, vV, vA, sI, sZ, sS, e1_0, e1_1]
  have hBt1 := hB0.trans hB1
  clear hV1 hX1 hA1
  go_upto_region 1 with fail
  refine rg0 (n := 9) (t16 := 48) w.heap.size [.val (.pointer (some ⟨(lc1 0), 0, none⟩)), .val (.agg #[.bool ya0, .slice yp0 yl0 yd0]), .val (.pointer (some ⟨(lc1 1), 0, none⟩)), .val (.agg #[.bool ya1, .slice yp1 yl1 yd1]), vF, vF, .any, .any, .any, .any, .any, vF, vF] [(0, 5), (1, 6), (2, 7), (3, 8), (4, 9), (5, 10), (6, 11), (7, 12), (8, 13), (9, 14), (10, 15), (11, 16), (12, 4)] hBt1.size ?st2 ?en2
  case st2 =>
   intro zi zo ho hro a' u lc W hM
   match zi, ho, hro with
   | 0, ho, _ => cases ho; exact wn (kField26_0 rfl (hM.ol 2))
   | 1, ho, _ => cases ho; exact wn (kL24 rfl (hM.d 0 5 rfl) (hM.o0 q1_0) rfl)
   | 2, ho, _ => cases ho; exact wn (kField26_0 rfl (hM.ol 3))
   | 3, ho, _ => cases ho; exact wn (kL24 rfl (hM.d 2 7 rfl) (hM.o0 q1_1) rfl)
   | 4, ho, _ => cases ho; exact wn (kCall2 rfl may63 (hM.d 1 6 rfl) (hM.d 3 8 rfl) (c63 E1.out (f1_1.kept hM.kept) (f1_4.kept hM.kept)))
   | 5, ho, _ => cases ho; exact wn (kMove rfl (hM.d 4 9 rfl))
   | 6, ho, _ => cases ho; exact hM.wz (hM.d 5 10 rfl)
   | 7, ho, _ => cases ho; exact hM.wz (hM.d 5 10 rfl)
   | 8, ho, _ => cases ho; exact hM.wz (hM.d 5 10 rfl)
   | 9, ho, _ => cases ho; exact hM.wz (hM.d 5 10 rfl)
   | 10, ho, _ => cases ho; exact hM.wz (hM.d 5 10 rfl)
   | 11, ho, _ => cases ho; exact wn (kPick rfl (hM.d 5 10 rfl) rfl)
   | 12, ho, _ => cases ho; exact wn (kAssign rfl (hM.d 11 16 rfl))
   | zk + 13, ho, _ => simp at ho
  case en2 =>
   intro u2 lc2 W2 hK2 hB2 hO2 hV2 hX2 hA2
   simp only [putK, fC, fN, kZ, kS, vV, vA, sI, sZ, sS]
   have hBt2 := hBt1.trans hB2
   clear hV2 hX2 hA2
   go_wp2
   exact bodyPost_ret (v := .bool false) (by simp [results, Tryz.results47, go_sem]) rfl ⟨_, rfl, rfl, hBt2⟩
theorem rat_ext' {p q : Rat} (h1 : p.num = q.num) (h2 : (p.den : Int) = (q.den : Int)) : p = q := Rat.ext h1 (by omega)
theorem c47q {p q : Rat} {t : Bool} {v0 v1 : Value} {w : World} (ht : decide (p = q) = t) (h0 : Is (frq p) v0 w) (h1 : Is (frq q) v1 w) : Calls Tryz.prog 47 #[v0, v1] w (Ret (.val (.bool t)) w) := by
 by_cases e : p.num = q.num
 · refine c47a (decide_eq_true e) ?_ h0 h1
   rw [← ht]
   exact decide_eq_decide.2 ⟨fun h2 => rat_ext' e h2, fun h => by rw [h]⟩
 · have hf : t = false := by rw [← ht]; exact decide_eq_false (fun h => e (by rw [h]))
   subst hf
   exact c47b (decide_eq_false e) h0 h1
theorem c42 {r : Rat} {x y : Int} {t : Bool} {v0 : Value} {w : World} (hx : ((x.natAbs : Nat) : Int) ≤ 65535) (hy : ((y.natAbs : Nat) : Int) ≤ 65535) (hy0 : y ≠ 0) (ht : decide (r = Rat.divInt x y) = t) (h0 : Is (frq r) v0 w) : Calls Tryz.prog 42 #[v0, .int .i64 0, .int .i64 x, .int .i64 y] w (Ret (.val (.bool t)) w) := by
 obtain ⟨ya0, yp0, yl0, yd0, ye0, yq0, ym0, yr0, rfl, yg0, yk0⟩ := id h0
 replace yg0 : Is (num r.num) (.agg #[.bool ya0, .slice yp0 yl0 yd0]) w := yg0
 replace yk0 : Is (num ((r.den : Nat) : Int)) (.agg #[.bool ye0, .slice yq0 ym0 yr0]) w := yk0
 have hB0 := Below.refl w.heap.size w
 have HX := Lib.hid hx
 have HY := Lib.hid hy
 have HY0 := Lib.hid hy0
 have HT := Lib.hid ht
 clear hx hy hy0 ht
 go_enter Tryz.func42, Tryz.ntmps42
 go_upto_region 0 with fail
 refine rg (n := 9) (t16 := 48) w.heap.size [] [.any, vF] [(0, 4), (1, 8)] [⟨26, some 0, 0, pt, 4, [.c #[.bool ya0, .slice yp0 yl0 yd0, .bool ye0, .slice yq0 ym0 yr0]], []⟩] ?ok1 ?st1 ?al1 ?pu1 ?en1
 case ok1 => exact BxOK.fresh rfl hB0.size
 case st1 =>
  intro zi zo ho hro a' u lc W hM
  match zi, ho, hro with
  | 0, _, hro => exact nr1 hro (by kernel_rfl)
  | 1, ho, _ => cases ho; exact wn (kAssign rfl rfl)
  | zk + 2, ho, _ => simp at ho
 case al1 =>
  intro zk zb zi zo hk ha ho a' u lc W hM
  match zk, hk with
  | 0, hk => cases hk; cases ha; cases ho; exact ⟨rfl, rfl, rfl, rfl, kBox rfl (hM.ol 0)⟩
  | zk + 1, hk => simp at hk
 case pu1 =>
  intro zk zb zs zo hk hs ho a' u lc W zc hM hc hcs
  match zk, hk with
  | 0, hk => cases hk; simp at hs
  | zk + 1, hk => simp at hk
 case en1 =>
  intro u1 lc1 W1 hK1 hB1 hO1 hV1 hX1 hA1
  obtain ⟨qr, ho, hl⟩ := hX1 0 _ rfl
  have e1_0 : u1 0 = .pointer (some ⟨lc1 0, 0, none⟩) := (hl 0 rfl).1
  have g1_0 := (hl 0 rfl).2
  have f1_0 := h0.kept hK1
  have q1_0 : W1.heap[(lc1 0)]? = some (.cells #[.bool ya0, .slice yp0 yl0 yd0, .bool ye0, .slice yq0 ym0 yr0] 26) := by
   exact qr
  simp only [putK, fC, fN, kZ, kS, vV, vA, sI, sZ, sS, e1_0]
  have hBt1 := hB0.trans hB1
  clear hV1 hX1 hA1
  go_upto_region 1 with fail
  refine rg0 (n := 9) (t16 := 48) w.heap.size [vZ, vT, vT, .val (.agg #[.bool ya0, .slice yp0 yl0 yd0, .bool ye0, .slice yq0 ym0 yr0]), .val (.int .i64 x), .val (.int .i64 y), .k (frq (Rat.divInt x y)), .val (.bool t), .val (.bool t), .val (.bool t)] [(0, 9), (1, 10), (2, 11), (3, 12), (4, 13), (5, 14), (6, 15), (7, 16), (8, 17), (9, 8)] hBt1.size ?st2 ?en2
  case st2 =>
   intro zi zo ho hro a' u lc W hM
   match zi, ho, hro with
   | 0, ho, _ => cases ho; exact wn (kMove rfl (hM.ol 1))
   | 1, ho, _ => cases ho; exact wn (kEql29 rfl (hM.d 0 9 rfl) rfl (by decide))
   | 2, ho, _ => cases ho; exact wn (kMove rfl (hM.d 1 10 rfl))
   | 3, ho, _ => cases ho; exact hM.wg (hM.d 2 11 rfl) (kL26 rfl (hM.ol 4) (hM.o0 q1_0))
   | 4, ho, _ => cases ho; exact hM.wg (hM.d 2 11 rfl) (kMove rfl (hM.ol 2))
   | 5, ho, _ => cases ho; exact hM.wg (hM.d 2 11 rfl) (kMove rfl (hM.ol 3))
   | 6, ho, _ => cases ho; exact hM.wg (hM.d 2 11 rfl) (kCall2 rfl may22 (hM.d 4 13 rfl) (hM.d 5 14 rfl) (c22 HX.out HY.out HY0.out))
   | 7, ho, _ => cases ho; exact hM.wg (hM.d 2 11 rfl) (kCall2 rfl may47 (hM.d 3 12 rfl) (hM.v 6 15 rfl) (c47q HT.out (f1_0.kept hM.kept) (hM.kd 6)))
   | 8, ho, _ => cases ho; exact wn (kPick rfl (hM.d 2 11 rfl) (hM.d 7 16 rfl))
   | 9, ho, _ => cases ho; exact wn (kAssign rfl (hM.d 8 17 rfl))
   | zk + 10, ho, _ => simp at ho
  case en2 =>
   intro u2 lc2 W2 hK2 hB2 hO2 hV2 hX2 hA2
   simp only [putK, fC, fN, kZ, kS, vV, vK, sI, sZ, sS]
   have hBt2 := hBt1.trans hB2
   clear hV2 hX2 hA2
   go_wp2
   exact bodyPost_ret (v := .bool t) (by simp [results, Tryz.results42, go_sem]) rfl ⟨_, rfl, rfl, hBt2⟩
end Go.Proofs.YtihdbjilolmfiaaGreatDoor
