import Derived.Test.YtihdbjilolmfiaaGreatDoorD26
import Derived.Test.YtihdbjilolmfiaaGreatDoorD01
set_option maxRecDepth 100000
set_option maxHeartbeats 4000000
namespace Go.Proofs.YtihdbjilolmfiaaGreatDoor
open Go.RowKit Go.WM Go.WR
attribute [local go_sem] Oper.semAt_some
theorem pow_parts (b : Rat) (k : Nat) : (b ^ k).num = b.num ^ k ∧ ((b ^ k).den : Int) = (b.den : Int) ^ k := ⟨Rat.num_pow b k, by rw [Rat.den_pow]; simp⟩
theorem c23b {r b : Rat} {n : Int} {m : Nat} {v0 : Value} {w : World} (hr : Fs r) (hz : decide (r.num = 0) = false) (hn : n = -((m : Nat) : Int)) (hm1 : 1 ≤ m) (hm : m ≤ 4096) (hr0 : r ≠ 0) (hinv : r⁻¹ = b) (hbz : decide (b.num = 0) = false) (hb1 : decide ((b.den : Int) = 1) = false) (hf : ∀ k, k ≤ m → Fs (b ^ k)) (h0 : Is (frq r) v0 w) : Calls Tryz.prog 23 #[v0, .int .i64 n] w (Ret (.k (tup2 (.k (frq (b ^ m))) (.val (.int .i64 0)))) w) := by
 obtain ⟨ya0, yp0, yl0, yd0, ye0, yq0, ym0, yr0, rfl, yg0, yk0⟩ := id h0
 replace yg0 : Is (num r.num) (.agg #[.bool ya0, .slice yp0 yl0 yd0]) w := yg0
 replace yk0 : Is (num ((r.den : Nat) : Int)) (.agg #[.bool ye0, .slice yq0 ym0 yr0]) w := yk0
 subst hn
 have hu : IntKind.u64.wrap (-IntKind.u64.wrap (-((m : Nat) : Int))) = ((m : Nat) : Int) := by rw [IntKind.wrap_u64, IntKind.wrap_u64]; omega
 have HR := Lib.hid hr
 have HZ := Lib.hid hz
 have HBZ := Lib.hid hbz
 have HB1 := Lib.hid hb1
 have HF := Lib.hid hf
 have HINV := Lib.hid hinv
 clear hr hz hbz hb1 hf hinv
 have HR0 := Lib.hid hr0
 clear hr0
 have hB0 := Below.refl w.heap.size w
 go_enter Tryz.func23, Tryz.ntmps23
 go_upto_region 0 with fail
 refine rg (n := 9) (t16 := 48) w.heap.size [] [.any, .any, vZ] [(0, 2), (1, 4), (2, 5)] [⟨26, some 0, 0, pt, 4, [.c #[.bool ya0, .slice yp0 yl0 yd0, .bool ye0, .slice yq0 ym0 yr0]], []⟩, ⟨26, some 1, 0, pt, 4, [.c #[.bool false, .slice none 0 0, .bool false, .slice none 0 0]], []⟩] ?ok1 ?st1 ?al1 ?pu1 ?en1
 case ok1 => exact BxOK.fresh rfl hB0.size
 case st1 =>
  intro zi zo ho hro a' u lc W hM
  match zi, ho, hro with
  | 0, _, hro => exact nr1 hro (by kernel_rfl)
  | 1, _, hro => exact nr1 hro (by kernel_rfl)
  | 2, ho, _ => cases ho; exact wn (kAssign rfl rfl)
  | zk + 3, ho, _ => simp at ho
 case al1 =>
  intro zk zb zi zo hk ha ho a' u lc W hM
  match zk, hk with
  | 0, hk => cases hk; cases ha; cases ho; exact ⟨rfl, rfl, rfl, rfl, kBox rfl (hM.ol 0)⟩
  | 1, hk => cases hk; cases ha; cases ho; exact ⟨rfl, rfl, rfl, rfl, kAlloc26 rfl⟩
  | zk + 2, hk => simp at hk
 case pu1 =>
  intro zk zb zs zo hk hs ho a' u lc W zc hM hc hcs
  match zk, hk with
  | 0, hk => cases hk; simp at hs
  | 1, hk => cases hk; simp at hs
  | zk + 2, hk => simp at hk
 case en1 =>
  intro u1 lc1 W1 hK1 hB1 hO1 hV1 hX1 hA1
  obtain ⟨qr, ho, hl⟩ := hX1 0 _ rfl
  have e1_0 : u1 0 = .pointer (some ⟨lc1 0, 0, none⟩) := (hl 0 rfl).1
  have g1_0 := (hl 0 rfl).2
  have f1_0 := h0.kept hK1
  have q1_0 : W1.heap[(lc1 0)]? = some (.cells #[.bool ya0, .slice yp0 yl0 yd0, .bool ye0, .slice yq0 ym0 yr0] 26) := by
   exact qr
  obtain ⟨qr, ho, hl⟩ := hX1 1 _ rfl
  have e1_1 : u1 1 = .pointer (some ⟨lc1 1, 0, none⟩) := (hl 1 rfl).1
  have g1_1 := (hl 1 rfl).2
  have q1_1 : W1.heap[(lc1 1)]? = some (.cells #[.bool false, .slice none 0 0, .bool false, .slice none 0 0] 26) := by
   exact qr
  have ne1_0_1 := hA1 0 1 _ _ rfl rfl (by decide)
  simp only [putK, fC, fN, kZ, kS, vV, vA, sI, sZ, sS, e1_0, e1_1]
  have hBt1 := hB0.trans hB1
  clear hV1 hX1 hA1
  go_upto_region 1 with fail
  refine rg (n := 9) (t16 := 48) w.heap.size [] [.val (.agg #[.bool ya0, .slice yp0 yl0 yd0, .bool ye0, .slice yq0 ym0 yr0]), .val (.agg #[.bool ya0, .slice yp0 yl0 yd0, .bool ye0, .slice yq0 ym0 yr0]), .any, .any] [(0, 10), (1, 11), (2, 6)] [⟨73, some 2, 0, pt, 4, [.c #[.bool false, .slice none 0 0, .bool false, .slice none 0 0]], [(3, 0, 1)]⟩] ?ok2 ?st2 ?al2 ?pu2 ?en2
  case ok2 => exact BxOK.fresh rfl hBt1.size
  case st2 =>
   intro zi zo ho hro a' u lc W hM
   match zi, ho, hro with
   | 0, ho, _ => cases ho; exact wn (kL26 rfl (hM.ol 2) (hM.o0 q1_0))
   | 1, ho, _ => cases ho; exact wn (kBuild73 rfl (hM.d 0 10 rfl) rfl)
   | 2, _, hro => exact nr1 hro (by kernel_rfl)
   | 3, _, hro => exact nr1 hro (by kernel_rfl)
   | zk + 4, ho, _ => simp at ho
  case al2 =>
   intro zk zb zi zo hk ha ho a' u lc W hM
   match zk, hk with
   | 0, hk => cases hk; cases ha; cases ho; exact ⟨rfl, rfl, rfl, rfl, kAlloc73 rfl⟩
   | zk + 1, hk => simp at hk
  case pu2 =>
   intro zk zb zs zo hk hs ho a' u lc W zc hM hc hcs
   match zk, hk with
   | 0, hk =>
    cases hk
    simp only [List.mem_cons, List.not_mem_nil, or_false] at hs
    rcases hs with rfl
    · cases ho
      have e : u 1 = .agg #[.bool ya0, .slice yp0 yl0 yd0, .bool ye0, .slice yq0 ym0 yr0] := hM.kd 1
      exact kPut rfl e ((hM.v 2 6 rfl).trans (hM.loc 0 _ 2 rfl rfl (by kernel_rfl))) (hM.v 1 11 rfl) hc hcs sz73
   | zk + 1, hk => simp at hk
  case en2 =>
   intro u2 lc2 W2 hK2 hB2 hO2 hV2 hX2 hA2
   have e2_0 := kv (hV2 0 10 rfl) rfl
   have e2_1 := kv (hV2 1 11 rfl) rfl
   obtain ⟨qr, ho, hl⟩ := hX2 0 _ rfl
   have e2_2 : u2 2 = .pointer (some ⟨lc2 0, 0, none⟩) := (hl 2 rfl).1
   have g2_0 := (hl 2 rfl).2
   have f2_0 := f1_0.kept hK2
   have q2_0 : W2.heap[(lc2 0)]? = some (.cells #[.bool ya0, .slice yp0 yl0 yd0, .bool ye0, .slice yq0 ym0 yr0] 73) := by
    rw [contAll_one rfl (cs := #[.bool ya0, .slice yp0 yl0 yd0, .bool ye0, .slice yq0 ym0 yr0]) (by rw [e2_1]; rfl) rfl] at qr; exact qr
   have ne2_0_1_0 := Nat.ne_of_lt (Nat.lt_of_lt_of_le (Array.getElem?_eq_some_iff.1 q1_0).1 g2_0)
   have ne2_0_1_1 := Nat.ne_of_lt (Nat.lt_of_lt_of_le (Array.getElem?_eq_some_iff.1 q1_1).1 g2_0)
   have q2_1_0 := oth0 hO2 q1_0
   have q2_1_1 := oth0 hO2 q1_1
   simp only [putK, fC, fN, kZ, kS, vV, vA, sI, sZ, sS, e2_2]
   have hBt2 := hBt1.trans hB2
   clear hV2 hX2 hA2
   go_upto_region 2 with fail
   refine rg0 (n := 9) (t16 := 48) w.heap.size [.val (.agg #[.bool ya0, .slice yp0 yl0 yd0, .bool ye0, .slice yq0 ym0 yr0]), vT, vF, vF] [(0, 13), (1, 14), (2, 15), (3, 12)] hBt2.size ?st3 ?en3
   case st3 =>
    intro zi zo ho hro a' u lc W hM
    match zi, ho, hro with
    | 0, ho, _ => cases ho; exact wn (kL26 rfl (hM.ol 2) (hM.o0 q2_1_0))
    | 1, ho, _ => cases ho; exact wn (kCall1 rfl may44 (hM.d 0 13 rfl) (c44_ok HR.out (f2_0.kept hM.kept)))
    | 2, ho, _ => cases ho; exact wn (kNot rfl (hM.d 1 14 rfl) rfl)
    | 3, ho, _ => cases ho; exact wn (kAssign rfl (hM.d 2 15 rfl))
    | zk + 4, ho, _ => simp at ho
   case en3 =>
    intro u3 lc3 W3 hK3 hB3 hO3 hV3 hX3 hA3
    have q3_1_0 := oth0 hO3 q2_1_0
    have f3_0 := f2_0.kept hK3
    have q3_1_1 := oth0 hO3 q2_1_1
    have q3_2_0 := oth0 hO3 q2_0
    simp only [putK, fC, fN, kZ, kS, vV, sI, sZ, sS]
    have hBt3 := hBt2.trans hB3
    clear hV3 hX3 hA3
    go_upto_region 4 with fail
    refine rg0 (n := 9) (t16 := 48) w.heap.size [.val (.agg #[.bool ya0, .slice yp0 yl0 yd0, .bool ye0, .slice yq0 ym0 yr0]), vF, vF, .any, .any, vF, vF] [(0, 18), (1, 19), (2, 20), (3, 21), (4, 22), (5, 23), (6, 17)] hBt3.size ?st4 ?en4
    case st4 =>
     intro zi zo ho hro a' u lc W hM
     match zi, ho, hro with
     | 0, ho, _ => cases ho; exact wn (kLoad (rs := [.bool ya0, .slice yp0 yl0 yd0, .bool ye0, .slice yq0 ym0 yr0]) Tryz.underlying73 rfl sz73 rfl (hM.ol 6) (hM.o0 q3_2_0) rfl rfl)
     | 1, ho, _ => cases ho; exact wn (kCall1 rfl may66 (hM.d 0 18 rfl) (c66 HZ.out (f3_0.kept hM.kept)))
     | 2, ho, _ => cases ho; exact wn (kMove rfl (hM.d 1 19 rfl))
     | 3, ho, _ => cases ho; exact hM.wz (hM.d 2 20 rfl)
     | 4, ho, _ => cases ho; exact hM.wz (hM.d 2 20 rfl)
     | 5, ho, _ => cases ho; exact wn (kPick rfl (hM.d 2 20 rfl) rfl)
     | 6, ho, _ => cases ho; exact wn (kAssign rfl (hM.d 5 23 rfl))
     | zk + 7, ho, _ => simp at ho
    case en4 =>
     intro u4 lc4 W4 hK4 hB4 hO4 hV4 hX4 hA4
     have q4_1_0 := oth0 hO4 q3_1_0
     have f4_0 := f3_0.kept hK4
     have q4_1_1 := oth0 hO4 q3_1_1
     have q4_2_0 := oth0 hO4 q3_2_0
     simp only [putK, fC, fN, kZ, kS, vV, vA, sI, sZ, sS]
     have hBt4 := hBt3.trans hB4
     clear hV4 hX4 hA4
     go_upto_region 9 with fail
     refine rg (n := 9) (t16 := 48) w.heap.size [(lc2 0)] [.val (.agg #[.bool ya0, .slice yp0 yl0 yd0, .bool ye0, .slice yq0 ym0 yr0]), .k (frq b), .any] [(0, 31), (1, 32)] [⟨73, none, (lc2 0), pt, 4, [.c #[.bool ya0, .slice yp0 yl0 yd0, .bool ye0, .slice yq0 ym0 yr0]], [(2, 0, 1)]⟩] ?ok5 ?st5 ?al5 ?pu5 ?en5
     case ok5 => exact BxOK.one ⟨(Nat.le_trans hBt1.size g2_0), ⟨_, q4_2_0, rfl, rfl, rfl⟩, by simp, (by decide : (73 : Nat) ≠ 48)⟩ rfl hBt4.size
     case st5 =>
      intro zi zo ho hro a' u lc W hM
      match zi, ho, hro with
      | 0, ho, _ => cases ho; exact wn (kLoad (rs := [.bool ya0, .slice yp0 yl0 yd0, .bool ye0, .slice yq0 ym0 yr0]) Tryz.underlying73 rfl sz73 rfl (hM.ol 6) (show W.heap[(lc2 0)]? = some (.cells #[.bool ya0, .slice yp0 yl0 yd0, .bool ye0, .slice yq0 ym0 yr0] 73) from by rw [← (show lc 0 = (lc2 0) from hM.locO 0 _ rfl rfl)]; exact hM.fresh 0 _ rfl (by kernel_rfl) (by kernel_rfl)) rfl rfl)
      | 1, ho, _ => cases ho; exact wn (kCall1 rfl may85 (hM.d 0 31 rfl) ((by rw [← HINV.out]; exact c85q HR0.out (f4_0.kept hM.kept))))
      | 2, _, hro => exact nr1 hro (by kernel_rfl)
      | zk + 3, ho, _ => simp at ho
     case al5 =>
      intro zk zb zi zo hk ha ho a' u lc W hM
      match zk, hk with
      | 0, hk => cases hk; cases ha
      | zk + 1, hk => simp at hk
     case pu5 =>
      intro zk zb zs zo hk hs ho a' u lc W zc hM hc hcs
      match zk, hk with
      | 0, hk =>
       cases hk
       simp only [List.mem_cons, List.not_mem_nil, or_false] at hs
       rcases hs with rfl
       · cases ho
         obtain ⟨sb, sp, sl, sc, sb2, sp2, sl2, sc2, e, _⟩ := (show Is (frq b) (u 1) W from (hM.kd 1))
         exact kPut rfl e ((hM.ol 6).trans (show _ = Value.pointer (some ⟨lc 0, 0, none⟩) from by rw [show lc 0 = (lc2 0) from hM.locO 0 _ rfl rfl] <;> rfl)) (hM.v 1 32 rfl) hc hcs sz73
      | zk + 1, hk => simp at hk
     case en5 =>
      intro u5 lc5 W5 hK5 hB5 hO5 hV5 hX5 hA5
      have k5_1 := kk (hV5 1 32 rfl) rfl
      obtain ⟨qr, ho, hl⟩ := hX5 0 _ rfl
      have elc : lc5 0 = (lc2 0) := ho rfl
      rw [elc] at qr
      obtain ⟨x5_2, y5_2, z5_2, c5_2, x25_2, y25_2, z25_2, c25_2, es5_2, sa5_2, sb5_2⟩ := id k5_1
      have sk5_2 : Is (frq b) (.agg #[.bool x5_2, .slice y5_2 z5_2 c5_2, .bool x25_2, .slice y25_2 z25_2 c25_2]) W5 := by rw [← es5_2]; exact k5_1
      replace sb5_2 : Is (num ((b.den : Nat) : Int)) (.agg #[.bool x25_2, .slice y25_2 z25_2 c25_2]) W5 := sb5_2
      have q5_0 : W5.heap[(lc2 0)]? = some (.cells #[.bool x5_2, .slice y5_2 z5_2 c5_2, .bool x25_2, .slice y25_2 z25_2 c25_2] 73) := by
       rw [contAll_one rfl (cs := #[.bool x5_2, .slice y5_2 z5_2 c5_2, .bool x25_2, .slice y25_2 z25_2 c25_2]) (by rw [es5_2]; rfl) rfl] at qr; exact qr
      have q5_1_0 := oth1 hO5 q4_1_0 (by omega)
      have q5_1_1 := oth1 hO5 q4_1_1 (by omega)
      simp only [putK, fC, fN, kZ, kS, vV, vK, sI, sZ, sS]
      have hBt5 := hBt4.trans hB5
      clear hV5 hX5 hA5
      go_upto_region 10 with fail
      refine rg0 (n := 9) (t16 := 48) w.heap.size [.val (.agg #[.bool x5_2, .slice y5_2 z5_2 c5_2, .bool x25_2, .slice y25_2 z25_2 c25_2]), vF, vF, .val (.pointer (some ⟨(lc2 0), 0, none⟩)), .val (.pointer (some ⟨(lc2 0), 2, none⟩)), .val (.agg #[.bool x25_2, .slice y25_2 z25_2 c25_2]), vF, vF, .any, .any, .any, .any, .any, .any, vF, vF, .any, .any, .any, .any, .any, .any, .any, vF, vF, vF] [(0, 33), (1, 34), (2, 35), (3, 36), (4, 37), (5, 38), (6, 39), (7, 40), (8, 41), (9, 42), (10, 43), (11, 44), (12, 45), (13, 46), (14, 47), (15, 48), (16, 49), (17, 50), (18, 51), (19, 52), (20, 53), (21, 54), (22, 55), (23, 56), (24, 57), (25, 8)] hBt5.size ?st6 ?en6
      case st6 =>
       intro zi zo ho hro a' u lc W hM
       match zi, ho, hro with
       | 0, ho, _ => cases ho; exact wn (kLoad (rs := [.bool x5_2, .slice y5_2 z5_2 c5_2, .bool x25_2, .slice y25_2 z25_2 c25_2]) Tryz.underlying73 rfl sz73 rfl (hM.ol 6) (hM.o0 q5_0) rfl rfl)
       | 1, ho, _ => cases ho; exact wn (kCall1 rfl may66 (hM.d 0 33 rfl) (c66 HBZ.out (sk5_2.kept hM.kept)))
       | 2, ho, _ => cases ho; exact wn (kMove rfl (hM.d 1 34 rfl))
       | 3, ho, _ => cases ho; exact hM.wg (hM.d 2 35 rfl) (kField73_0 rfl (hM.ol 6))
       | 4, ho, _ => cases ho; exact hM.wg (hM.d 2 35 rfl) (kField26_1 rfl (hM.d 3 36 rfl))
       | 5, ho, _ => cases ho; exact hM.wg (hM.d 2 35 rfl) (kL24 rfl (hM.d 4 37 rfl) (hM.o0 q5_0) rfl)
       | 6, ho, _ => cases ho; exact hM.wg (hM.d 2 35 rfl) (kCall1 rfl may86 (hM.d 5 38 rfl) (c86 HB1.out (sb5_2.kept hM.kept)))
       | 7, ho, _ => cases ho; exact hM.wg (hM.d 2 35 rfl) (kMove rfl (hM.d 6 39 rfl))
       | 8, ho, _ => cases ho; exact hM.wz (hM.d 7 40 rfl)
       | 9, ho, _ => cases ho; exact hM.wz (hM.d 7 40 rfl)
       | 10, ho, _ => cases ho; exact hM.wz (hM.d 7 40 rfl)
       | 11, ho, _ => cases ho; exact hM.wz (hM.d 7 40 rfl)
       | 12, ho, _ => cases ho; exact hM.wz (hM.d 7 40 rfl)
       | 13, ho, _ => cases ho; exact hM.wz (hM.d 7 40 rfl)
       | 14, ho, _ => cases ho; exact hM.wg (hM.d 2 35 rfl) (kPick rfl (hM.d 7 40 rfl) rfl)
       | 15, ho, _ => cases ho; exact hM.wg (hM.d 2 35 rfl) (kMove rfl (hM.d 14 47 rfl))
       | 16, ho, _ => cases ho; exact hM.wz (hM.d 15 48 rfl)
       | 17, ho, _ => cases ho; exact hM.wz (hM.d 15 48 rfl)
       | 18, ho, _ => cases ho; exact hM.wz (hM.d 15 48 rfl)
       | 19, ho, _ => cases ho; exact hM.wz (hM.d 15 48 rfl)
       | 20, ho, _ => cases ho; exact hM.wz (hM.d 15 48 rfl)
       | 21, ho, _ => cases ho; exact hM.wz (hM.d 15 48 rfl)
       | 22, ho, _ => cases ho; exact hM.wz (hM.d 15 48 rfl)
       | 23, ho, _ => cases ho; exact hM.wg (hM.d 2 35 rfl) (kPick rfl (hM.d 15 48 rfl) rfl)
       | 24, ho, _ => cases ho; exact wn (kPick rfl (hM.d 2 35 rfl) (hM.d 23 56 rfl))
       | 25, ho, _ => cases ho; exact wn (kAssign rfl (hM.d 24 57 rfl))
       | zk + 26, ho, _ => simp at ho
      case en6 =>
       intro u6 lc6 W6 hK6 hB6 hO6 hV6 hX6 hA6
       have q6_1_0 := oth0 hO6 q5_1_0
       have q6_1_1 := oth0 hO6 q5_1_1
       have q6_2_0 := oth0 hO6 q5_0
       have f6_3 := sk5_2.kept hK6
       simp only [putK, fC, fN, kZ, kS, vV, vA, sI, sZ, sS]
       have hBt6 := hBt5.trans hB6
       clear hV6 hX6 hA6
       go_upto_region 15 with fail
       refine rg (n := 9) (t16 := 48) w.heap.size [] [.k (fr 1 1), .k (fr 1 1), .any, .any] [(0, 71), (1, 72), (2, 9)] [⟨73, some 2, 0, pt, 4, [.c #[.bool false, .slice none 0 0, .bool false, .slice none 0 0]], [(3, 0, 1)]⟩] ?ok7 ?st7 ?al7 ?pu7 ?en7
       case ok7 => exact BxOK.fresh rfl hBt6.size
       case st7 =>
        intro zi zo ho hro a' u lc W hM
        match zi, ho, hro with
        | 0, ho, _ => cases ho; exact wn (kCall1 rfl may33 rfl (c33 (by decide) (by decide)))
        | 1, ho, _ =>
         cases ho
         refine .inl ⟨wanted_none rfl, ?_⟩
         obtain ⟨sb1, sp1, sl1, sc1, sb2, sp2, sl2, sc2, e, sh1, sh2⟩ := (show Is (fr 1 1) _ W from (hM.kd 0))
         exact kBuild73 rfl ((hM.v 0 71 rfl).trans e) ⟨_, _, _, _, _, _, _, _, rfl, sh1, sh2⟩
        | 2, _, hro => exact nr1 hro (by kernel_rfl)
        | 3, _, hro => exact nr1 hro (by kernel_rfl)
        | zk + 4, ho, _ => simp at ho
       case al7 =>
        intro zk zb zi zo hk ha ho a' u lc W hM
        match zk, hk with
        | 0, hk => cases hk; cases ha; cases ho; exact ⟨rfl, rfl, rfl, rfl, kAlloc73 rfl⟩
        | zk + 1, hk => simp at hk
       case pu7 =>
        intro zk zb zs zo hk hs ho a' u lc W zc hM hc hcs
        match zk, hk with
        | 0, hk =>
         cases hk
         simp only [List.mem_cons, List.not_mem_nil, or_false] at hs
         rcases hs with rfl
         · cases ho
           obtain ⟨sb, sp, sl, sc, sb2, sp2, sl2, sc2, e, _⟩ := (show Is (fr 1 1) (u 1) W from (hM.kd 1))
           exact kPut rfl e ((hM.v 2 9 rfl).trans (hM.loc 0 _ 2 rfl rfl (by kernel_rfl))) (hM.v 1 72 rfl) hc hcs sz73
        | zk + 1, hk => simp at hk
       case en7 =>
        intro u7 lc7 W7 hK7 hB7 hO7 hV7 hX7 hA7
        have k7_1 := kk (hV7 1 72 rfl) rfl
        obtain ⟨qr, ho, hl⟩ := hX7 0 _ rfl
        have e7_2 : u7 2 = .pointer (some ⟨lc7 0, 0, none⟩) := (hl 2 rfl).1
        have g7_0 := (hl 2 rfl).2
        obtain ⟨x7_3, y7_3, z7_3, c7_3, x27_3, y27_3, z27_3, c27_3, es7_3, sa7_3, sb7_3⟩ := id k7_1
        have sk7_3 : Is (fr 1 1) (.agg #[.bool x7_3, .slice y7_3 z7_3 c7_3, .bool x27_3, .slice y27_3 z27_3 c27_3]) W7 := by rw [← es7_3]; exact k7_1
        have q7_0 : W7.heap[(lc7 0)]? = some (.cells #[.bool x7_3, .slice y7_3 z7_3 c7_3, .bool x27_3, .slice y27_3 z27_3 c27_3] 73) := by
         rw [contAll_one rfl (cs := #[.bool x7_3, .slice y7_3 z7_3 c7_3, .bool x27_3, .slice y27_3 z27_3 c27_3]) (by rw [es7_3]; rfl) rfl] at qr; exact qr
        have ne7_0_1_0 := Nat.ne_of_lt (Nat.lt_of_lt_of_le (Array.getElem?_eq_some_iff.1 q6_1_0).1 g7_0)
        have ne7_0_1_1 := Nat.ne_of_lt (Nat.lt_of_lt_of_le (Array.getElem?_eq_some_iff.1 q6_1_1).1 g7_0)
        have ne7_0_2_0 := Nat.ne_of_lt (Nat.lt_of_lt_of_le (Array.getElem?_eq_some_iff.1 q6_2_0).1 g7_0)
        have q7_1_1 := oth0 hO7 q6_1_1
        have q7_2_0 := oth0 hO7 q6_2_0
        have f7_3 := f6_3.kept hK7
        simp only [putK, fC, fN, kZ, kS, vA, vK, sI, sZ, sS, e7_2]
        have hBt7 := hBt6.trans hB7
        clear hV7 hX7 hA7
        skip
        have hge9 : w.heap.size ≤ (lc7 0) := (Nat.le_trans hBt6.size g7_0)
        have hge4 : w.heap.size ≤ (lc1 1) := (Nat.le_trans hB0.size g1_1)
        skip
        go_wp2
        go_loopw [7] (fun uv wr => ∃ (k : Nat) (x1 : Bool) (x2 : Option Addr) (x3 x4 : Nat) (x5 : Bool) (x6 : Option Addr) (x7 x8 : Nat), k ≤ m ∧ uv = .int .u64 ((k : Nat) : Int) ∧ wr.heap[(lc7 0)]? = some (.cells #[.bool x1, .slice x2 x3 x4, .bool x5, .slice x6 x7 x8] 73) ∧ Is (frq (b ^ (m - k))) (.agg #[.bool x1, .slice x2 x3 x4, .bool x5, .slice x6 x7 x8]) wr ∧ wr.heap[(lc2 0)]? = some (.cells #[.bool x5_2, .slice y5_2 z5_2 c5_2, .bool x25_2, .slice y25_2 z25_2 c25_2] 73) ∧ Is (frq b) (.agg #[.bool x5_2, .slice y5_2 z5_2 c5_2, .bool x25_2, .slice y25_2 z25_2 c25_2]) wr ∧ wr.heap[(lc1 1)]? = some (.cells #[.bool false, .slice none 0 0, .bool false, .slice none 0 0] 26) ∧ Below w.heap.size w wr) (fun uv _ => (intOf uv).toNat)
        case atStart => exact ⟨m, _, _, _, _, _, _, _, _, Nat.le_refl _, by simp, q7_0, (by rw [Nat.sub_self, Rat.pow_zero]; exact sk7_3), q7_2_0, f7_3, q7_1_1, hBt7⟩
        case round =>
         obtain ⟨k, x1, x2, x3, x4, x5, x6, x7, x8, hk, rfl, q9, h9, q6, h6, q4, hBr⟩ := hrel
         by_cases hk0 : 0 < k
         · have p1 := pow_parts b (m - k)
           have p2 := pow_parts b (m - k + 1)
           have hp1 : (b ^ (m - k)).num * b.num = (b ^ (m - k + 1)).num := by rw [p1.1, p2.1, Int.pow_succ]
           have hp2 : (((b ^ (m - k)).den : Nat) : Int) * ((b.den : Nat) : Int) = (((b ^ (m - k + 1)).den : Nat) : Int) := by rw [p1.2, p2.2, Int.pow_succ]
           have hfs := HF.out (m - k + 1) (by omega)
           have hcf : CapF < Cap := by have h1 := capF_sq; have h2 := capF_pos; have h3 : CapF * 1 ≤ CapF * CapF := Int.mul_le_mul_of_nonneg_left (by omega) (by omega); omega
           have hc1 : ((b ^ (m - k + 1)).num.natAbs : Int) < Cap := by have := hfs.1; omega
           have hc2 : (((((b ^ (m - k + 1)).den : Nat) : Int).natAbs : Nat) : Int) < Cap := by have := hfs.2; omega
           have hft := hfs.true
           have HP1 := Lib.hid hp1
           have HP2 := Lib.hid hp2
           have HC1 := Lib.hid hc1
           have HC2 := Lib.hid hc2
           have HFT := Lib.hid hft
           clear p1 p2 hp1 hp2 hfs hcf hc1 hc2 hft
           obtain ⟨_, _, _, _, _, _, _, _, e9, g9, k9⟩ := id h9
           cases e9
           replace g9 : Is (num (b ^ (m - k)).num) (.agg #[.bool x1, .slice x2 x3 x4]) wr := g9
           replace k9 : Is (num (((b ^ (m - k)).den : Nat) : Int)) (.agg #[.bool x5, .slice x6 x7 x8]) wr := k9
           obtain ⟨_, _, _, _, _, _, _, _, e6, g6, k6⟩ := id h6
           cases e6
           replace g6 : Is (num b.num) (.agg #[.bool x5_2, .slice y5_2 z5_2 c5_2]) wr := g6
           replace k6 : Is (num ((b.den : Nat) : Int)) (.agg #[.bool x25_2, .slice y25_2 z25_2 c25_2]) wr := k6
           go_upto_region 18 with fail
           refine rg (n := 9) (t16 := 48) w.heap.size [(lc7 0)] [.val (.pointer (some ⟨(lc7 0), 0, none⟩)), .val (.pointer (some ⟨(lc7 0), 0, none⟩)), .val (.agg #[.bool x1, .slice x2 x3 x4]), .val (.pointer (some ⟨(lc2 0), 0, none⟩)), .val (.pointer (some ⟨(lc2 0), 0, none⟩)), .val (.agg #[.bool x5_2, .slice y5_2 z5_2 c5_2]), .k (num (b ^ (m - k + 1)).num), .val (.pointer (some ⟨(lc7 0), 0, none⟩)), .val (.pointer (some ⟨(lc7 0), 2, none⟩)), .val (.agg #[.bool x5, .slice x6 x7 x8]), .val (.pointer (some ⟨(lc2 0), 0, none⟩)), .val (.pointer (some ⟨(lc2 0), 2, none⟩)), .val (.agg #[.bool x25_2, .slice y25_2 z25_2 c25_2]), .k (num (((b ^ (m - k + 1)).den : Nat) : Int)), .val (.pointer (some ⟨(lc7 0), 0, none⟩)), .val (.pointer (some ⟨(lc7 0), 0, none⟩)), .any, .val (.pointer (some ⟨(lc7 0), 0, none⟩)), .val (.pointer (some ⟨(lc7 0), 2, none⟩)), .any] [(0, 77), (1, 78), (2, 79), (3, 80), (4, 81), (5, 82), (6, 83), (7, 84), (8, 85), (9, 86), (10, 87), (11, 88), (12, 89), (13, 90), (14, 91), (15, 92), (17, 93), (18, 94)] [⟨73, none, (lc7 0), pt, 4, [.c #[.bool x1, .slice x2 x3 x4, .bool x5, .slice x6 x7 x8]], [(16, 0, 6), (19, 2, 13)]⟩] ?ok8 ?st8 ?al8 ?pu8 ?en8
           case ok8 => exact BxOK.one ⟨hge9, ⟨_, q9, rfl, rfl, rfl⟩, by simp, (by decide : (73 : Nat) ≠ 48)⟩ rfl hBr.size
           case st8 =>
            intro zi zo ho hro a' u lc W hM
            match zi, ho, hro with
            | 0, ho, _ => cases ho; exact wn (kField73_0 rfl (hM.ol 9))
            | 1, ho, _ => cases ho; exact wn (kField26_0 rfl (hM.d 0 77 rfl))
            | 2, ho, _ => cases ho; exact wn (kL24 rfl (hM.d 1 78 rfl) (show W.heap[(lc7 0)]? = some (.cells #[.bool x1, .slice x2 x3 x4, .bool x5, .slice x6 x7 x8] 73) from by rw [← (show lc 0 = (lc7 0) from hM.locO 0 _ rfl rfl)]; exact hM.fresh 0 _ rfl (by kernel_rfl) (by kernel_rfl)) rfl)
            | 3, ho, _ => cases ho; exact wn (kField73_0 rfl (hM.ol 6))
            | 4, ho, _ => cases ho; exact wn (kField26_0 rfl (hM.d 3 80 rfl))
            | 5, ho, _ => cases ho; exact wn (kL24 rfl (hM.d 4 81 rfl) (hM.o1 q6 (by omega)) rfl)
            | 6, ho, _ => cases ho; exact wn (kCall2 rfl may67 (hM.d 2 79 rfl) (hM.d 5 82 rfl) (c67 HP1.out HC1.out (g9.kept hM.kept) (g6.kept hM.kept)))
            | 7, ho, _ => cases ho; exact wn (kField73_0 rfl (hM.ol 9))
            | 8, ho, _ => cases ho; exact wn (kField26_1 rfl (hM.d 7 84 rfl))
            | 9, ho, _ => cases ho; exact wn (kL24 rfl (hM.d 8 85 rfl) (show W.heap[(lc7 0)]? = some (.cells #[.bool x1, .slice x2 x3 x4, .bool x5, .slice x6 x7 x8] 73) from by rw [← (show lc 0 = (lc7 0) from hM.locO 0 _ rfl rfl)]; exact hM.fresh 0 _ rfl (by kernel_rfl) (by kernel_rfl)) rfl)
            | 10, ho, _ => cases ho; exact wn (kField73_0 rfl (hM.ol 6))
            | 11, ho, _ => cases ho; exact wn (kField26_1 rfl (hM.d 10 87 rfl))
            | 12, ho, _ => cases ho; exact wn (kL24 rfl (hM.d 11 88 rfl) (hM.o1 q6 (by omega)) rfl)
            | 13, ho, _ => cases ho; exact wn (kCall2 rfl may67 (hM.d 9 86 rfl) (hM.d 12 89 rfl) (c67 HP2.out HC2.out (k9.kept hM.kept) (k6.kept hM.kept)))
            | 14, ho, _ => cases ho; exact wn (kField73_0 rfl (hM.ol 9))
            | 15, ho, _ => cases ho; exact wn (kField26_0 rfl (hM.d 14 91 rfl))
            | 16, _, hro => exact nr1 hro (by kernel_rfl)
            | 17, ho, _ => cases ho; exact wn (kField73_0 rfl (hM.ol 9))
            | 18, ho, _ => cases ho; exact wn (kField26_1 rfl (hM.d 17 93 rfl))
            | 19, _, hro => exact nr1 hro (by kernel_rfl)
            | zk + 20, ho, _ => simp at ho
           case al8 =>
            intro zk zb zi zo hk ha ho a' u lc W hM
            match zk, hk with
            | 0, hk => cases hk; cases ha
            | zk + 1, hk => simp at hk
           case pu8 =>
            intro zk zb zs zo hk hs ho a' u lc W zc hM hc hcs
            match zk, hk with
            | 0, hk =>
             cases hk
             simp only [List.mem_cons, List.not_mem_nil, or_false] at hs
             rcases hs with rfl | rfl
             · cases ho
               obtain ⟨sb, sp, sl, sc, e⟩ := (show Is (num (b ^ (m - k + 1)).num) (u 6) W from (hM.kd 6)).form
               exact kPut rfl e ((hM.d 15 92 rfl).trans (show _ = Value.pointer (some ⟨lc 0, 0, none⟩) from by rw [show lc 0 = (lc7 0) from hM.locO 0 _ rfl rfl] <;> rfl)) (hM.v 6 83 rfl) hc hcs sz24
             · cases ho
               obtain ⟨sb, sp, sl, sc, e⟩ := (show Is (num (((b ^ (m - k + 1)).den : Nat) : Int)) (u 13) W from (hM.kd 13)).form
               exact kPut rfl e ((hM.d 18 94 rfl).trans (show _ = Value.pointer (some ⟨lc 0, 2, none⟩) from by rw [show lc 0 = (lc7 0) from hM.locO 0 _ rfl rfl] <;> rfl)) (hM.v 13 90 rfl) hc hcs sz24
            | zk + 1, hk => simp at hk
           case en8 =>
            intro u8 lc8 W8 hK8 hB8 hO8 hV8 hX8 hA8
            have k8_6 := kk (hV8 6 83 rfl) rfl
            have k8_13 := kk (hV8 13 90 rfl) rfl
            obtain ⟨qr, ho, hl⟩ := hX8 0 _ rfl
            have elc : lc8 0 = (lc7 0) := ho rfl
            rw [elc] at qr
            obtain ⟨x8_16, y8_16, z8_16, c8_16, es8_16⟩ := k8_6.form
            have sk8_16 : Is (num (b ^ (m - k + 1)).num) (.agg #[.bool x8_16, .slice y8_16 z8_16 c8_16]) W8 := by rw [← es8_16]; exact k8_6
            obtain ⟨x8_19, y8_19, z8_19, c8_19, es8_19⟩ := k8_13.form
            have sk8_19 : Is (num (((b ^ (m - k + 1)).den : Nat) : Int)) (.agg #[.bool x8_19, .slice y8_19 z8_19 c8_19]) W8 := by rw [← es8_19]; exact k8_13
            have q8_0 : W8.heap[(lc7 0)]? = some (.cells #[.bool x8_16, .slice y8_16 z8_16 c8_16, .bool x8_19, .slice y8_19 z8_19 c8_19] 73) := by
             simp only [contAll, List.foldl_cons, List.foldl_nil, es8_16, es8_19] at qr; exact qr
            have q8_1_1 := oth1 hO8 q4 (by omega)
            have q8_2_0 := oth1 hO8 q6 (by omega)
            have f8_3 := h6.kept hK8
            simp only [putK, fC, fN, kZ, kS, vV, vK, sI, sZ, sS]
            have hBt8 := hBr.trans hB8
            clear hV8 hX8 hA8
            have hfr : Is (frq (b ^ (m - k + 1))) (.agg #[.bool x8_16, .slice y8_16 z8_16 c8_16, .bool x8_19, .slice y8_19 z8_19 c8_19]) W8 := ⟨_, _, _, _, _, _, _, _, rfl, sk8_16, sk8_19⟩
            go_upto_region 19 with fail
            refine rg0 (n := 9) (t16 := 48) w.heap.size [.val (.agg #[.bool x8_16, .slice y8_16 z8_16 c8_16, .bool x8_19, .slice y8_19 z8_19 c8_19]), vT, vF] [(0, 95), (1, 96), (2, 97)] hBt8.size ?st9 ?en9
            case st9 =>
             intro zi zo ho hro a' u lc W hM
             match zi, ho, hro with
             | 0, ho, _ => cases ho; exact wn (kLoad (rs := [.bool x8_16, .slice y8_16 z8_16 c8_16, .bool x8_19, .slice y8_19 z8_19 c8_19]) Tryz.underlying73 rfl sz73 rfl (hM.ol 9) (hM.o0 q8_0) rfl rfl)
             | 1, ho, _ => cases ho; exact wn (kCall1 rfl may87 (hM.d 0 95 rfl) (c87 HFT.out (hfr.kept hM.kept)))
             | 2, ho, _ => cases ho; exact wn (kNot rfl (hM.d 1 96 rfl) rfl)
             | zk + 3, ho, _ => simp at ho
            case en9 =>
             intro u9 lc9 W9 hK9 hB9 hO9 hV9 hX9 hA9
             have q9_1_1 := oth0 hO9 q8_1_1
             have q9_2_0 := oth0 hO9 q8_2_0
             have f9_0 := f8_3.kept hK9
             have q9_7_0 := oth0 hO9 q8_0
             have f9_3 := hfr.kept hK9
             simp only [putK, fC, fN, kZ, kS, vV, sI, sZ, sS]
             have hBt9 := hBt8.trans hB9
             clear hV9 hX9 hA9
             have ek : m - (k - 1) = m - k + 1 := by omega
             go_wp2
             go_roundw
             case rel => exact ⟨k - 1, _, _, _, _, _, _, _, _, by omega, by go_num, q9_7_0, by rw [ek]; exact f9_3, q9_2_0, f9_0, q9_1_1, hBt9⟩
             case measure => simp [intOf]; omega
         · obtain rfl : k = 0 := by omega
           rw [Nat.sub_zero] at h9
           have hft := HF.out m (Nat.le_refl _)
           have HFT := Lib.hid hft
           clear hft
           go_upto_region 21 with fail
           refine rg (n := 9) (t16 := 48) w.heap.size [(lc1 1)] [.val (.agg #[.bool x1, .slice x2 x3 x4, .bool x5, .slice x6 x7 x8]), .k (tup2 (.k (frq (b ^ m))) (vZ)), .k (frq (b ^ m)), vZ, .any, vZ] [(0, 99), (1, 100), (2, 101), (3, 102), (5, 5)] [⟨26, none, (lc1 1), pt, 4, [.c #[.bool false, .slice none 0 0, .bool false, .slice none 0 0]], [(4, 0, 2)]⟩] ?ok10 ?st10 ?al10 ?pu10 ?en10
           case ok10 => exact BxOK.one ⟨hge4, ⟨_, q4, rfl, rfl, rfl⟩, by simp, (by decide : (26 : Nat) ≠ 48)⟩ rfl hBr.size
           case st10 =>
            intro zi zo ho hro a' u lc W hM
            match zi, ho, hro with
            | 0, ho, _ => cases ho; exact wn (kLoad (rs := [.bool x1, .slice x2 x3 x4, .bool x5, .slice x6 x7 x8]) Tryz.underlying73 rfl sz73 rfl (hM.ol 9) (hM.o1 q9 (by omega)) rfl rfl)
            | 1, ho, _ => cases ho; exact wn (kCall1 rfl may75 (hM.d 0 99 rfl) (c75q HFT.out (h9.kept hM.kept)))
            | 2, ho, _ => cases ho; exact wn (kEx20 rfl (hM.d 1 100 rfl))
            | 3, ho, _ => cases ho; exact wn (kEx21 rfl (hM.d 1 100 rfl))
            | 4, _, hro => exact nr1 hro (by kernel_rfl)
            | 5, ho, _ => cases ho; exact wn (kAssign rfl (hM.d 3 102 rfl))
            | zk + 6, ho, _ => simp at ho
           case al10 =>
            intro zk zb zi zo hk ha ho a' u lc W hM
            match zk, hk with
            | 0, hk => cases hk; cases ha
            | zk + 1, hk => simp at hk
           case pu10 =>
            intro zk zb zs zo hk hs ho a' u lc W zc hM hc hcs
            match zk, hk with
            | 0, hk =>
             cases hk
             simp only [List.mem_cons, List.not_mem_nil, or_false] at hs
             rcases hs with rfl
             · cases ho
               obtain ⟨sb, sp, sl, sc, sb2, sp2, sl2, sc2, e, _⟩ := (show Is (frq (b ^ m)) (u 2) W from (hM.kd 2))
               exact kPut rfl e ((hM.ol 4).trans (show _ = Value.pointer (some ⟨lc 0, 0, none⟩) from by rw [show lc 0 = (lc1 1) from hM.locO 0 _ rfl rfl] <;> rfl)) (hM.v 2 101 rfl) hc hcs sz26
            | zk + 1, hk => simp at hk
           case en10 =>
            intro u10 lc10 W10 hK10 hB10 hO10 hV10 hX10 hA10
            have k10_2 := kk (hV10 2 101 rfl) rfl
            obtain ⟨qr, ho, hl⟩ := hX10 0 _ rfl
            have elc : lc10 0 = (lc1 1) := ho rfl
            rw [elc] at qr
            obtain ⟨x10_4, y10_4, z10_4, c10_4, x210_4, y210_4, z210_4, c210_4, es10_4, sa10_4, sb10_4⟩ := id k10_2
            have sk10_4 : Is (frq (b ^ m)) (.agg #[.bool x10_4, .slice y10_4 z10_4 c10_4, .bool x210_4, .slice y210_4 z210_4 c210_4]) W10 := by rw [← es10_4]; exact k10_2
            have q10_0 : W10.heap[(lc1 1)]? = some (.cells #[.bool x10_4, .slice y10_4 z10_4 c10_4, .bool x210_4, .slice y210_4 z210_4 c210_4] 26) := by
             rw [contAll_one rfl (cs := #[.bool x10_4, .slice y10_4 z10_4 c10_4, .bool x210_4, .slice y210_4 z210_4 c210_4]) (by rw [es10_4]; rfl) rfl] at qr; exact qr
            simp only [putK, fC, fN, kZ, kS, vV, vK, sI, sZ, sS]
            have hBt10 := hBr.trans hB10
            clear hV10 hX10 hA10
            have cr0 := cell_of q10_0 0 rfl
            have cr1 := cell_of q10_0 1 rfl
            have cr2 := cell_of q10_0 2 rfl
            have cr3 := cell_of q10_0 3 rfl
            go_wp2
            exact bodyPost_ret (v := .tuple #[.agg #[.bool x10_4, .slice y10_4 z10_4 c10_4, .bool x210_4, .slice y210_4 z210_4 c210_4], .int .i64 0]) (by simp [results, Tryz.results23, go_sem, cr0, cr1, cr2, cr3]) rfl ⟨_, rfl, ⟨_, _, rfl, sk10_4, rfl⟩, hBt10⟩
end Go.Proofs.YtihdbjilolmfiaaGreatDoor
