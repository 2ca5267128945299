import Derived.Test.YtihdbjilolmfiaaGreatDoorD18
import Derived.Test.YtihdbjilolmfiaaGreatDoorD01
set_option maxRecDepth 100000
set_option maxHeartbeats 4000000
namespace Go.Proofs.YtihdbjilolmfiaaGreatDoor
open Go.RowKit Go.WM Go.WR
attribute [local go_sem] Oper.semAt_some
theorem c67 {x y z : Int} {v0 v1 : Value} {w : World} (hx : x * y = z) (hz : z.natAbs < Cap) (h0 : Is (num x) v0 w) (h1 : Is (num y) v1 w) : Calls Tryz.prog 67 #[v0, v1] w (Ret (.k (num z)) w) := by
 obtain ⟨ya0, yp0, yl0, yd0, rfl⟩ := h0.form
 obtain ⟨ya1, yp1, yl1, yd1, rfl⟩ := h1.form
 have hB0 := Below.refl w.heap.size w
 have HX := Lib.hid hx
 have HZ := Lib.hid hz
 clear hx hz
 go_enter Tryz.func67, Tryz.ntmps67
 go_upto_region 0 with fail
 refine rg (n := 9) (t16 := 48) w.heap.size [] [.any, .any, .any] [(0, 2), (1, 3), (2, 4)] [⟨24, some 0, 0, pt, 2, [.c #[.bool ya0, .slice yp0 yl0 yd0]], []⟩, ⟨24, some 1, 0, pt, 2, [.c #[.bool ya1, .slice yp1 yl1 yd1]], []⟩, ⟨24, some 2, 0, pt, 2, [.c #[.bool false, .slice none 0 0]], []⟩] ?ok1 ?st1 ?al1 ?pu1 ?en1
 case ok1 => exact BxOK.fresh rfl hB0.size
 case st1 =>
  intro zi zo ho hro a' u lc W hM
  match zi, ho, hro with
  | 0, _, hro => exact nr1 hro (by kernel_rfl)
  | 1, _, hro => exact nr1 hro (by kernel_rfl)
  | 2, _, hro => exact nr1 hro (by kernel_rfl)
  | zk + 3, ho, _ => simp at ho
 case al1 =>
  intro zk zb zi zo hk ha ho a' u lc W hM
  match zk, hk with
  | 0, hk => cases hk; cases ha; cases ho; exact ⟨rfl, rfl, rfl, rfl, kBox rfl (hM.ol 0)⟩
  | 1, hk => cases hk; cases ha; cases ho; exact ⟨rfl, rfl, rfl, rfl, kBox rfl (hM.ol 1)⟩
  | 2, hk => cases hk; cases ha; cases ho; exact ⟨rfl, rfl, rfl, rfl, kAlloc24 rfl⟩
  | zk + 3, hk => simp at hk
 case pu1 =>
  intro zk zb zs zo hk hs ho a' u lc W zc hM hc hcs
  match zk, hk with
  | 0, hk => cases hk; simp at hs
  | 1, hk => cases hk; simp at hs
  | 2, hk => cases hk; simp at hs
  | zk + 3, hk => simp at hk
 case en1 =>
  intro u1 lc1 W1 hK1 hB1 hO1 hV1 hX1 hA1
  obtain ⟨qr, ho, hl⟩ := hX1 0 _ rfl
  have e1_0 : u1 0 = .pointer (some ⟨lc1 0, 0, none⟩) := (hl 0 rfl).1
  have g1_0 := (hl 0 rfl).2
  have f1_0 := h0.kept hK1
  have q1_0 : W1.heap[(lc1 0)]? = some (.cells #[.bool ya0, .slice yp0 yl0 yd0] 24) := by
   exact qr
  obtain ⟨qr, ho, hl⟩ := hX1 1 _ rfl
  have e1_1 : u1 1 = .pointer (some ⟨lc1 1, 0, none⟩) := (hl 1 rfl).1
  have g1_1 := (hl 1 rfl).2
  have f1_1 := h1.kept hK1
  have q1_1 : W1.heap[(lc1 1)]? = some (.cells #[.bool ya1, .slice yp1 yl1 yd1] 24) := by
   exact qr
  obtain ⟨qr, ho, hl⟩ := hX1 2 _ rfl
  have e1_2 : u1 2 = .pointer (some ⟨lc1 2, 0, none⟩) := (hl 2 rfl).1
  have g1_2 := (hl 2 rfl).2
  have q1_2 : W1.heap[(lc1 2)]? = some (.cells #[.bool false, .slice none 0 0] 24) := by
   exact qr
  have ne1_0_2 := hA1 0 2 _ _ rfl rfl (by decide)
  have ne1_1_2 := hA1 1 2 _ _ rfl rfl (by decide)
  simp only [putK, fC, fN, kZ, kS, vA, sI, sZ, sS, e1_0, e1_1, e1_2]
  have hBt1 := hB0.trans hB1
  clear hV1 hX1 hA1
  go_upto_region 1 with fail
  refine rg (n := 9) (t16 := 48) w.heap.size [] [.val (.agg #[.bool ya0, .slice yp0 yl0 yd0]), .val (.agg #[.bool ya1, .slice yp1 yl1 yd1]), .k (tup2 (.k (num z)) (vZ)), .k (tup2 (.k (num z)) (vZ)), .k (num z), vZ, .any, .any, vZ] [(0, 8), (1, 9), (2, 10), (3, 7), (4, 11), (5, 12), (6, 5), (8, 6)] [⟨24, some 6, 0, pt, 2, [.c #[.bool false, .slice none 0 0]], [(7, 0, 4)]⟩] ?ok2 ?st2 ?al2 ?pu2 ?en2
  case ok2 => exact BxOK.fresh rfl hBt1.size
  case st2 =>
   intro zi zo ho hro a' u lc W hM
   match zi, ho, hro with
   | 0, ho, _ => cases ho; exact wn (kL24 rfl (hM.ol 2) (hM.o0 q1_0) rfl)
   | 1, ho, _ => cases ho; exact wn (kL24 rfl (hM.ol 3) (hM.o0 q1_1) rfl)
   | 2, ho, _ => cases ho; exact wn (kCall2 rfl may49 (hM.d 0 8 rfl) (hM.d 1 9 rfl) (c49 HX.out HZ.out (f1_0.kept hM.kept) (f1_1.kept hM.kept)))
   | 3, ho, _ => cases ho; exact wn (kMove rfl (hM.d 2 10 rfl))
   | 4, ho, _ => cases ho; exact wn (kEx20 rfl (hM.d 3 7 rfl))
   | 5, ho, _ => cases ho; exact wn (kEx21 rfl (hM.d 3 7 rfl))
   | 6, _, hro => exact nr1 hro (by kernel_rfl)
   | 7, _, hro => exact nr1 hro (by kernel_rfl)
   | 8, ho, _ => cases ho; exact wn (kAssign rfl (hM.d 5 12 rfl))
   | zk + 9, ho, _ => simp at ho
  case al2 =>
   intro zk zb zi zo hk ha ho a' u lc W hM
   match zk, hk with
   | 0, hk => cases hk; cases ha; cases ho; exact ⟨rfl, rfl, rfl, rfl, kAlloc24 rfl⟩
   | zk + 1, hk => simp at hk
  case pu2 =>
   intro zk zb zs zo hk hs ho a' u lc W zc hM hc hcs
   match zk, hk with
   | 0, hk =>
    cases hk
    simp only [List.mem_cons, List.not_mem_nil, or_false] at hs
    rcases hs with rfl
    · cases ho
      obtain ⟨sb, sp, sl, sc, e⟩ := (show Is (num z) (u 4) W from (hM.kd 4)).form
      exact kPut rfl e ((hM.v 6 5 rfl).trans (hM.loc 0 _ 6 rfl rfl (by kernel_rfl))) (hM.v 4 11 rfl) hc hcs sz24
   | zk + 1, hk => simp at hk
  case en2 =>
   intro u2 lc2 W2 hK2 hB2 hO2 hV2 hX2 hA2
   have e2_0 := kv (hV2 0 8 rfl) rfl
   have k2_4 := kk (hV2 4 11 rfl) rfl
   obtain ⟨qr, ho, hl⟩ := hX2 0 _ rfl
   have e2_6 : u2 6 = .pointer (some ⟨lc2 0, 0, none⟩) := (hl 6 rfl).1
   have g2_0 := (hl 6 rfl).2
   obtain ⟨x2_7, y2_7, z2_7, c2_7, es2_7⟩ := k2_4.form
   have sk2_7 : Is (num z) (.agg #[.bool x2_7, .slice y2_7 z2_7 c2_7]) W2 := by rw [← es2_7]; exact k2_4
   have q2_0 : W2.heap[(lc2 0)]? = some (.cells #[.bool x2_7, .slice y2_7 z2_7 c2_7] 24) := by
    rw [contAll_one rfl (cs := #[.bool x2_7, .slice y2_7 z2_7 c2_7]) (by rw [es2_7]; rfl) rfl] at qr; exact qr
   have ne2_0_1_2 := Nat.ne_of_lt (Nat.lt_of_lt_of_le (Array.getElem?_eq_some_iff.1 q1_2).1 g2_0)
   have q2_1_2 := oth0 hO2 q1_2
   simp only [putK, fC, fN, kZ, kS, vV, vA, vK, sI, sZ, sS, e2_6]
   have hBt2 := hBt1.trans hB2
   clear hV2 hX2 hA2
   go_upto_region 2 with fail
   refine rg (n := 9) (t16 := 48) w.heap.size [(lc1 2)] [.val (.agg #[.bool x2_7, .slice y2_7 z2_7 c2_7]), .any] [(0, 13)] [⟨24, none, (lc1 2), pt, 2, [.c #[.bool false, .slice none 0 0]], [(1, 0, 0)]⟩] ?ok3 ?st3 ?al3 ?pu3 ?en3
   case ok3 => exact BxOK.one ⟨(Nat.le_trans hB0.size g1_2), ⟨_, q2_1_2, rfl, rfl, rfl⟩, by simp, (by decide : (24 : Nat) ≠ 48)⟩ rfl hBt2.size
   case st3 =>
    intro zi zo ho hro a' u lc W hM
    match zi, ho, hro with
    | 0, ho, _ => cases ho; exact wn (kL24 rfl (hM.ol 5) (hM.o1 q2_0 (by omega)) rfl)
    | 1, _, hro => exact nr1 hro (by kernel_rfl)
    | zk + 2, ho, _ => simp at ho
   case al3 =>
    intro zk zb zi zo hk ha ho a' u lc W hM
    match zk, hk with
    | 0, hk => cases hk; cases ha
    | zk + 1, hk => simp at hk
   case pu3 =>
    intro zk zb zs zo hk hs ho a' u lc W zc hM hc hcs
    match zk, hk with
    | 0, hk =>
     cases hk
     simp only [List.mem_cons, List.not_mem_nil, or_false] at hs
     rcases hs with rfl
     · cases ho
       have e : u 0 = .agg #[.bool x2_7, .slice y2_7 z2_7 c2_7] := hM.kd 0
       exact kPut rfl e ((hM.ol 4).trans (show _ = Value.pointer (some ⟨lc 0, 0, none⟩) from by rw [show lc 0 = (lc1 2) from hM.locO 0 _ rfl rfl]; rfl)) (hM.v 0 13 rfl) hc hcs sz24
    | zk + 1, hk => simp at hk
   case en3 =>
    intro u3 lc3 W3 hK3 hB3 hO3 hV3 hX3 hA3
    have e3_0 := kv (hV3 0 13 rfl) rfl
    obtain ⟨qr, ho, hl⟩ := hX3 0 _ rfl
    have elc : lc3 0 = (lc1 2) := ho rfl
    rw [elc] at qr
    have f3_0 := sk2_7.kept hK3
    have q3_0 : W3.heap[(lc1 2)]? = some (.cells #[.bool x2_7, .slice y2_7 z2_7 c2_7] 24) := by
     rw [contAll_one rfl (cs := #[.bool x2_7, .slice y2_7 z2_7 c2_7]) (by rw [e3_0]; rfl) rfl] at qr; exact qr
    simp only [putK, fC, fN, kZ, vV, sI, sZ, sS]
    have hBt3 := hBt2.trans hB3
    clear hV3 hX3 hA3
    have cr0 := cell_of q3_0 0 rfl
    have cr1 := cell_of q3_0 1 rfl
    go_wp2
    exact bodyPost_ret (v := .agg #[.bool x2_7, .slice y2_7 z2_7 c2_7]) (by simp [results, Tryz.results67, go_sem, cr0, cr1]) rfl ⟨_, rfl, f3_0, hBt3⟩
theorem c70 {x y z : Int} {v0 v1 : Value} {w : World} (hx : x + y = z) (hz : z.natAbs < Cap) (h0 : Is (num x) v0 w) (h1 : Is (num y) v1 w) : Calls Tryz.prog 70 #[v0, v1] w (Ret (.k (num z)) w) := by
 obtain ⟨ya0, yp0, yl0, yd0, rfl⟩ := h0.form
 obtain ⟨ya1, yp1, yl1, yd1, rfl⟩ := h1.form
 have hB0 := Below.refl w.heap.size w
 have HX := Lib.hid hx
 have HZ := Lib.hid hz
 clear hx hz
 go_enter Tryz.func70, Tryz.ntmps70
 go_upto_region 0 with fail
 refine rg (n := 9) (t16 := 48) w.heap.size [] [.any, .any, .any] [(0, 2), (1, 3), (2, 4)] [⟨24, some 0, 0, pt, 2, [.c #[.bool ya0, .slice yp0 yl0 yd0]], []⟩, ⟨24, some 1, 0, pt, 2, [.c #[.bool ya1, .slice yp1 yl1 yd1]], []⟩, ⟨24, some 2, 0, pt, 2, [.c #[.bool false, .slice none 0 0]], []⟩] ?ok1 ?st1 ?al1 ?pu1 ?en1
 case ok1 => exact BxOK.fresh rfl hB0.size
 case st1 =>
  intro zi zo ho hro a' u lc W hM
  match zi, ho, hro with
  | 0, _, hro => exact nr1 hro (by kernel_rfl)
  | 1, _, hro => exact nr1 hro (by kernel_rfl)
  | 2, _, hro => exact nr1 hro (by kernel_rfl)
  | zk + 3, ho, _ => simp at ho
 case al1 =>
  intro zk zb zi zo hk ha ho a' u lc W hM
  match zk, hk with
  | 0, hk => cases hk; cases ha; cases ho; exact ⟨rfl, rfl, rfl, rfl, kBox rfl (hM.ol 0)⟩
  | 1, hk => cases hk; cases ha; cases ho; exact ⟨rfl, rfl, rfl, rfl, kBox rfl (hM.ol 1)⟩
  | 2, hk => cases hk; cases ha; cases ho; exact ⟨rfl, rfl, rfl, rfl, kAlloc24 rfl⟩
  | zk + 3, hk => simp at hk
 case pu1 =>
  intro zk zb zs zo hk hs ho a' u lc W zc hM hc hcs
  match zk, hk with
  | 0, hk => cases hk; simp at hs
  | 1, hk => cases hk; simp at hs
  | 2, hk => cases hk; simp at hs
  | zk + 3, hk => simp at hk
 case en1 =>
  intro u1 lc1 W1 hK1 hB1 hO1 hV1 hX1 hA1
  obtain ⟨qr, ho, hl⟩ := hX1 0 _ rfl
  have e1_0 : u1 0 = .pointer (some ⟨lc1 0, 0, none⟩) := (hl 0 rfl).1
  have g1_0 := (hl 0 rfl).2
  have f1_0 := h0.kept hK1
  have q1_0 : W1.heap[(lc1 0)]? = some (.cells #[.bool ya0, .slice yp0 yl0 yd0] 24) := by
   exact qr
  obtain ⟨qr, ho, hl⟩ := hX1 1 _ rfl
  have e1_1 : u1 1 = .pointer (some ⟨lc1 1, 0, none⟩) := (hl 1 rfl).1
  have g1_1 := (hl 1 rfl).2
  have f1_1 := h1.kept hK1
  have q1_1 : W1.heap[(lc1 1)]? = some (.cells #[.bool ya1, .slice yp1 yl1 yd1] 24) := by
   exact qr
  obtain ⟨qr, ho, hl⟩ := hX1 2 _ rfl
  have e1_2 : u1 2 = .pointer (some ⟨lc1 2, 0, none⟩) := (hl 2 rfl).1
  have g1_2 := (hl 2 rfl).2
  have q1_2 : W1.heap[(lc1 2)]? = some (.cells #[.bool false, .slice none 0 0] 24) := by
   exact qr
  have ne1_0_2 := hA1 0 2 _ _ rfl rfl (by decide)
  have ne1_1_2 := hA1 1 2 _ _ rfl rfl (by decide)
  simp only [putK, fC, fN, kZ, kS, vA, sI, sZ, sS, e1_0, e1_1, e1_2]
  have hBt1 := hB0.trans hB1
  clear hV1 hX1 hA1
  go_upto_region 1 with fail
  refine rg (n := 9) (t16 := 48) w.heap.size [] [.val (.agg #[.bool ya0, .slice yp0 yl0 yd0]), .val (.agg #[.bool ya1, .slice yp1 yl1 yd1]), .k (tup2 (.k (num z)) (vZ)), .k (tup2 (.k (num z)) (vZ)), .k (num z), vZ, .any, .any, vZ] [(0, 8), (1, 9), (2, 10), (3, 7), (4, 11), (5, 12), (6, 5), (8, 6)] [⟨24, some 6, 0, pt, 2, [.c #[.bool false, .slice none 0 0]], [(7, 0, 4)]⟩] ?ok2 ?st2 ?al2 ?pu2 ?en2
  case ok2 => exact BxOK.fresh rfl hBt1.size
  case st2 =>
   intro zi zo ho hro a' u lc W hM
   match zi, ho, hro with
   | 0, ho, _ => cases ho; exact wn (kL24 rfl (hM.ol 2) (hM.o0 q1_0) rfl)
   | 1, ho, _ => cases ho; exact wn (kL24 rfl (hM.ol 3) (hM.o0 q1_1) rfl)
   | 2, ho, _ => cases ho; exact wn (kCall2 rfl may53 (hM.d 0 8 rfl) (hM.d 1 9 rfl) (c53 HX.out HZ.out (f1_0.kept hM.kept) (f1_1.kept hM.kept)))
   | 3, ho, _ => cases ho; exact wn (kMove rfl (hM.d 2 10 rfl))
   | 4, ho, _ => cases ho; exact wn (kEx20 rfl (hM.d 3 7 rfl))
   | 5, ho, _ => cases ho; exact wn (kEx21 rfl (hM.d 3 7 rfl))
   | 6, _, hro => exact nr1 hro (by kernel_rfl)
   | 7, _, hro => exact nr1 hro (by kernel_rfl)
   | 8, ho, _ => cases ho; exact wn (kAssign rfl (hM.d 5 12 rfl))
   | zk + 9, ho, _ => simp at ho
  case al2 =>
   intro zk zb zi zo hk ha ho a' u lc W hM
   match zk, hk with
   | 0, hk => cases hk; cases ha; cases ho; exact ⟨rfl, rfl, rfl, rfl, kAlloc24 rfl⟩
   | zk + 1, hk => simp at hk
  case pu2 =>
   intro zk zb zs zo hk hs ho a' u lc W zc hM hc hcs
   match zk, hk with
   | 0, hk =>
    cases hk
    simp only [List.mem_cons, List.not_mem_nil, or_false] at hs
    rcases hs with rfl
    · cases ho
      obtain ⟨sb, sp, sl, sc, e⟩ := (show Is (num z) (u 4) W from (hM.kd 4)).form
      exact kPut rfl e ((hM.v 6 5 rfl).trans (hM.loc 0 _ 6 rfl rfl (by kernel_rfl))) (hM.v 4 11 rfl) hc hcs sz24
   | zk + 1, hk => simp at hk
  case en2 =>
   intro u2 lc2 W2 hK2 hB2 hO2 hV2 hX2 hA2
   have e2_0 := kv (hV2 0 8 rfl) rfl
   have k2_4 := kk (hV2 4 11 rfl) rfl
   obtain ⟨qr, ho, hl⟩ := hX2 0 _ rfl
   have e2_6 : u2 6 = .pointer (some ⟨lc2 0, 0, none⟩) := (hl 6 rfl).1
   have g2_0 := (hl 6 rfl).2
   obtain ⟨x2_7, y2_7, z2_7, c2_7, es2_7⟩ := k2_4.form
   have sk2_7 : Is (num z) (.agg #[.bool x2_7, .slice y2_7 z2_7 c2_7]) W2 := by rw [← es2_7]; exact k2_4
   have q2_0 : W2.heap[(lc2 0)]? = some (.cells #[.bool x2_7, .slice y2_7 z2_7 c2_7] 24) := by
    rw [contAll_one rfl (cs := #[.bool x2_7, .slice y2_7 z2_7 c2_7]) (by rw [es2_7]; rfl) rfl] at qr; exact qr
   have ne2_0_1_2 := Nat.ne_of_lt (Nat.lt_of_lt_of_le (Array.getElem?_eq_some_iff.1 q1_2).1 g2_0)
   have q2_1_2 := oth0 hO2 q1_2
   simp only [putK, fC, fN, kZ, kS, vV, vA, vK, sI, sZ, sS, e2_6]
   have hBt2 := hBt1.trans hB2
   clear hV2 hX2 hA2
   go_upto_region 2 with fail
   refine rg (n := 9) (t16 := 48) w.heap.size [(lc1 2)] [.val (.agg #[.bool x2_7, .slice y2_7 z2_7 c2_7]), .any] [(0, 13)] [⟨24, none, (lc1 2), pt, 2, [.c #[.bool false, .slice none 0 0]], [(1, 0, 0)]⟩] ?ok3 ?st3 ?al3 ?pu3 ?en3
   case ok3 => exact BxOK.one ⟨(Nat.le_trans hB0.size g1_2), ⟨_, q2_1_2, rfl, rfl, rfl⟩, by simp, (by decide : (24 : Nat) ≠ 48)⟩ rfl hBt2.size
   case st3 =>
    intro zi zo ho hro a' u lc W hM
    match zi, ho, hro with
    | 0, ho, _ => cases ho; exact wn (kL24 rfl (hM.ol 5) (hM.o1 q2_0 (by omega)) rfl)
    | 1, _, hro => exact nr1 hro (by kernel_rfl)
    | zk + 2, ho, _ => simp at ho
   case al3 =>
    intro zk zb zi zo hk ha ho a' u lc W hM
    match zk, hk with
    | 0, hk => cases hk; cases ha
    | zk + 1, hk => simp at hk
   case pu3 =>
    intro zk zb zs zo hk hs ho a' u lc W zc hM hc hcs
    match zk, hk with
    | 0, hk =>
     cases hk
     simp only [List.mem_cons, List.not_mem_nil, or_false] at hs
     rcases hs with rfl
     · cases ho
       have e : u 0 = .agg #[.bool x2_7, .slice y2_7 z2_7 c2_7] := hM.kd 0
       exact kPut rfl e ((hM.ol 4).trans (show _ = Value.pointer (some ⟨lc 0, 0, none⟩) from by rw [show lc 0 = (lc1 2) from hM.locO 0 _ rfl rfl]; rfl)) (hM.v 0 13 rfl) hc hcs sz24
    | zk + 1, hk => simp at hk
   case en3 =>
    intro u3 lc3 W3 hK3 hB3 hO3 hV3 hX3 hA3
    have e3_0 := kv (hV3 0 13 rfl) rfl
    obtain ⟨qr, ho, hl⟩ := hX3 0 _ rfl
    have elc : lc3 0 = (lc1 2) := ho rfl
    rw [elc] at qr
    have f3_0 := sk2_7.kept hK3
    have q3_0 : W3.heap[(lc1 2)]? = some (.cells #[.bool x2_7, .slice y2_7 z2_7 c2_7] 24) := by
     rw [contAll_one rfl (cs := #[.bool x2_7, .slice y2_7 z2_7 c2_7]) (by rw [e3_0]; rfl) rfl] at qr; exact qr
    simp only [putK, fC, fN, kZ, vV, sI, sZ, sS]
    have hBt3 := hBt2.trans hB3
    clear hV3 hX3 hA3
    have cr0 := cell_of q3_0 0 rfl
    have cr1 := cell_of q3_0 1 rfl
    go_wp2
    exact bodyPost_ret (v := .agg #[.bool x2_7, .slice y2_7 z2_7 c2_7]) (by simp [results, Tryz.results70, go_sem, cr0, cr1]) rfl ⟨_, rfl, f3_0, hBt3⟩
theorem c73 {x y z : Int} {v0 v1 : Value} {w : World} (hx : ((Int.gcd x y : Nat) : Int) = z) (h0 : Is (num x) v0 w) (h1 : Is (num y) v1 w) : Calls Tryz.prog 73 #[v0, v1] w (Ret (.k (num z)) w) := by
 obtain ⟨ya0, yp0, yl0, yd0, rfl⟩ := h0.form
 obtain ⟨ya1, yp1, yl1, yd1, rfl⟩ := h1.form
 have hB0 := Below.refl w.heap.size w
 have HX := Lib.hid hx
 clear hx
 go_enter Tryz.func73, Tryz.ntmps73
 go_upto_region 0 with fail
 refine rg (n := 9) (t16 := 48) w.heap.size [] [.any, .any, .any] [(0, 2), (1, 3), (2, 4)] [⟨24, some 0, 0, pt, 2, [.c #[.bool ya0, .slice yp0 yl0 yd0]], []⟩, ⟨24, some 1, 0, pt, 2, [.c #[.bool ya1, .slice yp1 yl1 yd1]], []⟩, ⟨24, some 2, 0, pt, 2, [.c #[.bool false, .slice none 0 0]], []⟩] ?ok1 ?st1 ?al1 ?pu1 ?en1
 case ok1 => exact BxOK.fresh rfl hB0.size
 case st1 =>
  intro zi zo ho hro a' u lc W hM
  match zi, ho, hro with
  | 0, _, hro => exact nr1 hro (by kernel_rfl)
  | 1, _, hro => exact nr1 hro (by kernel_rfl)
  | 2, _, hro => exact nr1 hro (by kernel_rfl)
  | zk + 3, ho, _ => simp at ho
 case al1 =>
  intro zk zb zi zo hk ha ho a' u lc W hM
  match zk, hk with
  | 0, hk => cases hk; cases ha; cases ho; exact ⟨rfl, rfl, rfl, rfl, kBox rfl (hM.ol 0)⟩
  | 1, hk => cases hk; cases ha; cases ho; exact ⟨rfl, rfl, rfl, rfl, kBox rfl (hM.ol 1)⟩
  | 2, hk => cases hk; cases ha; cases ho; exact ⟨rfl, rfl, rfl, rfl, kAlloc24 rfl⟩
  | zk + 3, hk => simp at hk
 case pu1 =>
  intro zk zb zs zo hk hs ho a' u lc W zc hM hc hcs
  match zk, hk with
  | 0, hk => cases hk; simp at hs
  | 1, hk => cases hk; simp at hs
  | 2, hk => cases hk; simp at hs
  | zk + 3, hk => simp at hk
 case en1 =>
  intro u1 lc1 W1 hK1 hB1 hO1 hV1 hX1 hA1
  obtain ⟨qr, ho, hl⟩ := hX1 0 _ rfl
  have e1_0 : u1 0 = .pointer (some ⟨lc1 0, 0, none⟩) := (hl 0 rfl).1
  have g1_0 := (hl 0 rfl).2
  have f1_0 := h0.kept hK1
  have q1_0 : W1.heap[(lc1 0)]? = some (.cells #[.bool ya0, .slice yp0 yl0 yd0] 24) := by
   exact qr
  obtain ⟨qr, ho, hl⟩ := hX1 1 _ rfl
  have e1_1 : u1 1 = .pointer (some ⟨lc1 1, 0, none⟩) := (hl 1 rfl).1
  have g1_1 := (hl 1 rfl).2
  have f1_1 := h1.kept hK1
  have q1_1 : W1.heap[(lc1 1)]? = some (.cells #[.bool ya1, .slice yp1 yl1 yd1] 24) := by
   exact qr
  obtain ⟨qr, ho, hl⟩ := hX1 2 _ rfl
  have e1_2 : u1 2 = .pointer (some ⟨lc1 2, 0, none⟩) := (hl 2 rfl).1
  have g1_2 := (hl 2 rfl).2
  have q1_2 : W1.heap[(lc1 2)]? = some (.cells #[.bool false, .slice none 0 0] 24) := by
   exact qr
  have ne1_0_2 := hA1 0 2 _ _ rfl rfl (by decide)
  have ne1_1_2 := hA1 1 2 _ _ rfl rfl (by decide)
  simp only [putK, fC, fN, kZ, kS, vA, sI, sZ, sS, e1_0, e1_1, e1_2]
  have hBt1 := hB0.trans hB1
  clear hV1 hX1 hA1
  go_upto_region 1 with fail
  refine rg (n := 9) (t16 := 48) w.heap.size [] [.val (.agg #[.bool ya0, .slice yp0 yl0 yd0]), .val (.agg #[.bool ya1, .slice yp1 yl1 yd1]), .k (tup2 (.k (num z)) (vZ)), .k (tup2 (.k (num z)) (vZ)), .k (num z), vZ, .any, .any, vZ] [(0, 8), (1, 9), (2, 10), (3, 7), (4, 11), (5, 12), (6, 5), (8, 6)] [⟨24, some 6, 0, pt, 2, [.c #[.bool false, .slice none 0 0]], [(7, 0, 4)]⟩] ?ok2 ?st2 ?al2 ?pu2 ?en2
  case ok2 => exact BxOK.fresh rfl hBt1.size
  case st2 =>
   intro zi zo ho hro a' u lc W hM
   match zi, ho, hro with
   | 0, ho, _ => cases ho; exact wn (kL24 rfl (hM.ol 2) (hM.o0 q1_0) rfl)
   | 1, ho, _ => cases ho; exact wn (kL24 rfl (hM.ol 3) (hM.o0 q1_1) rfl)
   | 2, ho, _ => cases ho; exact wn (kCall2 rfl may138 (hM.d 0 8 rfl) (hM.d 1 9 rfl) (c138 HX.out (f1_0.kept hM.kept) (f1_1.kept hM.kept)))
   | 3, ho, _ => cases ho; exact wn (kMove rfl (hM.d 2 10 rfl))
   | 4, ho, _ => cases ho; exact wn (kEx20 rfl (hM.d 3 7 rfl))
   | 5, ho, _ => cases ho; exact wn (kEx21 rfl (hM.d 3 7 rfl))
   | 6, _, hro => exact nr1 hro (by kernel_rfl)
   | 7, _, hro => exact nr1 hro (by kernel_rfl)
   | 8, ho, _ => cases ho; exact wn (kAssign rfl (hM.d 5 12 rfl))
   | zk + 9, ho, _ => simp at ho
  case al2 =>
   intro zk zb zi zo hk ha ho a' u lc W hM
   match zk, hk with
   | 0, hk => cases hk; cases ha; cases ho; exact ⟨rfl, rfl, rfl, rfl, kAlloc24 rfl⟩
   | zk + 1, hk => simp at hk
  case pu2 =>
   intro zk zb zs zo hk hs ho a' u lc W zc hM hc hcs
   match zk, hk with
   | 0, hk =>
    cases hk
    simp only [List.mem_cons, List.not_mem_nil, or_false] at hs
    rcases hs with rfl
    · cases ho
      obtain ⟨sb, sp, sl, sc, e⟩ := (show Is (num z) (u 4) W from (hM.kd 4)).form
      exact kPut rfl e ((hM.v 6 5 rfl).trans (hM.loc 0 _ 6 rfl rfl (by kernel_rfl))) (hM.v 4 11 rfl) hc hcs sz24
   | zk + 1, hk => simp at hk
  case en2 =>
   intro u2 lc2 W2 hK2 hB2 hO2 hV2 hX2 hA2
   have e2_0 := kv (hV2 0 8 rfl) rfl
   have k2_4 := kk (hV2 4 11 rfl) rfl
   obtain ⟨qr, ho, hl⟩ := hX2 0 _ rfl
   have e2_6 : u2 6 = .pointer (some ⟨lc2 0, 0, none⟩) := (hl 6 rfl).1
   have g2_0 := (hl 6 rfl).2
   obtain ⟨x2_7, y2_7, z2_7, c2_7, es2_7⟩ := k2_4.form
   have sk2_7 : Is (num z) (.agg #[.bool x2_7, .slice y2_7 z2_7 c2_7]) W2 := by rw [← es2_7]; exact k2_4
   have q2_0 : W2.heap[(lc2 0)]? = some (.cells #[.bool x2_7, .slice y2_7 z2_7 c2_7] 24) := by
    rw [contAll_one rfl (cs := #[.bool x2_7, .slice y2_7 z2_7 c2_7]) (by rw [es2_7]; rfl) rfl] at qr; exact qr
   have ne2_0_1_2 := Nat.ne_of_lt (Nat.lt_of_lt_of_le (Array.getElem?_eq_some_iff.1 q1_2).1 g2_0)
   have q2_1_2 := oth0 hO2 q1_2
   simp only [putK, fC, fN, kZ, kS, vV, vA, vK, sI, sZ, sS, e2_6]
   have hBt2 := hBt1.trans hB2
   clear hV2 hX2 hA2
   go_upto_region 2 with fail
   refine rg (n := 9) (t16 := 48) w.heap.size [(lc1 2)] [.val (.agg #[.bool x2_7, .slice y2_7 z2_7 c2_7]), .any] [(0, 13)] [⟨24, none, (lc1 2), pt, 2, [.c #[.bool false, .slice none 0 0]], [(1, 0, 0)]⟩] ?ok3 ?st3 ?al3 ?pu3 ?en3
   case ok3 => exact BxOK.one ⟨(Nat.le_trans hB0.size g1_2), ⟨_, q2_1_2, rfl, rfl, rfl⟩, by simp, (by decide : (24 : Nat) ≠ 48)⟩ rfl hBt2.size
   case st3 =>
    intro zi zo ho hro a' u lc W hM
    match zi, ho, hro with
    | 0, ho, _ => cases ho; exact wn (kL24 rfl (hM.ol 5) (hM.o1 q2_0 (by omega)) rfl)
    | 1, _, hro => exact nr1 hro (by kernel_rfl)
    | zk + 2, ho, _ => simp at ho
   case al3 =>
    intro zk zb zi zo hk ha ho a' u lc W hM
    match zk, hk with
    | 0, hk => cases hk; cases ha
    | zk + 1, hk => simp at hk
   case pu3 =>
    intro zk zb zs zo hk hs ho a' u lc W zc hM hc hcs
    match zk, hk with
    | 0, hk =>
     cases hk
     simp only [List.mem_cons, List.not_mem_nil, or_false] at hs
     rcases hs with rfl
     · cases ho
       have e : u 0 = .agg #[.bool x2_7, .slice y2_7 z2_7 c2_7] := hM.kd 0
       exact kPut rfl e ((hM.ol 4).trans (show _ = Value.pointer (some ⟨lc 0, 0, none⟩) from by rw [show lc 0 = (lc1 2) from hM.locO 0 _ rfl rfl]; rfl)) (hM.v 0 13 rfl) hc hcs sz24
    | zk + 1, hk => simp at hk
   case en3 =>
    intro u3 lc3 W3 hK3 hB3 hO3 hV3 hX3 hA3
    have e3_0 := kv (hV3 0 13 rfl) rfl
    obtain ⟨qr, ho, hl⟩ := hX3 0 _ rfl
    have elc : lc3 0 = (lc1 2) := ho rfl
    rw [elc] at qr
    have f3_0 := sk2_7.kept hK3
    have q3_0 : W3.heap[(lc1 2)]? = some (.cells #[.bool x2_7, .slice y2_7 z2_7 c2_7] 24) := by
     rw [contAll_one rfl (cs := #[.bool x2_7, .slice y2_7 z2_7 c2_7]) (by rw [e3_0]; rfl) rfl] at qr; exact qr
    simp only [putK, fC, fN, kZ, vV, sI, sZ, sS]
    have hBt3 := hBt2.trans hB3
    clear hV3 hX3 hA3
    have cr0 := cell_of q3_0 0 rfl
    have cr1 := cell_of q3_0 1 rfl
    go_wp2
    exact bodyPost_ret (v := .agg #[.bool x2_7, .slice y2_7 z2_7 c2_7]) (by simp [results, Tryz.results73, go_sem, cr0, cr1]) rfl ⟨_, rfl, f3_0, hBt3⟩
theorem c74 {x y z t : Int} {v0 v1 : Value} {w : World} (hy : y ≠ 0) (hf : Floor x y z t) (h0 : Is (num x) v0 w) (h1 : Is (num y) v1 w) : Calls Tryz.prog 74 #[v0, v1] w (Ret (.k (num z)) w) := by
 obtain ⟨ya0, yp0, yl0, yd0, rfl⟩ := h0.form
 obtain ⟨ya1, yp1, yl1, yd1, rfl⟩ := h1.form
 have hB0 := Below.refl w.heap.size w
 have HY := Lib.hid hy
 have HF := Lib.hid hf
 clear hy hf
 go_enter Tryz.func74, Tryz.ntmps74
 go_upto_region 0 with fail
 refine rg (n := 9) (t16 := 48) w.heap.size [] [.any, .any, .any] [(0, 2), (1, 3), (2, 4)] [⟨24, some 0, 0, pt, 2, [.c #[.bool ya0, .slice yp0 yl0 yd0]], []⟩, ⟨24, some 1, 0, pt, 2, [.c #[.bool ya1, .slice yp1 yl1 yd1]], []⟩, ⟨24, some 2, 0, pt, 2, [.c #[.bool false, .slice none 0 0]], []⟩] ?ok1 ?st1 ?al1 ?pu1 ?en1
 case ok1 => exact BxOK.fresh rfl hB0.size
 case st1 =>
  intro zi zo ho hro a' u lc W hM
  match zi, ho, hro with
  | 0, _, hro => exact nr1 hro (by kernel_rfl)
  | 1, _, hro => exact nr1 hro (by kernel_rfl)
  | 2, _, hro => exact nr1 hro (by kernel_rfl)
  | zk + 3, ho, _ => simp at ho
 case al1 =>
  intro zk zb zi zo hk ha ho a' u lc W hM
  match zk, hk with
  | 0, hk => cases hk; cases ha; cases ho; exact ⟨rfl, rfl, rfl, rfl, kBox rfl (hM.ol 0)⟩
  | 1, hk => cases hk; cases ha; cases ho; exact ⟨rfl, rfl, rfl, rfl, kBox rfl (hM.ol 1)⟩
  | 2, hk => cases hk; cases ha; cases ho; exact ⟨rfl, rfl, rfl, rfl, kAlloc24 rfl⟩
  | zk + 3, hk => simp at hk
 case pu1 =>
  intro zk zb zs zo hk hs ho a' u lc W zc hM hc hcs
  match zk, hk with
  | 0, hk => cases hk; simp at hs
  | 1, hk => cases hk; simp at hs
  | 2, hk => cases hk; simp at hs
  | zk + 3, hk => simp at hk
 case en1 =>
  intro u1 lc1 W1 hK1 hB1 hO1 hV1 hX1 hA1
  obtain ⟨qr, ho, hl⟩ := hX1 0 _ rfl
  have e1_0 : u1 0 = .pointer (some ⟨lc1 0, 0, none⟩) := (hl 0 rfl).1
  have g1_0 := (hl 0 rfl).2
  have f1_0 := h0.kept hK1
  have q1_0 : W1.heap[(lc1 0)]? = some (.cells #[.bool ya0, .slice yp0 yl0 yd0] 24) := by
   exact qr
  obtain ⟨qr, ho, hl⟩ := hX1 1 _ rfl
  have e1_1 : u1 1 = .pointer (some ⟨lc1 1, 0, none⟩) := (hl 1 rfl).1
  have g1_1 := (hl 1 rfl).2
  have f1_1 := h1.kept hK1
  have q1_1 : W1.heap[(lc1 1)]? = some (.cells #[.bool ya1, .slice yp1 yl1 yd1] 24) := by
   exact qr
  obtain ⟨qr, ho, hl⟩ := hX1 2 _ rfl
  have e1_2 : u1 2 = .pointer (some ⟨lc1 2, 0, none⟩) := (hl 2 rfl).1
  have g1_2 := (hl 2 rfl).2
  have q1_2 : W1.heap[(lc1 2)]? = some (.cells #[.bool false, .slice none 0 0] 24) := by
   exact qr
  have ne1_0_2 := hA1 0 2 _ _ rfl rfl (by decide)
  have ne1_1_2 := hA1 1 2 _ _ rfl rfl (by decide)
  simp only [putK, fC, fN, kZ, kS, vA, sI, sZ, sS, e1_0, e1_1, e1_2]
  have hBt1 := hB0.trans hB1
  clear hV1 hX1 hA1
  go_upto_region 1 with fail
  refine rg (n := 9) (t16 := 48) w.heap.size [] [.val (.agg #[.bool ya0, .slice yp0 yl0 yd0]), .val (.agg #[.bool ya1, .slice yp1 yl1 yd1]), .k (tup3 (.k (num z)) (.k (num t)) (vZ)), .k (tup3 (.k (num z)) (.k (num t)) (vZ)), .k (num z), .k (num t), vZ, .any, .any, .any, .any, vZ] [(0, 9), (1, 10), (2, 11), (3, 8), (4, 12), (5, 13), (6, 14), (7, 5), (8, 6), (11, 7)] [⟨24, some 7, 0, pt, 2, [.c #[.bool false, .slice none 0 0]], [(9, 0, 4)]⟩, ⟨24, some 8, 0, pt, 2, [.c #[.bool false, .slice none 0 0]], [(10, 0, 5)]⟩] ?ok2 ?st2 ?al2 ?pu2 ?en2
  case ok2 => exact BxOK.fresh rfl hBt1.size
  case st2 =>
   intro zi zo ho hro a' u lc W hM
   match zi, ho, hro with
   | 0, ho, _ => cases ho; exact wn (kL24 rfl (hM.ol 2) (hM.o0 q1_0) rfl)
   | 1, ho, _ => cases ho; exact wn (kL24 rfl (hM.ol 3) (hM.o0 q1_1) rfl)
   | 2, ho, _ => cases ho; exact wn (kCall2 rfl may68 (hM.d 0 9 rfl) (hM.d 1 10 rfl) (c68 HY.out HF.out (f1_0.kept hM.kept) (f1_1.kept hM.kept)))
   | 3, ho, _ => cases ho; exact wn (kMove rfl (hM.d 2 11 rfl))
   | 4, ho, _ => cases ho; exact wn (kEx30 rfl (hM.d 3 8 rfl))
   | 5, ho, _ => cases ho; exact wn (kEx31 rfl (hM.d 3 8 rfl))
   | 6, ho, _ => cases ho; exact wn (kEx32 rfl (hM.d 3 8 rfl))
   | 7, _, hro => exact nr1 hro (by kernel_rfl)
   | 8, _, hro => exact nr1 hro (by kernel_rfl)
   | 9, _, hro => exact nr1 hro (by kernel_rfl)
   | 10, _, hro => exact nr1 hro (by kernel_rfl)
   | 11, ho, _ => cases ho; exact wn (kAssign rfl (hM.d 6 14 rfl))
   | zk + 12, ho, _ => simp at ho
  case al2 =>
   intro zk zb zi zo hk ha ho a' u lc W hM
   match zk, hk with
   | 0, hk => cases hk; cases ha; cases ho; exact ⟨rfl, rfl, rfl, rfl, kAlloc24 rfl⟩
   | 1, hk => cases hk; cases ha; cases ho; exact ⟨rfl, rfl, rfl, rfl, kAlloc24 rfl⟩
   | zk + 2, hk => simp at hk
  case pu2 =>
   intro zk zb zs zo hk hs ho a' u lc W zc hM hc hcs
   match zk, hk with
   | 0, hk =>
    cases hk
    simp only [List.mem_cons, List.not_mem_nil, or_false] at hs
    rcases hs with rfl
    · cases ho
      obtain ⟨sb, sp, sl, sc, e⟩ := (show Is (num z) (u 4) W from (hM.kd 4)).form
      exact kPut rfl e ((hM.v 7 5 rfl).trans (hM.loc 0 _ 7 rfl rfl (by kernel_rfl))) (hM.v 4 12 rfl) hc hcs sz24
   | 1, hk =>
    cases hk
    simp only [List.mem_cons, List.not_mem_nil, or_false] at hs
    rcases hs with rfl
    · cases ho
      obtain ⟨sb, sp, sl, sc, e⟩ := (show Is (num t) (u 5) W from (hM.kd 5)).form
      exact kPut rfl e ((hM.v 8 6 rfl).trans (hM.loc 1 _ 8 rfl rfl (by kernel_rfl))) (hM.v 5 13 rfl) hc hcs sz24
   | zk + 2, hk => simp at hk
  case en2 =>
   intro u2 lc2 W2 hK2 hB2 hO2 hV2 hX2 hA2
   have e2_0 := kv (hV2 0 9 rfl) rfl
   have e2_1 := kv (hV2 1 10 rfl) rfl
   have k2_4 := kk (hV2 4 12 rfl) rfl
   have k2_5 := kk (hV2 5 13 rfl) rfl
   obtain ⟨qr, ho, hl⟩ := hX2 0 _ rfl
   have e2_7 : u2 7 = .pointer (some ⟨lc2 0, 0, none⟩) := (hl 7 rfl).1
   have g2_0 := (hl 7 rfl).2
   obtain ⟨x2_9, y2_9, z2_9, c2_9, es2_9⟩ := k2_4.form
   have sk2_9 : Is (num z) (.agg #[.bool x2_9, .slice y2_9 z2_9 c2_9]) W2 := by rw [← es2_9]; exact k2_4
   have q2_0 : W2.heap[(lc2 0)]? = some (.cells #[.bool x2_9, .slice y2_9 z2_9 c2_9] 24) := by
    rw [contAll_one rfl (cs := #[.bool x2_9, .slice y2_9 z2_9 c2_9]) (by rw [es2_9]; rfl) rfl] at qr; exact qr
   obtain ⟨qr, ho, hl⟩ := hX2 1 _ rfl
   have e2_8 : u2 8 = .pointer (some ⟨lc2 1, 0, none⟩) := (hl 8 rfl).1
   have g2_1 := (hl 8 rfl).2
   obtain ⟨x2_10, y2_10, z2_10, c2_10, es2_10⟩ := k2_5.form
   have ne2_0_1_2 := Nat.ne_of_lt (Nat.lt_of_lt_of_le (Array.getElem?_eq_some_iff.1 q1_2).1 g2_0)
   have ne2_1_1_2 := Nat.ne_of_lt (Nat.lt_of_lt_of_le (Array.getElem?_eq_some_iff.1 q1_2).1 g2_1)
   have q2_1_2 := oth0 hO2 q1_2
   simp only [putK, fC, fN, kZ, kS, vV, vA, vK, sI, sZ, sS, e2_7, e2_8]
   have hBt2 := hBt1.trans hB2
   clear hV2 hX2 hA2
   go_upto_region 2 with fail
   refine rg (n := 9) (t16 := 48) w.heap.size [(lc1 2)] [.val (.agg #[.bool x2_9, .slice y2_9 z2_9 c2_9]), .any] [(0, 15)] [⟨24, none, (lc1 2), pt, 2, [.c #[.bool false, .slice none 0 0]], [(1, 0, 0)]⟩] ?ok3 ?st3 ?al3 ?pu3 ?en3
   case ok3 => exact BxOK.one ⟨(Nat.le_trans hB0.size g1_2), ⟨_, q2_1_2, rfl, rfl, rfl⟩, by simp, (by decide : (24 : Nat) ≠ 48)⟩ rfl hBt2.size
   case st3 =>
    intro zi zo ho hro a' u lc W hM
    match zi, ho, hro with
    | 0, ho, _ => cases ho; exact wn (kL24 rfl (hM.ol 5) (hM.o1 q2_0 (by omega)) rfl)
    | 1, _, hro => exact nr1 hro (by kernel_rfl)
    | zk + 2, ho, _ => simp at ho
   case al3 =>
    intro zk zb zi zo hk ha ho a' u lc W hM
    match zk, hk with
    | 0, hk => cases hk; cases ha
    | zk + 1, hk => simp at hk
   case pu3 =>
    intro zk zb zs zo hk hs ho a' u lc W zc hM hc hcs
    match zk, hk with
    | 0, hk =>
     cases hk
     simp only [List.mem_cons, List.not_mem_nil, or_false] at hs
     rcases hs with rfl
     · cases ho
       have e : u 0 = .agg #[.bool x2_9, .slice y2_9 z2_9 c2_9] := hM.kd 0
       exact kPut rfl e ((hM.ol 4).trans (show _ = Value.pointer (some ⟨lc 0, 0, none⟩) from by rw [show lc 0 = (lc1 2) from hM.locO 0 _ rfl rfl]; rfl)) (hM.v 0 15 rfl) hc hcs sz24
    | zk + 1, hk => simp at hk
   case en3 =>
    intro u3 lc3 W3 hK3 hB3 hO3 hV3 hX3 hA3
    have e3_0 := kv (hV3 0 15 rfl) rfl
    obtain ⟨qr, ho, hl⟩ := hX3 0 _ rfl
    have elc : lc3 0 = (lc1 2) := ho rfl
    rw [elc] at qr
    have f3_0 := sk2_9.kept hK3
    have q3_0 : W3.heap[(lc1 2)]? = some (.cells #[.bool x2_9, .slice y2_9 z2_9 c2_9] 24) := by
     rw [contAll_one rfl (cs := #[.bool x2_9, .slice y2_9 z2_9 c2_9]) (by rw [e3_0]; rfl) rfl] at qr; exact qr
    simp only [putK, fC, fN, kZ, vV, sI, sZ, sS]
    have hBt3 := hBt2.trans hB3
    clear hV3 hX3 hA3
    have cr0 := cell_of q3_0 0 rfl
    have cr1 := cell_of q3_0 1 rfl
    go_wp2
    exact bodyPost_ret (v := .agg #[.bool x2_9, .slice y2_9 z2_9 c2_9]) (by simp [results, Tryz.results74, go_sem, cr0, cr1]) rfl ⟨_, rfl, f3_0, hBt3⟩
theorem c89 {a b c d g e q1 x1 x2 n h m q2 k t1 t2 t3 t4 : Int} {v0 v1 : Value} {w : World} (hg : ((Int.gcd b d : Nat) : Int) = g) (hg0 : g ≠ 0) (f1 : Floor b g e t1) (f2 : Floor d g q1 t2) (hx1 : a * q1 = x1) (hx2 : c * e = x2) (hn : x1 + x2 = n) (hh : ((Int.gcd n g : Nat) : Int) = h) (hh0 : h ≠ 0) (f3 : Floor n h m t3) (f4 : Floor d h q2 t4) (hk : e * q2 = k) (c1 : x1.natAbs < Cap) (c2 : x2.natAbs < Cap) (c3 : n.natAbs < Cap) (c4 : k.natAbs < Cap) (h0 : Is (fr a b) v0 w) (h1 : Is (fr c d) v1 w) : Calls Tryz.prog 89 #[v0, v1] w (Ret (.k (fr m k)) w) := by
 obtain ⟨ya0, yp0, yl0, yd0, ye0, yq0, ym0, yr0, rfl, yg0, yk0⟩ := id h0
 replace yg0 : Is (num a) (.agg #[.bool ya0, .slice yp0 yl0 yd0]) w := yg0
 replace yk0 : Is (num b) (.agg #[.bool ye0, .slice yq0 ym0 yr0]) w := yk0
 obtain ⟨ya1, yp1, yl1, yd1, ye1, yq1, ym1, yr1, rfl, yg1, yk1⟩ := id h1
 replace yg1 : Is (num c) (.agg #[.bool ya1, .slice yp1 yl1 yd1]) w := yg1
 replace yk1 : Is (num d) (.agg #[.bool ye1, .slice yq1 ym1 yr1]) w := yk1
 have hB0 := Below.refl w.heap.size w
 have HG := Lib.hid hg
 have HG0 := Lib.hid hg0
 have F1 := Lib.hid f1
 have F2 := Lib.hid f2
 have HX1 := Lib.hid hx1
 have HX2 := Lib.hid hx2
 have HN := Lib.hid hn
 have HH := Lib.hid hh
 have HH0 := Lib.hid hh0
 have F3 := Lib.hid f3
 have F4 := Lib.hid f4
 have HK := Lib.hid hk
 have C1 := Lib.hid c1
 have C2 := Lib.hid c2
 have C3 := Lib.hid c3
 have C4 := Lib.hid c4
 clear hg hg0 f1 f2 hx1 hx2 hn hh hh0 f3 f4 hk c1 c2 c3 c4
 go_enter Tryz.func89, Tryz.ntmps89
 go_upto_region 0 with fail
 refine rg (n := 9) (t16 := 48) w.heap.size [] [.any, .any, .any] [(0, 2), (1, 3), (2, 4)] [⟨73, some 0, 0, pt, 4, [.c #[.bool ya0, .slice yp0 yl0 yd0, .bool ye0, .slice yq0 ym0 yr0]], []⟩, ⟨73, some 1, 0, pt, 4, [.c #[.bool ya1, .slice yp1 yl1 yd1, .bool ye1, .slice yq1 ym1 yr1]], []⟩, ⟨73, some 2, 0, pt, 4, [.c #[.bool false, .slice none 0 0, .bool false, .slice none 0 0]], []⟩] ?ok1 ?st1 ?al1 ?pu1 ?en1
 case ok1 => exact BxOK.fresh rfl hB0.size
 case st1 =>
  intro zi zo ho hro a' u lc W hM
  match zi, ho, hro with
  | 0, _, hro => exact nr1 hro (by kernel_rfl)
  | 1, _, hro => exact nr1 hro (by kernel_rfl)
  | 2, _, hro => exact nr1 hro (by kernel_rfl)
  | zk + 3, ho, _ => simp at ho
 case al1 =>
  intro zk zb zi zo hk ha ho a' u lc W hM
  match zk, hk with
  | 0, hk => cases hk; cases ha; cases ho; exact ⟨rfl, rfl, rfl, rfl, kBox rfl (hM.ol 0)⟩
  | 1, hk => cases hk; cases ha; cases ho; exact ⟨rfl, rfl, rfl, rfl, kBox rfl (hM.ol 1)⟩
  | 2, hk => cases hk; cases ha; cases ho; exact ⟨rfl, rfl, rfl, rfl, kAlloc73 rfl⟩
  | zk + 3, hk => simp at hk
 case pu1 =>
  intro zk zb zs zo hk hs ho a' u lc W zc hM hc hcs
  match zk, hk with
  | 0, hk => cases hk; simp at hs
  | 1, hk => cases hk; simp at hs
  | 2, hk => cases hk; simp at hs
  | zk + 3, hk => simp at hk
 case en1 =>
  intro u1 lc1 W1 hK1 hB1 hO1 hV1 hX1 hA1
  obtain ⟨qr, ho, hl⟩ := hX1 0 _ rfl
  have e1_0 : u1 0 = .pointer (some ⟨lc1 0, 0, none⟩) := (hl 0 rfl).1
  have g1_0 := (hl 0 rfl).2
  have f1_1 := yg0.kept hK1
  have f1_2 := yk0.kept hK1
  have q1_0 : W1.heap[(lc1 0)]? = some (.cells #[.bool ya0, .slice yp0 yl0 yd0, .bool ye0, .slice yq0 ym0 yr0] 73) := by
   exact qr
  obtain ⟨qr, ho, hl⟩ := hX1 1 _ rfl
  have e1_1 : u1 1 = .pointer (some ⟨lc1 1, 0, none⟩) := (hl 1 rfl).1
  have g1_1 := (hl 1 rfl).2
  have f1_4 := yg1.kept hK1
  have f1_5 := yk1.kept hK1
  have q1_1 : W1.heap[(lc1 1)]? = some (.cells #[.bool ya1, .slice yp1 yl1 yd1, .bool ye1, .slice yq1 ym1 yr1] 73) := by
   exact qr
  obtain ⟨qr, ho, hl⟩ := hX1 2 _ rfl
  have e1_2 : u1 2 = .pointer (some ⟨lc1 2, 0, none⟩) := (hl 2 rfl).1
  have g1_2 := (hl 2 rfl).2
  have q1_2 : W1.heap[(lc1 2)]? = some (.cells #[.bool false, .slice none 0 0, .bool false, .slice none 0 0] 73) := by
   exact qr
  have ne1_0_2 := hA1 0 2 _ _ rfl rfl (by decide)
  have ne1_1_2 := hA1 1 2 _ _ rfl rfl (by decide)
  simp only [putK, fC, fN, kZ, kS, vA, sI, sZ, sS, e1_0, e1_1, e1_2]
  have hBt1 := hB0.trans hB1
  clear hV1 hX1 hA1
  go_upto_region 1 with fail
  refine rg (n := 9) (t16 := 48) w.heap.size [] [.val (.pointer (some ⟨(lc1 0), 0, none⟩)), .val (.pointer (some ⟨(lc1 0), 2, none⟩)), .val (.agg #[.bool ye0, .slice yq0 ym0 yr0]), .val (.pointer (some ⟨(lc1 1), 0, none⟩)), .val (.pointer (some ⟨(lc1 1), 2, none⟩)), .val (.agg #[.bool ye1, .slice yq1 ym1 yr1]), .k (num g), .any, .any] [(0, 9), (1, 10), (2, 11), (3, 12), (4, 13), (5, 14), (6, 15), (7, 5)] [⟨24, some 7, 0, pt, 2, [.c #[.bool false, .slice none 0 0]], [(8, 0, 6)]⟩] ?ok2 ?st2 ?al2 ?pu2 ?en2
  case ok2 => exact BxOK.fresh rfl hBt1.size
  case st2 =>
   intro zi zo ho hro a' u lc W hM
   match zi, ho, hro with
   | 0, ho, _ => cases ho; exact wn (kField73_0 rfl (hM.ol 2))
   | 1, ho, _ => cases ho; exact wn (kField26_1 rfl (hM.d 0 9 rfl))
   | 2, ho, _ => cases ho; exact wn (kL24 rfl (hM.d 1 10 rfl) (hM.o0 q1_0) rfl)
   | 3, ho, _ => cases ho; exact wn (kField73_0 rfl (hM.ol 3))
   | 4, ho, _ => cases ho; exact wn (kField26_1 rfl (hM.d 3 12 rfl))
   | 5, ho, _ => cases ho; exact wn (kL24 rfl (hM.d 4 13 rfl) (hM.o0 q1_1) rfl)
   | 6, ho, _ => cases ho; exact wn (kCall2 rfl may73 (hM.d 2 11 rfl) (hM.d 5 14 rfl) (c73 HG.out (f1_2.kept hM.kept) (f1_5.kept hM.kept)))
   | 7, _, hro => exact nr1 hro (by kernel_rfl)
   | 8, _, hro => exact nr1 hro (by kernel_rfl)
   | zk + 9, ho, _ => simp at ho
  case al2 =>
   intro zk zb zi zo hk ha ho a' u lc W hM
   match zk, hk with
   | 0, hk => cases hk; cases ha; cases ho; exact ⟨rfl, rfl, rfl, rfl, kAlloc24 rfl⟩
   | zk + 1, hk => simp at hk
  case pu2 =>
   intro zk zb zs zo hk hs ho a' u lc W zc hM hc hcs
   match zk, hk with
   | 0, hk =>
    cases hk
    simp only [List.mem_cons, List.not_mem_nil, or_false] at hs
    rcases hs with rfl
    · cases ho
      obtain ⟨sb, sp, sl, sc, e⟩ := (show Is (num g) (u 6) W from (hM.kd 6)).form
      exact kPut rfl e ((hM.v 7 5 rfl).trans (hM.loc 0 _ 7 rfl rfl (by kernel_rfl))) (hM.v 6 15 rfl) hc hcs sz24
   | zk + 1, hk => simp at hk
  case en2 =>
   intro u2 lc2 W2 hK2 hB2 hO2 hV2 hX2 hA2
   have e2_0 := kv (hV2 0 9 rfl) rfl
   have k2_6 := kk (hV2 6 15 rfl) rfl
   obtain ⟨qr, ho, hl⟩ := hX2 0 _ rfl
   have e2_7 : u2 7 = .pointer (some ⟨lc2 0, 0, none⟩) := (hl 7 rfl).1
   have g2_0 := (hl 7 rfl).2
   obtain ⟨x2_8, y2_8, z2_8, c2_8, es2_8⟩ := k2_6.form
   have sk2_8 : Is (num g) (.agg #[.bool x2_8, .slice y2_8 z2_8 c2_8]) W2 := by rw [← es2_8]; exact k2_6
   have q2_0 : W2.heap[(lc2 0)]? = some (.cells #[.bool x2_8, .slice y2_8 z2_8 c2_8] 24) := by
    rw [contAll_one rfl (cs := #[.bool x2_8, .slice y2_8 z2_8 c2_8]) (by rw [es2_8]; rfl) rfl] at qr; exact qr
   have ne2_0_1_2 := Nat.ne_of_lt (Nat.lt_of_lt_of_le (Array.getElem?_eq_some_iff.1 q1_2).1 g2_0)
   have q2_1_0 := oth0 hO2 q1_0
   have f2_1 := f1_1.kept hK2
   have f2_2 := f1_2.kept hK2
   have q2_1_1 := oth0 hO2 q1_1
   have f2_4 := f1_4.kept hK2
   have f2_5 := f1_5.kept hK2
   have q2_1_2 := oth0 hO2 q1_2
   simp only [putK, fC, fN, kZ, kS, vV, vA, vK, sI, sZ, sS, e2_7]
   have hBt2 := hBt1.trans hB2
   clear hV2 hX2 hA2
   go_upto_region 2 with fail
   refine rg (n := 9) (t16 := 48) w.heap.size [] [.val (.pointer (some ⟨(lc1 0), 0, none⟩)), .val (.pointer (some ⟨(lc1 0), 2, none⟩)), .val (.agg #[.bool ye0, .slice yq0 ym0 yr0]), .val (.agg #[.bool x2_8, .slice y2_8 z2_8 c2_8]), .k (num e), .any, .any] [(0, 16), (1, 17), (2, 18), (3, 19), (4, 20), (5, 6)] [⟨24, some 5, 0, pt, 2, [.c #[.bool false, .slice none 0 0]], [(6, 0, 4)]⟩] ?ok3 ?st3 ?al3 ?pu3 ?en3
   case ok3 => exact BxOK.fresh rfl hBt2.size
   case st3 =>
    intro zi zo ho hro a' u lc W hM
    match zi, ho, hro with
    | 0, ho, _ => cases ho; exact wn (kField73_0 rfl (hM.ol 2))
    | 1, ho, _ => cases ho; exact wn (kField26_1 rfl (hM.d 0 16 rfl))
    | 2, ho, _ => cases ho; exact wn (kL24 rfl (hM.d 1 17 rfl) (hM.o0 q2_1_0) rfl)
    | 3, ho, _ => cases ho; exact wn (kL24 rfl (hM.ol 5) (hM.o0 q2_0) rfl)
    | 4, ho, _ => cases ho; exact wn (kCall2 rfl may74 (hM.d 2 18 rfl) (hM.d 3 19 rfl) (c74 HG0.out F1.out (f2_2.kept hM.kept) (sk2_8.kept hM.kept)))
    | 5, _, hro => exact nr1 hro (by kernel_rfl)
    | 6, _, hro => exact nr1 hro (by kernel_rfl)
    | zk + 7, ho, _ => simp at ho
   case al3 =>
    intro zk zb zi zo hk ha ho a' u lc W hM
    match zk, hk with
    | 0, hk => cases hk; cases ha; cases ho; exact ⟨rfl, rfl, rfl, rfl, kAlloc24 rfl⟩
    | zk + 1, hk => simp at hk
   case pu3 =>
    intro zk zb zs zo hk hs ho a' u lc W zc hM hc hcs
    match zk, hk with
    | 0, hk =>
     cases hk
     simp only [List.mem_cons, List.not_mem_nil, or_false] at hs
     rcases hs with rfl
     · cases ho
       obtain ⟨sb, sp, sl, sc, e⟩ := (show Is (num e) (u 4) W from (hM.kd 4)).form
       exact kPut rfl e ((hM.v 5 6 rfl).trans (hM.loc 0 _ 5 rfl rfl (by kernel_rfl))) (hM.v 4 20 rfl) hc hcs sz24
    | zk + 1, hk => simp at hk
   case en3 =>
    intro u3 lc3 W3 hK3 hB3 hO3 hV3 hX3 hA3
    have e3_0 := kv (hV3 0 16 rfl) rfl
    have k3_4 := kk (hV3 4 20 rfl) rfl
    obtain ⟨qr, ho, hl⟩ := hX3 0 _ rfl
    have e3_5 : u3 5 = .pointer (some ⟨lc3 0, 0, none⟩) := (hl 5 rfl).1
    have g3_0 := (hl 5 rfl).2
    obtain ⟨x3_6, y3_6, z3_6, c3_6, es3_6⟩ := k3_4.form
    have sk3_6 : Is (num e) (.agg #[.bool x3_6, .slice y3_6 z3_6 c3_6]) W3 := by rw [← es3_6]; exact k3_4
    have q3_0 : W3.heap[(lc3 0)]? = some (.cells #[.bool x3_6, .slice y3_6 z3_6 c3_6] 24) := by
     rw [contAll_one rfl (cs := #[.bool x3_6, .slice y3_6 z3_6 c3_6]) (by rw [es3_6]; rfl) rfl] at qr; exact qr
    have ne3_0_1_2 := Nat.ne_of_lt (Nat.lt_of_lt_of_le (Array.getElem?_eq_some_iff.1 q2_1_2).1 g3_0)
    have q3_1_0 := oth0 hO3 q2_1_0
    have f3_1 := f2_1.kept hK3
    have q3_1_1 := oth0 hO3 q2_1_1
    have f3_4 := f2_4.kept hK3
    have f3_5 := f2_5.kept hK3
    have q3_1_2 := oth0 hO3 q2_1_2
    have q3_2_0 := oth0 hO3 q2_0
    have f3_6 := sk2_8.kept hK3
    simp only [putK, fC, fN, kZ, kS, vV, vA, vK, sI, sZ, sS, e3_5]
    have hBt3 := hBt2.trans hB3
    clear hV3 hX3 hA3
    go_upto_region 3 with fail
    refine rg (n := 9) (t16 := 48) w.heap.size [] [.val (.pointer (some ⟨(lc1 0), 0, none⟩)), .val (.pointer (some ⟨(lc1 0), 0, none⟩)), .val (.agg #[.bool ya0, .slice yp0 yl0 yd0]), .val (.pointer (some ⟨(lc1 1), 0, none⟩)), .val (.pointer (some ⟨(lc1 1), 2, none⟩)), .val (.agg #[.bool ye1, .slice yq1 ym1 yr1]), .val (.agg #[.bool x2_8, .slice y2_8 z2_8 c2_8]), .k (num q1), .k (num x1), .val (.pointer (some ⟨(lc1 1), 0, none⟩)), .val (.pointer (some ⟨(lc1 1), 0, none⟩)), .val (.agg #[.bool ya1, .slice yp1 yl1 yd1]), .val (.agg #[.bool x3_6, .slice y3_6 z3_6 c3_6]), .k (num x2), .k (num n), .any, .any] [(0, 21), (1, 22), (2, 23), (3, 24), (4, 25), (5, 26), (6, 27), (7, 28), (8, 29), (9, 30), (10, 31), (11, 32), (12, 33), (13, 34), (14, 35), (15, 7)] [⟨24, some 15, 0, pt, 2, [.c #[.bool false, .slice none 0 0]], [(16, 0, 14)]⟩] ?ok4 ?st4 ?al4 ?pu4 ?en4
    case ok4 => exact BxOK.fresh rfl hBt3.size
    case st4 =>
     intro zi zo ho hro a' u lc W hM
     match zi, ho, hro with
     | 0, ho, _ => cases ho; exact wn (kField73_0 rfl (hM.ol 2))
     | 1, ho, _ => cases ho; exact wn (kField26_0 rfl (hM.d 0 21 rfl))
     | 2, ho, _ => cases ho; exact wn (kL24 rfl (hM.d 1 22 rfl) (hM.o0 q3_1_0) rfl)
     | 3, ho, _ => cases ho; exact wn (kField73_0 rfl (hM.ol 3))
     | 4, ho, _ => cases ho; exact wn (kField26_1 rfl (hM.d 3 24 rfl))
     | 5, ho, _ => cases ho; exact wn (kL24 rfl (hM.d 4 25 rfl) (hM.o0 q3_1_1) rfl)
     | 6, ho, _ => cases ho; exact wn (kL24 rfl (hM.ol 5) (hM.o0 q3_2_0) rfl)
     | 7, ho, _ => cases ho; exact wn (kCall2 rfl may74 (hM.d 5 26 rfl) (hM.d 6 27 rfl) (c74 HG0.out F2.out (f3_5.kept hM.kept) (f3_6.kept hM.kept)))
     | 8, ho, _ => cases ho; exact wn (kCall2 rfl may67 (hM.d 2 23 rfl) (hM.v 7 28 rfl) (c67 HX1.out C1.out (f3_1.kept hM.kept) (hM.kd 7)))
     | 9, ho, _ => cases ho; exact wn (kField73_0 rfl (hM.ol 3))
     | 10, ho, _ => cases ho; exact wn (kField26_0 rfl (hM.d 9 30 rfl))
     | 11, ho, _ => cases ho; exact wn (kL24 rfl (hM.d 10 31 rfl) (hM.o0 q3_1_1) rfl)
     | 12, ho, _ => cases ho; exact wn (kL24 rfl (hM.ol 6) (hM.o0 q3_0) rfl)
     | 13, ho, _ => cases ho; exact wn (kCall2 rfl may67 (hM.d 11 32 rfl) (hM.d 12 33 rfl) (c67 HX2.out C2.out (f3_4.kept hM.kept) (sk3_6.kept hM.kept)))
     | 14, ho, _ => cases ho; exact wn (kCall2 rfl may70 (hM.v 8 29 rfl) (hM.v 13 34 rfl) (c70 HN.out C3.out (hM.kd 8) (hM.kd 13)))
     | 15, _, hro => exact nr1 hro (by kernel_rfl)
     | 16, _, hro => exact nr1 hro (by kernel_rfl)
     | zk + 17, ho, _ => simp at ho
    case al4 =>
     intro zk zb zi zo hk ha ho a' u lc W hM
     match zk, hk with
     | 0, hk => cases hk; cases ha; cases ho; exact ⟨rfl, rfl, rfl, rfl, kAlloc24 rfl⟩
     | zk + 1, hk => simp at hk
    case pu4 =>
     intro zk zb zs zo hk hs ho a' u lc W zc hM hc hcs
     match zk, hk with
     | 0, hk =>
      cases hk
      simp only [List.mem_cons, List.not_mem_nil, or_false] at hs
      rcases hs with rfl
      · cases ho
        obtain ⟨sb, sp, sl, sc, e⟩ := (show Is (num n) (u 14) W from (hM.kd 14)).form
        exact kPut rfl e ((hM.v 15 7 rfl).trans (hM.loc 0 _ 15 rfl rfl (by kernel_rfl))) (hM.v 14 35 rfl) hc hcs sz24
     | zk + 1, hk => simp at hk
    case en4 =>
     intro u4 lc4 W4 hK4 hB4 hO4 hV4 hX4 hA4
     have e4_0 := kv (hV4 0 21 rfl) rfl
     have k4_14 := kk (hV4 14 35 rfl) rfl
     obtain ⟨qr, ho, hl⟩ := hX4 0 _ rfl
     have e4_15 : u4 15 = .pointer (some ⟨lc4 0, 0, none⟩) := (hl 15 rfl).1
     have g4_0 := (hl 15 rfl).2
     obtain ⟨x4_16, y4_16, z4_16, c4_16, es4_16⟩ := k4_14.form
     have sk4_16 : Is (num n) (.agg #[.bool x4_16, .slice y4_16 z4_16 c4_16]) W4 := by rw [← es4_16]; exact k4_14
     have q4_0 : W4.heap[(lc4 0)]? = some (.cells #[.bool x4_16, .slice y4_16 z4_16 c4_16] 24) := by
      rw [contAll_one rfl (cs := #[.bool x4_16, .slice y4_16 z4_16 c4_16]) (by rw [es4_16]; rfl) rfl] at qr; exact qr
     have ne4_0_1_2 := Nat.ne_of_lt (Nat.lt_of_lt_of_le (Array.getElem?_eq_some_iff.1 q3_1_2).1 g4_0)
     have q4_1_1 := oth0 hO4 q3_1_1
     have f4_5 := f3_5.kept hK4
     have q4_1_2 := oth0 hO4 q3_1_2
     have q4_2_0 := oth0 hO4 q3_2_0
     have f4_6 := f3_6.kept hK4
     have q4_3_0 := oth0 hO4 q3_0
     have f4_7 := sk3_6.kept hK4
     simp only [putK, fC, fN, kZ, kS, vV, vA, vK, sI, sZ, sS, e4_15]
     have hBt4 := hBt3.trans hB4
     clear hV4 hX4 hA4
     go_upto_region 4 with fail
     refine rg (n := 9) (t16 := 48) w.heap.size [] [.val (.agg #[.bool x4_16, .slice y4_16 z4_16 c4_16]), .val (.agg #[.bool x2_8, .slice y2_8 z2_8 c2_8]), .k (num h), .any, .any] [(0, 36), (1, 37), (2, 38), (3, 8)] [⟨24, some 3, 0, pt, 2, [.c #[.bool false, .slice none 0 0]], [(4, 0, 2)]⟩] ?ok5 ?st5 ?al5 ?pu5 ?en5
     case ok5 => exact BxOK.fresh rfl hBt4.size
     case st5 =>
      intro zi zo ho hro a' u lc W hM
      match zi, ho, hro with
      | 0, ho, _ => cases ho; exact wn (kL24 rfl (hM.ol 7) (hM.o0 q4_0) rfl)
      | 1, ho, _ => cases ho; exact wn (kL24 rfl (hM.ol 5) (hM.o0 q4_2_0) rfl)
      | 2, ho, _ => cases ho; exact wn (kCall2 rfl may73 (hM.d 0 36 rfl) (hM.d 1 37 rfl) (c73 HH.out (sk4_16.kept hM.kept) (f4_6.kept hM.kept)))
      | 3, _, hro => exact nr1 hro (by kernel_rfl)
      | 4, _, hro => exact nr1 hro (by kernel_rfl)
      | zk + 5, ho, _ => simp at ho
     case al5 =>
      intro zk zb zi zo hk ha ho a' u lc W hM
      match zk, hk with
      | 0, hk => cases hk; cases ha; cases ho; exact ⟨rfl, rfl, rfl, rfl, kAlloc24 rfl⟩
      | zk + 1, hk => simp at hk
     case pu5 =>
      intro zk zb zs zo hk hs ho a' u lc W zc hM hc hcs
      match zk, hk with
      | 0, hk =>
       cases hk
       simp only [List.mem_cons, List.not_mem_nil, or_false] at hs
       rcases hs with rfl
       · cases ho
         obtain ⟨sb, sp, sl, sc, e⟩ := (show Is (num h) (u 2) W from (hM.kd 2)).form
         exact kPut rfl e ((hM.v 3 8 rfl).trans (hM.loc 0 _ 3 rfl rfl (by kernel_rfl))) (hM.v 2 38 rfl) hc hcs sz24
      | zk + 1, hk => simp at hk
     case en5 =>
      intro u5 lc5 W5 hK5 hB5 hO5 hV5 hX5 hA5
      have e5_0 := kv (hV5 0 36 rfl) rfl
      have k5_2 := kk (hV5 2 38 rfl) rfl
      obtain ⟨qr, ho, hl⟩ := hX5 0 _ rfl
      have e5_3 : u5 3 = .pointer (some ⟨lc5 0, 0, none⟩) := (hl 3 rfl).1
      have g5_0 := (hl 3 rfl).2
      obtain ⟨x5_4, y5_4, z5_4, c5_4, es5_4⟩ := k5_2.form
      have sk5_4 : Is (num h) (.agg #[.bool x5_4, .slice y5_4 z5_4 c5_4]) W5 := by rw [← es5_4]; exact k5_2
      have q5_0 : W5.heap[(lc5 0)]? = some (.cells #[.bool x5_4, .slice y5_4 z5_4 c5_4] 24) := by
       rw [contAll_one rfl (cs := #[.bool x5_4, .slice y5_4 z5_4 c5_4]) (by rw [es5_4]; rfl) rfl] at qr; exact qr
      have ne5_0_1_2 := Nat.ne_of_lt (Nat.lt_of_lt_of_le (Array.getElem?_eq_some_iff.1 q4_1_2).1 g5_0)
      have q5_1_1 := oth0 hO5 q4_1_1
      have f5_5 := f4_5.kept hK5
      have q5_1_2 := oth0 hO5 q4_1_2
      have q5_3_0 := oth0 hO5 q4_3_0
      have f5_7 := f4_7.kept hK5
      have q5_4_0 := oth0 hO5 q4_0
      have f5_8 := sk4_16.kept hK5
      simp only [putK, fC, fN, kZ, kS, vV, vA, vK, sI, sZ, sS, e5_3]
      have hBt5 := hBt4.trans hB5
      clear hV5 hX5 hA5
      go_upto_region 5 with fail
      refine rg (n := 9) (t16 := 48) w.heap.size [(lc1 2)] [.val (.agg #[.bool x4_16, .slice y4_16 z4_16 c4_16]), .val (.agg #[.bool x5_4, .slice y5_4 z5_4 c5_4]), .k (num m), .val (.agg #[.bool x3_6, .slice y3_6 z3_6 c3_6]), .val (.pointer (some ⟨(lc1 1), 0, none⟩)), .val (.pointer (some ⟨(lc1 1), 2, none⟩)), .val (.agg #[.bool ye1, .slice yq1 ym1 yr1]), .val (.agg #[.bool x5_4, .slice y5_4 z5_4 c5_4]), .k (num q2), .k (num k), .k (fr m k), .k (fr m k), .any] [(0, 39), (1, 40), (2, 41), (3, 42), (4, 43), (5, 44), (6, 45), (7, 46), (8, 47), (9, 48), (10, 49), (11, 50)] [⟨73, none, (lc1 2), pt, 4, [.c #[.bool false, .slice none 0 0, .bool false, .slice none 0 0]], [(12, 0, 11)]⟩] ?ok6 ?st6 ?al6 ?pu6 ?en6
      case ok6 => exact BxOK.one ⟨(Nat.le_trans hB0.size g1_2), ⟨_, q5_1_2, rfl, rfl, rfl⟩, by simp, (by decide : (73 : Nat) ≠ 48)⟩ rfl hBt5.size
      case st6 =>
       intro zi zo ho hro a' u lc W hM
       match zi, ho, hro with
       | 0, ho, _ => cases ho; exact wn (kL24 rfl (hM.ol 7) (hM.o1 q5_4_0 (by omega)) rfl)
       | 1, ho, _ => cases ho; exact wn (kL24 rfl (hM.ol 8) (hM.o1 q5_0 (by omega)) rfl)
       | 2, ho, _ => cases ho; exact wn (kCall2 rfl may74 (hM.d 0 39 rfl) (hM.d 1 40 rfl) (c74 HH0.out F3.out (f5_8.kept hM.kept) (sk5_4.kept hM.kept)))
       | 3, ho, _ => cases ho; exact wn (kL24 rfl (hM.ol 6) (hM.o1 q5_3_0 (by omega)) rfl)
       | 4, ho, _ => cases ho; exact wn (kField73_0 rfl (hM.ol 3))
       | 5, ho, _ => cases ho; exact wn (kField26_1 rfl (hM.d 4 43 rfl))
       | 6, ho, _ => cases ho; exact wn (kL24 rfl (hM.d 5 44 rfl) (hM.o1 q5_1_1 (by omega)) rfl)
       | 7, ho, _ => cases ho; exact wn (kL24 rfl (hM.ol 8) (hM.o1 q5_0 (by omega)) rfl)
       | 8, ho, _ => cases ho; exact wn (kCall2 rfl may74 (hM.d 6 45 rfl) (hM.d 7 46 rfl) (c74 HH0.out F4.out (f5_5.kept hM.kept) (sk5_4.kept hM.kept)))
       | 9, ho, _ => cases ho; exact wn (kCall2 rfl may67 (hM.d 3 42 rfl) (hM.v 8 47 rfl) (c67 HK.out C4.out (f5_7.kept hM.kept) (hM.kd 8)))
       | 10, ho, _ =>
        cases ho
        refine .inl ⟨wanted_none rfl, ?_⟩
        obtain ⟨sbx, spx, slx, scx, ex⟩ := (show Is (num m) _ W from (hM.kd 2)).form
        obtain ⟨sby, spy, sly, scy, ey⟩ := (show Is (num k) _ W from (hM.kd 9)).form
        exact kBuild26 rfl ((hM.v 2 41 rfl).trans ex) ((hM.v 9 48 rfl).trans ey) ⟨_, _, _, _, _, _, _, _, rfl, (by rw [← ex]; exact (hM.kd 2)), (by rw [← ey]; exact (hM.kd 9))⟩
       | 11, ho, _ =>
        cases ho
        refine .inl ⟨wanted_none rfl, ?_⟩
        obtain ⟨sb1, sp1, sl1, sc1, sb2, sp2, sl2, sc2, e, sh1, sh2⟩ := (show Is (fr m k) _ W from (hM.kd 10))
        exact kBuild73 rfl ((hM.v 10 49 rfl).trans e) ⟨_, _, _, _, _, _, _, _, rfl, sh1, sh2⟩
       | 12, _, hro => exact nr1 hro (by kernel_rfl)
       | zk + 13, ho, _ => simp at ho
      case al6 =>
       intro zk zb zi zo hk ha ho a' u lc W hM
       match zk, hk with
       | 0, hk => cases hk; cases ha
       | zk + 1, hk => simp at hk
      case pu6 =>
       intro zk zb zs zo hk hs ho a' u lc W zc hM hc hcs
       match zk, hk with
       | 0, hk =>
        cases hk
        simp only [List.mem_cons, List.not_mem_nil, or_false] at hs
        rcases hs with rfl
        · cases ho
          obtain ⟨sb, sp, sl, sc, sb2, sp2, sl2, sc2, e, _⟩ := (show Is (fr m k) (u 11) W from (hM.kd 11))
          exact kPut rfl e ((hM.ol 4).trans (show _ = Value.pointer (some ⟨lc 0, 0, none⟩) from by rw [show lc 0 = (lc1 2) from hM.locO 0 _ rfl rfl]; rfl)) (hM.v 11 50 rfl) hc hcs sz73
       | zk + 1, hk => simp at hk
      case en6 =>
       intro u6 lc6 W6 hK6 hB6 hO6 hV6 hX6 hA6
       have k6_11 := kk (hV6 11 50 rfl) rfl
       obtain ⟨qr, ho, hl⟩ := hX6 0 _ rfl
       have elc : lc6 0 = (lc1 2) := ho rfl
       rw [elc] at qr
       obtain ⟨x6_12, y6_12, z6_12, c6_12, x26_12, y26_12, z26_12, c26_12, es6_12, sa6_12, sb6_12⟩ := id k6_11
       have sk6_12 : Is (fr m k) (.agg #[.bool x6_12, .slice y6_12 z6_12 c6_12, .bool x26_12, .slice y26_12 z26_12 c26_12]) W6 := by rw [← es6_12]; exact k6_11
       have q6_0 : W6.heap[(lc1 2)]? = some (.cells #[.bool x6_12, .slice y6_12 z6_12 c6_12, .bool x26_12, .slice y26_12 z26_12 c26_12] 73) := by
        rw [contAll_one rfl (cs := #[.bool x6_12, .slice y6_12 z6_12 c6_12, .bool x26_12, .slice y26_12 z26_12 c26_12]) (by rw [es6_12]; rfl) rfl] at qr; exact qr
       simp only [putK, fC, fN, kZ, kS, vV, vK, sI, sZ, sS]
       have hBt6 := hBt5.trans hB6
       clear hV6 hX6 hA6
       have cr0 := cell_of q6_0 0 rfl
       have cr1 := cell_of q6_0 1 rfl
       have cr2 := cell_of q6_0 2 rfl
       have cr3 := cell_of q6_0 3 rfl
       go_wp2
       exact bodyPost_ret (v := .agg #[.bool x6_12, .slice y6_12 z6_12 c6_12, .bool x26_12, .slice y26_12 z26_12 c26_12]) (by simp [results, Tryz.results89, go_sem, cr0, cr1, cr2, cr3]) rfl ⟨_, rfl, sk6_12, hBt6⟩
end Go.Proofs.YtihdbjilolmfiaaGreatDoor
