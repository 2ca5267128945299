import Derived.Test.YtihdbjilolmfiaaGreatDoorROrder04
namespace Go.Proofs.YtihdbjilolmfiaaGreatDoor
open Go.RowKit Go.WM Go.WR
attribute [local go_sem] Oper.semAt_some
set_option maxRecDepth 100000 in
set_option maxHeartbeats 4000000 in
theorem c37 {r s : Rat} {v0 v1 : Value} {w : World} (hr : Fs r) (hs : Fs s) (ht : Fs (r + s)) (h0 : Is (frq r) v0 w) (h1 : Is (frq s) v1 w) : Calls Tryz.prog 37 #[v0, v1] w (Ret (.k (frq (r + s))) w) := by
 obtain ⟨ya0, yp0, yl0, yd0, ye0, yq0, ym0, yr0, rfl, yg0, yk0⟩ := id h0
 replace yg0 : Is (num r.num) (.agg #[.bool ya0, .slice yp0 yl0 yd0]) w := yg0
 replace yk0 : Is (num ((r.den : Nat) : Int)) (.agg #[.bool ye0, .slice yq0 ym0 yr0]) w := yk0
 obtain ⟨ya1, yp1, yl1, yd1, ye1, yq1, ym1, yr1, rfl, yg1, yk1⟩ := id h1
 replace yg1 : Is (num s.num) (.agg #[.bool ya1, .slice yp1 yl1 yd1]) w := yg1
 replace yk1 : Is (num ((s.den : Nat) : Int)) (.agg #[.bool ye1, .slice yq1 ym1 yr1]) w := yk1
 have hB0 := Below.refl w.heap.size w
 have HR := Lib.hid hr
 have HS := Lib.hid hs
 have HT := Lib.hid ht
 clear hr hs ht
 go_enter Tryz.func37, Tryz.ntmps37
 go_upto_region 0 with fail
 refine rg (n := 9) (t16 := 48) w.heap.size [] [.any, .any, .any] [(0, 2), (1, 3), (2, 4)] [⟨26, some 0, 0, pt, 4, [.c #[.bool ya0, .slice yp0 yl0 yd0, .bool ye0, .slice yq0 ym0 yr0]], []⟩, ⟨26, some 1, 0, pt, 4, [.c #[.bool ya1, .slice yp1 yl1 yd1, .bool ye1, .slice yq1 ym1 yr1]], []⟩, ⟨26, some 2, 0, pt, 4, [.c #[.bool false, .slice none 0 0, .bool false, .slice none 0 0]], []⟩] ?ok1 ?st1 ?al1 ?pu1 ?en1
 case ok1 => exact BxOK.fresh rfl hB0.size
 case st1 =>
  intro zi zo ho hro a' u lc W hM
  match zi, ho, hro with
  | 0, _, hro => exact nr1 hro (by kernel_rfl)
  | 1, _, hro => exact nr1 hro (by kernel_rfl)
  | 2, _, hro => exact nr1 hro (by kernel_rfl)
  | zk + 3, ho, _ => simp at ho
 case al1 =>
  intro zk zb zi zo hk ha ho a' u lc W hM
  match zk, hk with
  | 0, hk => cases hk; cases ha; cases ho; exact ⟨rfl, rfl, rfl, rfl, kBox rfl (hM.ol 0)⟩
  | 1, hk => cases hk; cases ha; cases ho; exact ⟨rfl, rfl, rfl, rfl, kBox rfl (hM.ol 1)⟩
  | 2, hk => cases hk; cases ha; cases ho; exact ⟨rfl, rfl, rfl, rfl, kAlloc26 rfl⟩
  | zk + 3, hk => simp at hk
 case pu1 =>
  intro zk zb zs zo hk hs ho a' u lc W zc hM hc hcs
  match zk, hk with
  | 0, hk => cases hk; simp at hs
  | 1, hk => cases hk; simp at hs
  | 2, hk => cases hk; simp at hs
  | zk + 3, hk => simp at hk
 case en1 =>
  intro u1 lc1 W1 hK1 hB1 hO1 hV1 hX1 hA1
  obtain ⟨qr, ho, hl⟩ := hX1 0 _ rfl
  have e1_0 : u1 0 = .pointer (some ⟨lc1 0, 0, none⟩) := (hl 0 rfl).1
  have g1_0 := (hl 0 rfl).2
  have f1_0 := h0.kept hK1
  have q1_0 : W1.heap[(lc1 0)]? = some (.cells #[.bool ya0, .slice yp0 yl0 yd0, .bool ye0, .slice yq0 ym0 yr0] 26) := by
   exact qr
  obtain ⟨qr, ho, hl⟩ := hX1 1 _ rfl
  have e1_1 : u1 1 = .pointer (some ⟨lc1 1, 0, none⟩) := (hl 1 rfl).1
  have g1_1 := (hl 1 rfl).2
  have f1_3 := h1.kept hK1
  have q1_1 : W1.heap[(lc1 1)]? = some (.cells #[.bool ya1, .slice yp1 yl1 yd1, .bool ye1, .slice yq1 ym1 yr1] 26) := by
   exact qr
  obtain ⟨qr, ho, hl⟩ := hX1 2 _ rfl
  have e1_2 : u1 2 = .pointer (some ⟨lc1 2, 0, none⟩) := (hl 2 rfl).1
  have g1_2 := (hl 2 rfl).2
  have q1_2 : W1.heap[(lc1 2)]? = some (.cells #[.bool false, .slice none 0 0, .bool false, .slice none 0 0] 26) := by
   exact qr
  have ne1_0_2 := hA1 0 2 _ _ rfl rfl (by decide)
  have ne1_1_2 := hA1 1 2 _ _ rfl rfl (by decide)
  simp only [putK, fC, fN, kZ, kS, vA, sI, sZ, sS, e1_0, e1_1, e1_2]
  have hBt1 := hB0.trans hB1
  clear hV1 hX1 hA1
  go_upto_region 1 with fail
  refine rg (n := 9) (t16 := 48) w.heap.size [] [.val (.agg #[.bool ya0, .slice yp0 yl0 yd0, .bool ye0, .slice yq0 ym0 yr0]), .val (.agg #[.bool ya1, .slice yp1 yl1 yd1, .bool ye1, .slice yq1 ym1 yr1]), .k (tup2 (.k (frq (r + s))) (.val (.int .i64 0))), .k (tup2 (.k (frq (r + s))) (.val (.int .i64 0))), .k (frq (r + s)), .val (.int .i64 0), .any, .any, .val (.int .i64 0)] [(0, 8), (1, 9), (2, 10), (3, 7), (4, 11), (5, 12), (6, 5), (8, 6)] [⟨26, some 6, 0, pt, 4, [.c #[.bool false, .slice none 0 0, .bool false, .slice none 0 0]], [(7, 0, 4)]⟩] ?ok2 ?st2 ?al2 ?pu2 ?en2
  case ok2 => exact BxOK.fresh rfl hBt1.size
  case st2 =>
   intro zi zo ho hro a' u lc W hM
   match zi, ho, hro with
   | 0, ho, _ => cases ho; exact wn (kL26 rfl (hM.ol 2) (hM.o0 q1_0))
   | 1, ho, _ => cases ho; exact wn (kL26 rfl (hM.ol 3) (hM.o0 q1_1))
   | 2, ho, _ => cases ho; exact wn (kCall2 rfl may27 (hM.d 0 8 rfl) (hM.d 1 9 rfl) (c27 HR.out HS.out HT.out (f1_0.kept hM.kept) (f1_3.kept hM.kept)))
   | 3, ho, _ => cases ho; exact wn (kMove rfl (hM.d 2 10 rfl))
   | 4, ho, _ => cases ho; exact wn (kEx20 rfl (hM.d 3 7 rfl))
   | 5, ho, _ => cases ho; exact wn (kEx21 rfl (hM.d 3 7 rfl))
   | 6, _, hro => exact nr1 hro (by kernel_rfl)
   | 7, _, hro => exact nr1 hro (by kernel_rfl)
   | 8, ho, _ => cases ho; exact wn (kAssign rfl (hM.d 5 12 rfl))
   | zk + 9, ho, _ => simp at ho
  case al2 =>
   intro zk zb zi zo hk ha ho a' u lc W hM
   match zk, hk with
   | 0, hk => cases hk; cases ha; cases ho; exact ⟨rfl, rfl, rfl, rfl, kAlloc26 rfl⟩
   | zk + 1, hk => simp at hk
  case pu2 =>
   intro zk zb zs zo hk hs ho a' u lc W zc hM hc hcs
   match zk, hk with
   | 0, hk =>
    cases hk
    simp only [List.mem_cons, List.not_mem_nil, or_false] at hs
    rcases hs with rfl
    · cases ho
      obtain ⟨sb, sp, sl, sc, sb2, sp2, sl2, sc2, e, _⟩ := (show Is (frq (r + s)) (u 4) W from (hM.kd 4))
      refine ⟨rfl, rfl, ?_, ?_, kStore ?_ rfl ((hM.v 6 5 rfl).trans (hM.loc 0 _ 6 rfl rfl (by kernel_rfl))) (hM.v 4 11 rfl) hc ?_ ?_⟩ <;> rw [e]
      · exact Nat.le_of_ble_eq_true rfl
      · rfl
      · exact sz26
      · rw [hcs]; exact Nat.le_of_ble_eq_true rfl
      · rfl
   | zk + 1, hk => simp at hk
  case en2 =>
   intro u2 lc2 W2 hK2 hB2 hO2 hV2 hX2 hA2
   have e2_0 := kv (hV2 0 8 rfl) rfl
   have k2_4 := kk (hV2 4 11 rfl) rfl
   obtain ⟨qr, ho, hl⟩ := hX2 0 _ rfl
   have e2_6 : u2 6 = .pointer (some ⟨lc2 0, 0, none⟩) := (hl 6 rfl).1
   have g2_0 := (hl 6 rfl).2
   obtain ⟨x2_7, y2_7, z2_7, c2_7, x22_7, y22_7, z22_7, c22_7, es2_7, sa2_7, sb2_7⟩ := id k2_4
   have sk2_7 : Is (frq (r + s)) (.agg #[.bool x2_7, .slice y2_7 z2_7 c2_7, .bool x22_7, .slice y22_7 z22_7 c22_7]) W2 := by rw [← es2_7]; exact k2_4
   have q2_0 : W2.heap[(lc2 0)]? = some (.cells #[.bool x2_7, .slice y2_7 z2_7 c2_7, .bool x22_7, .slice y22_7 z22_7 c22_7] 26) := by
    rw [contAll_one rfl (cs := #[.bool x2_7, .slice y2_7 z2_7 c2_7, .bool x22_7, .slice y22_7 z22_7 c22_7]) (by rw [es2_7]; rfl) rfl] at qr; exact qr
   have ne2_0_1_2 := Nat.ne_of_lt (Nat.lt_of_lt_of_le (Array.getElem?_eq_some_iff.1 q1_2).1 g2_0)
   have q2_1_2 := oth0 hO2 q1_2
   simp only [putK, fC, fN, kZ, kS, vV, vA, vK, sI, sZ, sS, e2_6]
   have hBt2 := hBt1.trans hB2
   clear hV2 hX2 hA2
   go_upto_region 2 with fail
   refine rg0 (n := 9) (t16 := 48) w.heap.size [.val (.int .i64 0), .val (.bool false)] [(0, 13), (1, 14)] hBt2.size ?st3 ?en3
   case st3 =>
    intro zi zo ho hro a' u lc W hM
    match zi, ho, hro with
    | 0, ho, _ => cases ho; exact wn (kMove rfl (hM.ol 6))
    | 1, ho, _ => cases ho; exact wn (kNeq29 rfl (hM.d 0 13 rfl) rfl (by decide))
    | zk + 2, ho, _ => simp at ho
   case en3 =>
    intro u3 lc3 W3 hK3 hB3 hO3 hV3 hX3 hA3
    have q3_1_2 := oth0 hO3 q2_1_2
    have q3_2_0 := oth0 hO3 q2_0
    have f3_6 := sk2_7.kept hK3
    simp only [putK, fC, fN, kZ, kS, vV, sI, sZ, sS]
    have hBt3 := hBt2.trans hB3
    clear hV3 hX3 hA3
    go_upto_region 4 with fail
    refine rg (n := 9) (t16 := 48) w.heap.size [(lc1 2)] [.val (.agg #[.bool x2_7, .slice y2_7 z2_7 c2_7, .bool x22_7, .slice y22_7 z22_7 c22_7]), .any] [(0, 16)] [⟨26, none, (lc1 2), pt, 4, [.c #[.bool false, .slice none 0 0, .bool false, .slice none 0 0]], [(1, 0, 0)]⟩] ?ok4 ?st4 ?al4 ?pu4 ?en4
    case ok4 => exact BxOK.one ⟨(Nat.le_trans hB0.size g1_2), ⟨_, q3_1_2, rfl, rfl, rfl⟩, by simp, (by decide : (26 : Nat) ≠ 48)⟩ rfl hBt3.size
    case st4 =>
     intro zi zo ho hro a' u lc W hM
     match zi, ho, hro with
     | 0, ho, _ => cases ho; exact wn (kL26 rfl (hM.ol 5) (hM.o1 q3_2_0 (by omega)))
     | 1, _, hro => exact nr1 hro (by kernel_rfl)
     | zk + 2, ho, _ => simp at ho
    case al4 =>
     intro zk zb zi zo hk ha ho a' u lc W hM
     match zk, hk with
     | 0, hk => cases hk; cases ha
     | zk + 1, hk => simp at hk
    case pu4 =>
     intro zk zb zs zo hk hs ho a' u lc W zc hM hc hcs
     match zk, hk with
     | 0, hk =>
      cases hk
      simp only [List.mem_cons, List.not_mem_nil, or_false] at hs
      rcases hs with rfl
      · cases ho
        have e : u 0 = .agg #[.bool x2_7, .slice y2_7 z2_7 c2_7, .bool x22_7, .slice y22_7 z22_7 c22_7] := hM.kd 0
        refine ⟨rfl, rfl, ?_, ?_, kStore ?_ rfl ((hM.ol 4).trans (show _ = Value.pointer (some ⟨lc 0, 0, none⟩) from by rw [show lc 0 = (lc1 2) from hM.locO 0 _ rfl rfl]; rfl)) (hM.v 0 16 rfl) hc ?_ ?_⟩ <;> rw [e]
        · exact Nat.le_of_ble_eq_true rfl
        · rfl
        · exact sz26
        · rw [hcs]; exact Nat.le_of_ble_eq_true rfl
        · rfl
     | zk + 1, hk => simp at hk
    case en4 =>
     intro u4 lc4 W4 hK4 hB4 hO4 hV4 hX4 hA4
     have e4_0 := kv (hV4 0 16 rfl) rfl
     obtain ⟨qr, ho, hl⟩ := hX4 0 _ rfl
     have elc : lc4 0 = (lc1 2) := ho rfl
     rw [elc] at qr
     have f4_0 := f3_6.kept hK4
     have q4_0 : W4.heap[(lc1 2)]? = some (.cells #[.bool x2_7, .slice y2_7 z2_7 c2_7, .bool x22_7, .slice y22_7 z22_7 c22_7] 26) := by
      rw [contAll_one rfl (cs := #[.bool x2_7, .slice y2_7 z2_7 c2_7, .bool x22_7, .slice y22_7 z22_7 c22_7]) (by rw [e4_0]; rfl) rfl] at qr; exact qr
     simp only [putK, fC, fN, kZ, vV, sI, sZ, sS]
     have hBt4 := hBt3.trans hB4
     clear hV4 hX4 hA4
     have cr0 := cell_of q4_0 0 rfl
     have cr1 := cell_of q4_0 1 rfl
     have cr2 := cell_of q4_0 2 rfl
     have cr3 := cell_of q4_0 3 rfl
     go_wp2
     exact bodyPost_ret (v := .agg #[.bool x2_7, .slice y2_7 z2_7 c2_7, .bool x22_7, .slice y22_7 z22_7 c22_7]) (by simp [results, Tryz.results37, go_sem, cr0, cr1, cr2, cr3]) rfl ⟨_, rfl, f4_0, hBt4⟩
set_option maxRecDepth 100000 in
set_option maxHeartbeats 4000000 in
theorem c34 {r s : Rat} {v0 v1 : Value} {w : World} (hr : Fs r) (hs : Fs s) (ht : Fs (r * s)) (h0 : Is (frq r) v0 w) (h1 : Is (frq s) v1 w) : Calls Tryz.prog 34 #[v0, v1] w (Ret (.k (frq (r * s))) w) := by
 obtain ⟨ya0, yp0, yl0, yd0, ye0, yq0, ym0, yr0, rfl, yg0, yk0⟩ := id h0
 replace yg0 : Is (num r.num) (.agg #[.bool ya0, .slice yp0 yl0 yd0]) w := yg0
 replace yk0 : Is (num ((r.den : Nat) : Int)) (.agg #[.bool ye0, .slice yq0 ym0 yr0]) w := yk0
 obtain ⟨ya1, yp1, yl1, yd1, ye1, yq1, ym1, yr1, rfl, yg1, yk1⟩ := id h1
 replace yg1 : Is (num s.num) (.agg #[.bool ya1, .slice yp1 yl1 yd1]) w := yg1
 replace yk1 : Is (num ((s.den : Nat) : Int)) (.agg #[.bool ye1, .slice yq1 ym1 yr1]) w := yk1
 have hB0 := Below.refl w.heap.size w
 have HR := Lib.hid hr
 have HS := Lib.hid hs
 have HT := Lib.hid ht
 clear hr hs ht
 go_enter Tryz.func34, Tryz.ntmps34
 go_upto_region 0 with fail
 refine rg (n := 9) (t16 := 48) w.heap.size [] [.any, .any, .any] [(0, 2), (1, 3), (2, 4)] [⟨26, some 0, 0, pt, 4, [.c #[.bool ya0, .slice yp0 yl0 yd0, .bool ye0, .slice yq0 ym0 yr0]], []⟩, ⟨26, some 1, 0, pt, 4, [.c #[.bool ya1, .slice yp1 yl1 yd1, .bool ye1, .slice yq1 ym1 yr1]], []⟩, ⟨26, some 2, 0, pt, 4, [.c #[.bool false, .slice none 0 0, .bool false, .slice none 0 0]], []⟩] ?ok1 ?st1 ?al1 ?pu1 ?en1
 case ok1 => exact BxOK.fresh rfl hB0.size
 case st1 =>
  intro zi zo ho hro a' u lc W hM
  match zi, ho, hro with
  | 0, _, hro => exact nr1 hro (by kernel_rfl)
  | 1, _, hro => exact nr1 hro (by kernel_rfl)
  | 2, _, hro => exact nr1 hro (by kernel_rfl)
  | zk + 3, ho, _ => simp at ho
 case al1 =>
  intro zk zb zi zo hk ha ho a' u lc W hM
  match zk, hk with
  | 0, hk => cases hk; cases ha; cases ho; exact ⟨rfl, rfl, rfl, rfl, kBox rfl (hM.ol 0)⟩
  | 1, hk => cases hk; cases ha; cases ho; exact ⟨rfl, rfl, rfl, rfl, kBox rfl (hM.ol 1)⟩
  | 2, hk => cases hk; cases ha; cases ho; exact ⟨rfl, rfl, rfl, rfl, kAlloc26 rfl⟩
  | zk + 3, hk => simp at hk
 case pu1 =>
  intro zk zb zs zo hk hs ho a' u lc W zc hM hc hcs
  match zk, hk with
  | 0, hk => cases hk; simp at hs
  | 1, hk => cases hk; simp at hs
  | 2, hk => cases hk; simp at hs
  | zk + 3, hk => simp at hk
 case en1 =>
  intro u1 lc1 W1 hK1 hB1 hO1 hV1 hX1 hA1
  obtain ⟨qr, ho, hl⟩ := hX1 0 _ rfl
  have e1_0 : u1 0 = .pointer (some ⟨lc1 0, 0, none⟩) := (hl 0 rfl).1
  have g1_0 := (hl 0 rfl).2
  have f1_0 := h0.kept hK1
  have q1_0 : W1.heap[(lc1 0)]? = some (.cells #[.bool ya0, .slice yp0 yl0 yd0, .bool ye0, .slice yq0 ym0 yr0] 26) := by
   exact qr
  obtain ⟨qr, ho, hl⟩ := hX1 1 _ rfl
  have e1_1 : u1 1 = .pointer (some ⟨lc1 1, 0, none⟩) := (hl 1 rfl).1
  have g1_1 := (hl 1 rfl).2
  have f1_3 := h1.kept hK1
  have q1_1 : W1.heap[(lc1 1)]? = some (.cells #[.bool ya1, .slice yp1 yl1 yd1, .bool ye1, .slice yq1 ym1 yr1] 26) := by
   exact qr
  obtain ⟨qr, ho, hl⟩ := hX1 2 _ rfl
  have e1_2 : u1 2 = .pointer (some ⟨lc1 2, 0, none⟩) := (hl 2 rfl).1
  have g1_2 := (hl 2 rfl).2
  have q1_2 : W1.heap[(lc1 2)]? = some (.cells #[.bool false, .slice none 0 0, .bool false, .slice none 0 0] 26) := by
   exact qr
  have ne1_0_2 := hA1 0 2 _ _ rfl rfl (by decide)
  have ne1_1_2 := hA1 1 2 _ _ rfl rfl (by decide)
  simp only [putK, fC, fN, kZ, kS, vA, sI, sZ, sS, e1_0, e1_1, e1_2]
  have hBt1 := hB0.trans hB1
  clear hV1 hX1 hA1
  go_upto_region 1 with fail
  refine rg (n := 9) (t16 := 48) w.heap.size [] [.val (.agg #[.bool ya0, .slice yp0 yl0 yd0, .bool ye0, .slice yq0 ym0 yr0]), .val (.agg #[.bool ya1, .slice yp1 yl1 yd1, .bool ye1, .slice yq1 ym1 yr1]), .k (tup2 (.k (frq (r * s))) (.val (.int .i64 0))), .k (tup2 (.k (frq (r * s))) (.val (.int .i64 0))), .k (frq (r * s)), .val (.int .i64 0), .any, .any, .val (.int .i64 0)] [(0, 8), (1, 9), (2, 10), (3, 7), (4, 11), (5, 12), (6, 5), (8, 6)] [⟨26, some 6, 0, pt, 4, [.c #[.bool false, .slice none 0 0, .bool false, .slice none 0 0]], [(7, 0, 4)]⟩] ?ok2 ?st2 ?al2 ?pu2 ?en2
  case ok2 => exact BxOK.fresh rfl hBt1.size
  case st2 =>
   intro zi zo ho hro a' u lc W hM
   match zi, ho, hro with
   | 0, ho, _ => cases ho; exact wn (kL26 rfl (hM.ol 2) (hM.o0 q1_0))
   | 1, ho, _ => cases ho; exact wn (kL26 rfl (hM.ol 3) (hM.o0 q1_1))
   | 2, ho, _ => cases ho; exact wn (kCall2 rfl may29 (hM.d 0 8 rfl) (hM.d 1 9 rfl) (c29 HR.out HS.out HT.out (f1_0.kept hM.kept) (f1_3.kept hM.kept)))
   | 3, ho, _ => cases ho; exact wn (kMove rfl (hM.d 2 10 rfl))
   | 4, ho, _ => cases ho; exact wn (kEx20 rfl (hM.d 3 7 rfl))
   | 5, ho, _ => cases ho; exact wn (kEx21 rfl (hM.d 3 7 rfl))
   | 6, _, hro => exact nr1 hro (by kernel_rfl)
   | 7, _, hro => exact nr1 hro (by kernel_rfl)
   | 8, ho, _ => cases ho; exact wn (kAssign rfl (hM.d 5 12 rfl))
   | zk + 9, ho, _ => simp at ho
  case al2 =>
   intro zk zb zi zo hk ha ho a' u lc W hM
   match zk, hk with
   | 0, hk => cases hk; cases ha; cases ho; exact ⟨rfl, rfl, rfl, rfl, kAlloc26 rfl⟩
   | zk + 1, hk => simp at hk
  case pu2 =>
   intro zk zb zs zo hk hs ho a' u lc W zc hM hc hcs
   match zk, hk with
   | 0, hk =>
    cases hk
    simp only [List.mem_cons, List.not_mem_nil, or_false] at hs
    rcases hs with rfl
    · cases ho
      obtain ⟨sb, sp, sl, sc, sb2, sp2, sl2, sc2, e, _⟩ := (show Is (frq (r * s)) (u 4) W from (hM.kd 4))
      refine ⟨rfl, rfl, ?_, ?_, kStore ?_ rfl ((hM.v 6 5 rfl).trans (hM.loc 0 _ 6 rfl rfl (by kernel_rfl))) (hM.v 4 11 rfl) hc ?_ ?_⟩ <;> rw [e]
      · exact Nat.le_of_ble_eq_true rfl
      · rfl
      · exact sz26
      · rw [hcs]; exact Nat.le_of_ble_eq_true rfl
      · rfl
   | zk + 1, hk => simp at hk
  case en2 =>
   intro u2 lc2 W2 hK2 hB2 hO2 hV2 hX2 hA2
   have e2_0 := kv (hV2 0 8 rfl) rfl
   have k2_4 := kk (hV2 4 11 rfl) rfl
   obtain ⟨qr, ho, hl⟩ := hX2 0 _ rfl
   have e2_6 : u2 6 = .pointer (some ⟨lc2 0, 0, none⟩) := (hl 6 rfl).1
   have g2_0 := (hl 6 rfl).2
   obtain ⟨x2_7, y2_7, z2_7, c2_7, x22_7, y22_7, z22_7, c22_7, es2_7, sa2_7, sb2_7⟩ := id k2_4
   have sk2_7 : Is (frq (r * s)) (.agg #[.bool x2_7, .slice y2_7 z2_7 c2_7, .bool x22_7, .slice y22_7 z22_7 c22_7]) W2 := by rw [← es2_7]; exact k2_4
   have q2_0 : W2.heap[(lc2 0)]? = some (.cells #[.bool x2_7, .slice y2_7 z2_7 c2_7, .bool x22_7, .slice y22_7 z22_7 c22_7] 26) := by
    rw [contAll_one rfl (cs := #[.bool x2_7, .slice y2_7 z2_7 c2_7, .bool x22_7, .slice y22_7 z22_7 c22_7]) (by rw [es2_7]; rfl) rfl] at qr; exact qr
   have ne2_0_1_2 := Nat.ne_of_lt (Nat.lt_of_lt_of_le (Array.getElem?_eq_some_iff.1 q1_2).1 g2_0)
   have q2_1_2 := oth0 hO2 q1_2
   simp only [putK, fC, fN, kZ, kS, vV, vA, vK, sI, sZ, sS, e2_6]
   have hBt2 := hBt1.trans hB2
   clear hV2 hX2 hA2
   go_upto_region 2 with fail
   refine rg0 (n := 9) (t16 := 48) w.heap.size [.val (.int .i64 0), .val (.bool false)] [(0, 13), (1, 14)] hBt2.size ?st3 ?en3
   case st3 =>
    intro zi zo ho hro a' u lc W hM
    match zi, ho, hro with
    | 0, ho, _ => cases ho; exact wn (kMove rfl (hM.ol 6))
    | 1, ho, _ => cases ho; exact wn (kNeq29 rfl (hM.d 0 13 rfl) rfl (by decide))
    | zk + 2, ho, _ => simp at ho
   case en3 =>
    intro u3 lc3 W3 hK3 hB3 hO3 hV3 hX3 hA3
    have q3_1_2 := oth0 hO3 q2_1_2
    have q3_2_0 := oth0 hO3 q2_0
    have f3_6 := sk2_7.kept hK3
    simp only [putK, fC, fN, kZ, kS, vV, sI, sZ, sS]
    have hBt3 := hBt2.trans hB3
    clear hV3 hX3 hA3
    go_upto_region 4 with fail
    refine rg (n := 9) (t16 := 48) w.heap.size [(lc1 2)] [.val (.agg #[.bool x2_7, .slice y2_7 z2_7 c2_7, .bool x22_7, .slice y22_7 z22_7 c22_7]), .any] [(0, 16)] [⟨26, none, (lc1 2), pt, 4, [.c #[.bool false, .slice none 0 0, .bool false, .slice none 0 0]], [(1, 0, 0)]⟩] ?ok4 ?st4 ?al4 ?pu4 ?en4
    case ok4 => exact BxOK.one ⟨(Nat.le_trans hB0.size g1_2), ⟨_, q3_1_2, rfl, rfl, rfl⟩, by simp, (by decide : (26 : Nat) ≠ 48)⟩ rfl hBt3.size
    case st4 =>
     intro zi zo ho hro a' u lc W hM
     match zi, ho, hro with
     | 0, ho, _ => cases ho; exact wn (kL26 rfl (hM.ol 5) (hM.o1 q3_2_0 (by omega)))
     | 1, _, hro => exact nr1 hro (by kernel_rfl)
     | zk + 2, ho, _ => simp at ho
    case al4 =>
     intro zk zb zi zo hk ha ho a' u lc W hM
     match zk, hk with
     | 0, hk => cases hk; cases ha
     | zk + 1, hk => simp at hk
    case pu4 =>
     intro zk zb zs zo hk hs ho a' u lc W zc hM hc hcs
     match zk, hk with
     | 0, hk =>
      cases hk
      simp only [List.mem_cons, List.not_mem_nil, or_false] at hs
      rcases hs with rfl
      · cases ho
        have e : u 0 = .agg #[.bool x2_7, .slice y2_7 z2_7 c2_7, .bool x22_7, .slice y22_7 z22_7 c22_7] := hM.kd 0
        refine ⟨rfl, rfl, ?_, ?_, kStore ?_ rfl ((hM.ol 4).trans (show _ = Value.pointer (some ⟨lc 0, 0, none⟩) from by rw [show lc 0 = (lc1 2) from hM.locO 0 _ rfl rfl]; rfl)) (hM.v 0 16 rfl) hc ?_ ?_⟩ <;> rw [e]
        · exact Nat.le_of_ble_eq_true rfl
        · rfl
        · exact sz26
        · rw [hcs]; exact Nat.le_of_ble_eq_true rfl
        · rfl
     | zk + 1, hk => simp at hk
    case en4 =>
     intro u4 lc4 W4 hK4 hB4 hO4 hV4 hX4 hA4
     have e4_0 := kv (hV4 0 16 rfl) rfl
     obtain ⟨qr, ho, hl⟩ := hX4 0 _ rfl
     have elc : lc4 0 = (lc1 2) := ho rfl
     rw [elc] at qr
     have f4_0 := f3_6.kept hK4
     have q4_0 : W4.heap[(lc1 2)]? = some (.cells #[.bool x2_7, .slice y2_7 z2_7 c2_7, .bool x22_7, .slice y22_7 z22_7 c22_7] 26) := by
      rw [contAll_one rfl (cs := #[.bool x2_7, .slice y2_7 z2_7 c2_7, .bool x22_7, .slice y22_7 z22_7 c22_7]) (by rw [e4_0]; rfl) rfl] at qr; exact qr
     simp only [putK, fC, fN, kZ, vV, sI, sZ, sS]
     have hBt4 := hBt3.trans hB4
     clear hV4 hX4 hA4
     have cr0 := cell_of q4_0 0 rfl
     have cr1 := cell_of q4_0 1 rfl
     have cr2 := cell_of q4_0 2 rfl
     have cr3 := cell_of q4_0 3 rfl
     go_wp2
     exact bodyPost_ret (v := .agg #[.bool x2_7, .slice y2_7 z2_7 c2_7, .bool x22_7, .slice y22_7 z22_7 c22_7]) (by simp [results, Tryz.results34, go_sem, cr0, cr1, cr2, cr3]) rfl ⟨_, rfl, f4_0, hBt4⟩
set_option maxRecDepth 100000 in
set_option maxHeartbeats 4000000 in
theorem c36 {r s : Rat} {v0 v1 : Value} {w : World} (hr : Fs r) (hs : Fs s) (ht : Fs (r + -s)) (h0 : Is (frq r) v0 w) (h1 : Is (frq s) v1 w) : Calls Tryz.prog 36 #[v0, v1] w (Ret (.k (frq (r + -s))) w) := by
 obtain ⟨ya0, yp0, yl0, yd0, ye0, yq0, ym0, yr0, rfl, yg0, yk0⟩ := id h0
 replace yg0 : Is (num r.num) (.agg #[.bool ya0, .slice yp0 yl0 yd0]) w := yg0
 replace yk0 : Is (num ((r.den : Nat) : Int)) (.agg #[.bool ye0, .slice yq0 ym0 yr0]) w := yk0
 obtain ⟨ya1, yp1, yl1, yd1, ye1, yq1, ym1, yr1, rfl, yg1, yk1⟩ := id h1
 replace yg1 : Is (num s.num) (.agg #[.bool ya1, .slice yp1 yl1 yd1]) w := yg1
 replace yk1 : Is (num ((s.den : Nat) : Int)) (.agg #[.bool ye1, .slice yq1 ym1 yr1]) w := yk1
 have hB0 := Below.refl w.heap.size w
 have HR := Lib.hid hr
 have HS := Lib.hid hs
 have HT := Lib.hid ht
 clear hr hs ht
 go_enter Tryz.func36, Tryz.ntmps36
 go_upto_region 0 with fail
 refine rg (n := 9) (t16 := 48) w.heap.size [] [.any, .any, .any] [(0, 2), (1, 3), (2, 4)] [⟨26, some 0, 0, pt, 4, [.c #[.bool ya0, .slice yp0 yl0 yd0, .bool ye0, .slice yq0 ym0 yr0]], []⟩, ⟨26, some 1, 0, pt, 4, [.c #[.bool ya1, .slice yp1 yl1 yd1, .bool ye1, .slice yq1 ym1 yr1]], []⟩, ⟨26, some 2, 0, pt, 4, [.c #[.bool false, .slice none 0 0, .bool false, .slice none 0 0]], []⟩] ?ok1 ?st1 ?al1 ?pu1 ?en1
 case ok1 => exact BxOK.fresh rfl hB0.size
 case st1 =>
  intro zi zo ho hro a' u lc W hM
  match zi, ho, hro with
  | 0, _, hro => exact nr1 hro (by kernel_rfl)
  | 1, _, hro => exact nr1 hro (by kernel_rfl)
  | 2, _, hro => exact nr1 hro (by kernel_rfl)
  | zk + 3, ho, _ => simp at ho
 case al1 =>
  intro zk zb zi zo hk ha ho a' u lc W hM
  match zk, hk with
  | 0, hk => cases hk; cases ha; cases ho; exact ⟨rfl, rfl, rfl, rfl, kBox rfl (hM.ol 0)⟩
  | 1, hk => cases hk; cases ha; cases ho; exact ⟨rfl, rfl, rfl, rfl, kBox rfl (hM.ol 1)⟩
  | 2, hk => cases hk; cases ha; cases ho; exact ⟨rfl, rfl, rfl, rfl, kAlloc26 rfl⟩
  | zk + 3, hk => simp at hk
 case pu1 =>
  intro zk zb zs zo hk hs ho a' u lc W zc hM hc hcs
  match zk, hk with
  | 0, hk => cases hk; simp at hs
  | 1, hk => cases hk; simp at hs
  | 2, hk => cases hk; simp at hs
  | zk + 3, hk => simp at hk
 case en1 =>
  intro u1 lc1 W1 hK1 hB1 hO1 hV1 hX1 hA1
  obtain ⟨qr, ho, hl⟩ := hX1 0 _ rfl
  have e1_0 : u1 0 = .pointer (some ⟨lc1 0, 0, none⟩) := (hl 0 rfl).1
  have g1_0 := (hl 0 rfl).2
  have f1_0 := h0.kept hK1
  have q1_0 : W1.heap[(lc1 0)]? = some (.cells #[.bool ya0, .slice yp0 yl0 yd0, .bool ye0, .slice yq0 ym0 yr0] 26) := by
   exact qr
  obtain ⟨qr, ho, hl⟩ := hX1 1 _ rfl
  have e1_1 : u1 1 = .pointer (some ⟨lc1 1, 0, none⟩) := (hl 1 rfl).1
  have g1_1 := (hl 1 rfl).2
  have f1_3 := h1.kept hK1
  have q1_1 : W1.heap[(lc1 1)]? = some (.cells #[.bool ya1, .slice yp1 yl1 yd1, .bool ye1, .slice yq1 ym1 yr1] 26) := by
   exact qr
  obtain ⟨qr, ho, hl⟩ := hX1 2 _ rfl
  have e1_2 : u1 2 = .pointer (some ⟨lc1 2, 0, none⟩) := (hl 2 rfl).1
  have g1_2 := (hl 2 rfl).2
  have q1_2 : W1.heap[(lc1 2)]? = some (.cells #[.bool false, .slice none 0 0, .bool false, .slice none 0 0] 26) := by
   exact qr
  have ne1_0_2 := hA1 0 2 _ _ rfl rfl (by decide)
  have ne1_1_2 := hA1 1 2 _ _ rfl rfl (by decide)
  simp only [putK, fC, fN, kZ, kS, vA, sI, sZ, sS, e1_0, e1_1, e1_2]
  have hBt1 := hB0.trans hB1
  clear hV1 hX1 hA1
  go_upto_region 1 with fail
  refine rg (n := 9) (t16 := 48) w.heap.size [] [.val (.agg #[.bool ya0, .slice yp0 yl0 yd0, .bool ye0, .slice yq0 ym0 yr0]), .val (.agg #[.bool ya1, .slice yp1 yl1 yd1, .bool ye1, .slice yq1 ym1 yr1]), .k (tup2 (.k (frq (r + -s))) (.val (.int .i64 0))), .k (tup2 (.k (frq (r + -s))) (.val (.int .i64 0))), .k (frq (r + -s)), .val (.int .i64 0), .any, .any, .val (.int .i64 0)] [(0, 8), (1, 9), (2, 10), (3, 7), (4, 11), (5, 12), (6, 5), (8, 6)] [⟨26, some 6, 0, pt, 4, [.c #[.bool false, .slice none 0 0, .bool false, .slice none 0 0]], [(7, 0, 4)]⟩] ?ok2 ?st2 ?al2 ?pu2 ?en2
  case ok2 => exact BxOK.fresh rfl hBt1.size
  case st2 =>
   intro zi zo ho hro a' u lc W hM
   match zi, ho, hro with
   | 0, ho, _ => cases ho; exact wn (kL26 rfl (hM.ol 2) (hM.o0 q1_0))
   | 1, ho, _ => cases ho; exact wn (kL26 rfl (hM.ol 3) (hM.o0 q1_1))
   | 2, ho, _ => cases ho; exact wn (kCall2 rfl may57 (hM.d 0 8 rfl) (hM.d 1 9 rfl) (c57 HR.out HS.out HT.out (f1_0.kept hM.kept) (f1_3.kept hM.kept)))
   | 3, ho, _ => cases ho; exact wn (kMove rfl (hM.d 2 10 rfl))
   | 4, ho, _ => cases ho; exact wn (kEx20 rfl (hM.d 3 7 rfl))
   | 5, ho, _ => cases ho; exact wn (kEx21 rfl (hM.d 3 7 rfl))
   | 6, _, hro => exact nr1 hro (by kernel_rfl)
   | 7, _, hro => exact nr1 hro (by kernel_rfl)
   | 8, ho, _ => cases ho; exact wn (kAssign rfl (hM.d 5 12 rfl))
   | zk + 9, ho, _ => simp at ho
  case al2 =>
   intro zk zb zi zo hk ha ho a' u lc W hM
   match zk, hk with
   | 0, hk => cases hk; cases ha; cases ho; exact ⟨rfl, rfl, rfl, rfl, kAlloc26 rfl⟩
   | zk + 1, hk => simp at hk
  case pu2 =>
   intro zk zb zs zo hk hs ho a' u lc W zc hM hc hcs
   match zk, hk with
   | 0, hk =>
    cases hk
    simp only [List.mem_cons, List.not_mem_nil, or_false] at hs
    rcases hs with rfl
    · cases ho
      obtain ⟨sb, sp, sl, sc, sb2, sp2, sl2, sc2, e, _⟩ := (show Is (frq (r + -s)) (u 4) W from (hM.kd 4))
      refine ⟨rfl, rfl, ?_, ?_, kStore ?_ rfl ((hM.v 6 5 rfl).trans (hM.loc 0 _ 6 rfl rfl (by kernel_rfl))) (hM.v 4 11 rfl) hc ?_ ?_⟩ <;> rw [e]
      · exact Nat.le_of_ble_eq_true rfl
      · rfl
      · exact sz26
      · rw [hcs]; exact Nat.le_of_ble_eq_true rfl
      · rfl
   | zk + 1, hk => simp at hk
  case en2 =>
   intro u2 lc2 W2 hK2 hB2 hO2 hV2 hX2 hA2
   have e2_0 := kv (hV2 0 8 rfl) rfl
   have k2_4 := kk (hV2 4 11 rfl) rfl
   obtain ⟨qr, ho, hl⟩ := hX2 0 _ rfl
   have e2_6 : u2 6 = .pointer (some ⟨lc2 0, 0, none⟩) := (hl 6 rfl).1
   have g2_0 := (hl 6 rfl).2
   obtain ⟨x2_7, y2_7, z2_7, c2_7, x22_7, y22_7, z22_7, c22_7, es2_7, sa2_7, sb2_7⟩ := id k2_4
   have sk2_7 : Is (frq (r + -s)) (.agg #[.bool x2_7, .slice y2_7 z2_7 c2_7, .bool x22_7, .slice y22_7 z22_7 c22_7]) W2 := by rw [← es2_7]; exact k2_4
   have q2_0 : W2.heap[(lc2 0)]? = some (.cells #[.bool x2_7, .slice y2_7 z2_7 c2_7, .bool x22_7, .slice y22_7 z22_7 c22_7] 26) := by
    rw [contAll_one rfl (cs := #[.bool x2_7, .slice y2_7 z2_7 c2_7, .bool x22_7, .slice y22_7 z22_7 c22_7]) (by rw [es2_7]; rfl) rfl] at qr; exact qr
   have ne2_0_1_2 := Nat.ne_of_lt (Nat.lt_of_lt_of_le (Array.getElem?_eq_some_iff.1 q1_2).1 g2_0)
   have q2_1_2 := oth0 hO2 q1_2
   simp only [putK, fC, fN, kZ, kS, vV, vA, vK, sI, sZ, sS, e2_6]
   have hBt2 := hBt1.trans hB2
   clear hV2 hX2 hA2
   go_upto_region 2 with fail
   refine rg0 (n := 9) (t16 := 48) w.heap.size [.val (.int .i64 0), .val (.bool false)] [(0, 13), (1, 14)] hBt2.size ?st3 ?en3
   case st3 =>
    intro zi zo ho hro a' u lc W hM
    match zi, ho, hro with
    | 0, ho, _ => cases ho; exact wn (kMove rfl (hM.ol 6))
    | 1, ho, _ => cases ho; exact wn (kNeq29 rfl (hM.d 0 13 rfl) rfl (by decide))
    | zk + 2, ho, _ => simp at ho
   case en3 =>
    intro u3 lc3 W3 hK3 hB3 hO3 hV3 hX3 hA3
    have q3_1_2 := oth0 hO3 q2_1_2
    have q3_2_0 := oth0 hO3 q2_0
    have f3_6 := sk2_7.kept hK3
    simp only [putK, fC, fN, kZ, kS, vV, sI, sZ, sS]
    have hBt3 := hBt2.trans hB3
    clear hV3 hX3 hA3
    go_upto_region 4 with fail
    refine rg (n := 9) (t16 := 48) w.heap.size [(lc1 2)] [.val (.agg #[.bool x2_7, .slice y2_7 z2_7 c2_7, .bool x22_7, .slice y22_7 z22_7 c22_7]), .any] [(0, 16)] [⟨26, none, (lc1 2), pt, 4, [.c #[.bool false, .slice none 0 0, .bool false, .slice none 0 0]], [(1, 0, 0)]⟩] ?ok4 ?st4 ?al4 ?pu4 ?en4
    case ok4 => exact BxOK.one ⟨(Nat.le_trans hB0.size g1_2), ⟨_, q3_1_2, rfl, rfl, rfl⟩, by simp, (by decide : (26 : Nat) ≠ 48)⟩ rfl hBt3.size
    case st4 =>
     intro zi zo ho hro a' u lc W hM
     match zi, ho, hro with
     | 0, ho, _ => cases ho; exact wn (kL26 rfl (hM.ol 5) (hM.o1 q3_2_0 (by omega)))
     | 1, _, hro => exact nr1 hro (by kernel_rfl)
     | zk + 2, ho, _ => simp at ho
    case al4 =>
     intro zk zb zi zo hk ha ho a' u lc W hM
     match zk, hk with
     | 0, hk => cases hk; cases ha
     | zk + 1, hk => simp at hk
    case pu4 =>
     intro zk zb zs zo hk hs ho a' u lc W zc hM hc hcs
     match zk, hk with
     | 0, hk =>
      cases hk
      simp only [List.mem_cons, List.not_mem_nil, or_false] at hs
      rcases hs with rfl
      · cases ho
        have e : u 0 = .agg #[.bool x2_7, .slice y2_7 z2_7 c2_7, .bool x22_7, .slice y22_7 z22_7 c22_7] := hM.kd 0
        refine ⟨rfl, rfl, ?_, ?_, kStore ?_ rfl ((hM.ol 4).trans (show _ = Value.pointer (some ⟨lc 0, 0, none⟩) from by rw [show lc 0 = (lc1 2) from hM.locO 0 _ rfl rfl]; rfl)) (hM.v 0 16 rfl) hc ?_ ?_⟩ <;> rw [e]
        · exact Nat.le_of_ble_eq_true rfl
        · rfl
        · exact sz26
        · rw [hcs]; exact Nat.le_of_ble_eq_true rfl
        · rfl
     | zk + 1, hk => simp at hk
    case en4 =>
     intro u4 lc4 W4 hK4 hB4 hO4 hV4 hX4 hA4
     have e4_0 := kv (hV4 0 16 rfl) rfl
     obtain ⟨qr, ho, hl⟩ := hX4 0 _ rfl
     have elc : lc4 0 = (lc1 2) := ho rfl
     rw [elc] at qr
     have f4_0 := f3_6.kept hK4
     have q4_0 : W4.heap[(lc1 2)]? = some (.cells #[.bool x2_7, .slice y2_7 z2_7 c2_7, .bool x22_7, .slice y22_7 z22_7 c22_7] 26) := by
      rw [contAll_one rfl (cs := #[.bool x2_7, .slice y2_7 z2_7 c2_7, .bool x22_7, .slice y22_7 z22_7 c22_7]) (by rw [e4_0]; rfl) rfl] at qr; exact qr
     simp only [putK, fC, fN, kZ, vV, sI, sZ, sS]
     have hBt4 := hBt3.trans hB4
     clear hV4 hX4 hA4
     have cr0 := cell_of q4_0 0 rfl
     have cr1 := cell_of q4_0 1 rfl
     have cr2 := cell_of q4_0 2 rfl
     have cr3 := cell_of q4_0 3 rfl
     go_wp2
     exact bodyPost_ret (v := .agg #[.bool x2_7, .slice y2_7 z2_7 c2_7, .bool x22_7, .slice y22_7 z22_7 c22_7]) (by simp [results, Tryz.results36, go_sem, cr0, cr1, cr2, cr3]) rfl ⟨_, rfl, f4_0, hBt4⟩
end Go.Proofs.YtihdbjilolmfiaaGreatDoor
namespace Go.Proofs.YtihdbjilolmfiaaGreatDoor
open Go.RowKit Go.WM Go.WR
attribute [local go_sem] Oper.semAt_some
variable {n : Nat} {o : Oper} {a : Act} {w : World}
theorem kMul3 {x y : Operand} {p q r : Int} (ho : o.op = .binOp .mul 3 x y 3) (hx : a.eval x = .int .i64 p) (hy : a.eval y = .int .i64 q) (h : IntKind.i64.wrap (p * q) = r) : Op1 n Tryz.prog o a w (fun v W' => KW (t16 := 48) (.val (.int .i64 r)) v W' ∧ Below w.heap.size w W') := by
 refine Op1.of_run (v := .int .i64 r) ?_ ⟨rfl, Below.refl _ _⟩
 unfold execOp
 rw [ho]
 simp only [hx, hy]
 simp [go_sem, h]
theorem kSlice3 {x y z : Nat} {b1 s1 b2 s2 b3 s3 b4 s4 b5 s5 b6 s6 : Value} (ho : o.op = .buildSlice 38 3 #[(0, .tmp x), (1, .tmp y), (2, .tmp z)]) (hx : a.tmps.getD x undef = .agg #[b1, s1, b2, s2]) (hy : a.tmps.getD y undef = .agg #[b3, s3, b4, s4]) (hz : a.tmps.getD z undef = .agg #[b5, s5, b6, s6]) :
 Op1 n Tryz.prog o a w (fun v W' => v = .slice (some ⟨w.heap.size, 0, none⟩) 3 3 ∧ W' = w.alloc (.cells #[b1, s1, b2, s2, b3, s3, b4, s4, b5, s5, b6, s6] 26)) := by
 refine Op1.of_run (v := .slice (some ⟨w.heap.size, 0, none⟩) 3 3) (w' := w.alloc (.cells #[b1, s1, b2, s2, b3, s3, b4, s4, b5, s5, b6, s6] 26)) ?_ ⟨rfl, rfl⟩
 unfold execOp
 rw [ho]
 simp only [Array.getD_eq_getD_getElem?] at hx hy hz
 simp [go_sem, hx, hy, hz]
end Go.Proofs.YtihdbjilolmfiaaGreatDoor
namespace Go.Proofs.YtihdbjilolmfiaaGreatDoor
open Go.RowKit Go.WM Go.WR
theorem Fz.fs {n : Nat} {q : Rat} (h : Fz n q) (hn : n ≤ 256) : Fs q := by
 have h1 := h.mono hn
 unfold Fs
 rw [CapF.eq]
 exact h1
theorem Fz.mul {a b : Nat} {r s : Rat} (hr : Fz a r) (hs : Fz b s) : Fz (a + b) (r * s) := by
 constructor
 · rw [mul_num']; exact mul_pw (ediv_abs hr.1) (ediv_abs hs.1)
 · rw [mul_den']; exact mul_pw (ediv_abs hr.2) (ediv_abs hs.2)
def cmpQ (a b : Rat) : Int := cmpI (a.num * (b.den : Int)) (b.num * (a.den : Int))
theorem c35q {r s : Rat} {v0 v1 : Value} {w : World} (hr : Fs r) (hs : Fs s) (h0 : Is (frq r) v0 w) (h1 : Is (frq s) v1 w) : Calls Tryz.prog 35 #[v0, v1] w (Ret (.val (.int .i64 (cmpQ r s))) w) :=
 c35 hr hs rfl rfl (by have := mul_cap hr.1 hs.2; omega) (by have := mul_cap hs.1 hr.2; omega) h0 h1
theorem cmpQ_def (a b : Rat) : cmpQ a b = if a < b then -1 else if a = b then 0 else 1 := by
 unfold cmpQ cmpI
 have h1 := Rat.lt_iff a b
 have h2 := Rat.lt_iff b a
 by_cases h : a < b
 · rw [if_pos h]
   have := h1.1 h
   simp [this]
 · rw [if_neg h]
   by_cases he : a = b
   · subst he; simp
   · rw [if_neg he]
     have hb : b < a := by grind
     have := h2.1 hb
     grind
theorem cmpQ_swap (a b : Rat) : cmpQ b a = -cmpQ a b := by rw [cmpQ_def, cmpQ_def]; grind
theorem cmpQ_less (a b : Rat) : cmpQ (a + -b) 0 = cmpQ a b := by rw [cmpQ_def, cmpQ_def]; grind
theorem cmpQ_add (a b c : Rat) : cmpQ (a + c) (b + c) = cmpQ a b := by rw [cmpQ_def, cmpQ_def]; grind
theorem cmpQ_trans (a b c : Rat) (h : cmpQ a b = cmpQ b c) : cmpQ a c = cmpQ a b := by rw [cmpQ_def, cmpQ_def] at *; grind
theorem rat_tri (a b : Rat) : a < b ∨ a = b ∨ b < a := by grind
theorem cmpQ_mul (a b c : Rat) : cmpQ (a * c) (b * c) = cmpQ a b * cmpQ c 0 := by
 rw [cmpQ_def, cmpQ_def, cmpQ_def]
 rcases rat_tri c 0 with h | h | h
 · have key : ∀ x y : Rat, x < y → y * c < x * c := fun x y hxy => by
    have h1 : 0 < y - x := by grind
    have h2 : 0 < -c := by grind
    have h3 := Rat.mul_pos h1 h2
    grind
   rcases rat_tri a b with g | g | g
   · have := key _ _ g; grind
   · subst g; grind
   · have := key _ _ g; grind
 · subst h; grind
 · have key : ∀ x y : Rat, x < y → x * c < y * c := fun x y hxy => by
    have h1 : 0 < y - x := by grind
    have h3 := Rat.mul_pos h1 h
    grind
   rcases rat_tri a b with g | g | g
   · have := key _ _ g; grind
   · subst g; grind
   · have := key _ _ g; grind
theorem cmpQ_range (a b : Rat) : cmpQ a b = -1 ∨ cmpQ a b = 0 ∨ cmpQ a b = 1 := by
 rw [cmpQ_def]
 by_cases h : a < b
 · simp [h]
 · by_cases h2 : a = b <;> simp [h, h2]
end Go.Proofs.YtihdbjilolmfiaaGreatDoor
namespace Go.Proofs.YtihdbjilolmfiaaGreatDoor
open Go.RowKit Go.WM Go.WR
attribute [local go_sem] Oper.semAt_some
theorem cmpQ_wrap (a b c : Rat) : IntKind.i64.wrap (cmpQ a b * cmpQ c (0 : Rat)) = cmpQ a b * cmpQ c (0 : Rat) := by
 rw [IntKind.wrap_i64]
 rcases cmpQ_range a b with h1 | h1 | h1 <;> rcases cmpQ_range c 0 with h2 | h2 | h2 <;> rw [h1, h2] <;> decide
theorem c33_0 {w : World} : Calls Tryz.prog 33 #[.int .i64 0] w (Ret (.k (fr (0 : Rat).num (((0 : Rat).den : Nat) : Int))) w) := c33 (k := 0) (by decide) (by decide)
set_option maxRecDepth 100000 in
set_option maxHeartbeats 4000000 in
theorem order_yes {a b c : Rat} {na0 nb0 na1 nb1 na2 nb2 : Bool} {Za0 Zb0 Za1 Zb1 Za2 Zb2 : List Int} {v0 v1 v2 : Value} {w : World} (us : true = true ↔ Us na0 Za0 nb0 Zb0 ∧ Us na1 Za1 nb1 Zb1 ∧ Us na2 Za2 nb2 Zb2) (rl0 : RawL Za0 Zb0) (k0 : Is (frw na0 Za0 nb0 Zb0) v0 w) (ha : Fz 40 a) (h0 : Is (frq a) v0 w) (rl1 : RawL Za1 Zb1) (k1 : Is (frw na1 Za1 nb1 Zb1) v1 w) (hb : Fz 40 b) (h1 : Is (frq b) v1 w) (rl2 : RawL Za2 Zb2) (k2 : Is (frw na2 Za2 nb2 Zb2) v2 w) (hc : Fz 40 c) (h2 : Is (frq c) v2 w)  : Calls Tryz.prog 6 #[v0, v1, v2] w (Ret (.val (.bool true)) w) := by
 obtain ⟨ya0, yp0, yl0, yd0, ye0, yq0, ym0, yr0, rfl, yg0, yk0⟩ := id h0
 replace yg0 : Is (num a.num) (.agg #[.bool ya0, .slice yp0 yl0 yd0]) w := yg0
 replace yk0 : Is (num ((a.den : Nat) : Int)) (.agg #[.bool ye0, .slice yq0 ym0 yr0]) w := yk0
 obtain ⟨ya1, yp1, yl1, yd1, ye1, yq1, ym1, yr1, rfl, yg1, yk1⟩ := id h1
 replace yg1 : Is (num b.num) (.agg #[.bool ya1, .slice yp1 yl1 yd1]) w := yg1
 replace yk1 : Is (num ((b.den : Nat) : Int)) (.agg #[.bool ye1, .slice yq1 ym1 yr1]) w := yk1
 obtain ⟨ya2, yp2, yl2, yd2, ye2, yq2, ym2, yr2, rfl, yg2, yk2⟩ := id h2
 replace yg2 : Is (num c.num) (.agg #[.bool ya2, .slice yp2 yl2 yd2]) w := yg2
 replace yk2 : Is (num ((c.den : Nat) : Int)) (.agg #[.bool ye2, .slice yq2 ym2 yr2]) w := yk2
 have HUS := Lib.hid us
 have HRL0 := Lib.hid rl0
 have HA := Lib.hid ha
 have HRL1 := Lib.hid rl1
 have HB := Lib.hid hb
 have HRL2 := Lib.hid rl2
 have HC := Lib.hid hc
 clear us rl0 ha rl1 hb rl2 hc
 have hB0 := Below.refl w.heap.size w
 go_enter Tryz.func6, Tryz.ntmps6
 go_upto_region 0 with fail
 refine rg (n := 9) (t16 := 48) w.heap.size [] [.any, .any, .any, .val (.bool false)] [(0, 3), (1, 4), (2, 5), (3, 6)] [⟨26, some 0, 0, pt, 4, [.c #[.bool ya0, .slice yp0 yl0 yd0, .bool ye0, .slice yq0 ym0 yr0]], []⟩, ⟨26, some 1, 0, pt, 4, [.c #[.bool ya1, .slice yp1 yl1 yd1, .bool ye1, .slice yq1 ym1 yr1]], []⟩, ⟨26, some 2, 0, pt, 4, [.c #[.bool ya2, .slice yp2 yl2 yd2, .bool ye2, .slice yq2 ym2 yr2]], []⟩] ?ok1 ?st1 ?al1 ?pu1 ?en1
 case ok1 => exact BxOK.fresh rfl hB0.size
 case st1 =>
  intro zi zo ho hro a' u lc W hM
  match zi, ho, hro with
  | 0, _, hro => exact nr1 hro (by kernel_rfl)
  | 1, _, hro => exact nr1 hro (by kernel_rfl)
  | 2, _, hro => exact nr1 hro (by kernel_rfl)
  | 3, ho, _ => cases ho; exact wn (kAssign rfl rfl)
  | zk + 4, ho, _ => simp at ho
 case al1 =>
  intro zk zb zi zo hk ha ho a' u lc W hM
  match zk, hk with
  | 0, hk => cases hk; cases ha; cases ho; exact ⟨rfl, rfl, rfl, rfl, kBox rfl (hM.ol 0)⟩
  | 1, hk => cases hk; cases ha; cases ho; exact ⟨rfl, rfl, rfl, rfl, kBox rfl (hM.ol 1)⟩
  | 2, hk => cases hk; cases ha; cases ho; exact ⟨rfl, rfl, rfl, rfl, kBox rfl (hM.ol 2)⟩
  | zk + 3, hk => simp at hk
 case pu1 =>
  intro zk zb zs zo hk hs ho a' u lc W zc hM hc hcs
  match zk, hk with
  | 0, hk => cases hk; simp at hs
  | 1, hk => cases hk; simp at hs
  | 2, hk => cases hk; simp at hs
  | zk + 3, hk => simp at hk
 case en1 =>
  intro u1 lc1 W1 hK1 hB1 hO1 hV1 hX1 hA1
  obtain ⟨qr, ho, hl⟩ := hX1 0 _ rfl
  have e1_0 : u1 0 = .pointer (some ⟨lc1 0, 0, none⟩) := (hl 0 rfl).1
  have g1_0 := (hl 0 rfl).2
  have f1_0 := h0.kept hK1
  have f1_3 := k0.kept hK1
  have q1_0 : W1.heap[(lc1 0)]? = some (.cells #[.bool ya0, .slice yp0 yl0 yd0, .bool ye0, .slice yq0 ym0 yr0] 26) := by
   exact qr
  obtain ⟨qr, ho, hl⟩ := hX1 1 _ rfl
  have e1_1 : u1 1 = .pointer (some ⟨lc1 1, 0, none⟩) := (hl 1 rfl).1
  have g1_1 := (hl 1 rfl).2
  have f1_4 := h1.kept hK1
  have f1_7 := k1.kept hK1
  have q1_1 : W1.heap[(lc1 1)]? = some (.cells #[.bool ya1, .slice yp1 yl1 yd1, .bool ye1, .slice yq1 ym1 yr1] 26) := by
   exact qr
  obtain ⟨qr, ho, hl⟩ := hX1 2 _ rfl
  have e1_2 : u1 2 = .pointer (some ⟨lc1 2, 0, none⟩) := (hl 2 rfl).1
  have g1_2 := (hl 2 rfl).2
  have f1_8 := h2.kept hK1
  have f1_11 := k2.kept hK1
  have q1_2 : W1.heap[(lc1 2)]? = some (.cells #[.bool ya2, .slice yp2 yl2 yd2, .bool ye2, .slice yq2 ym2 yr2] 26) := by
   exact qr
  simp only [putK, fC, fN, kZ, kS, vV, vA, sI, sZ, sS, e1_0, e1_1, e1_2]
  have hBt1 := hB0.trans hB1
  clear hV1 hX1 hA1
  go_upto_region 1 with fail
  refine rg0 (n := 9) (t16 := 48) w.heap.size [.val (.bool true), .val (.bool false)] [(0, 10), (1, 11)] hBt1.size ?st2 ?en2
  case st2 =>
   intro zi zo ho hro a' u lc W hM
   match zi, ho, hro with
   | 0, ho, _ => cases ho; exact wn (kCall0 rfl may16 (c16))
   | 1, ho, _ => cases ho; exact wn (kNot rfl (hM.d 0 10 rfl) rfl)
   | zk + 2, ho, _ => simp at ho
  case en2 =>
   intro u2 lc2 W2 hK2 hB2 hO2 hV2 hX2 hA2
   have q2_1_0 := oth0 hO2 q1_0
   have f2_0 := f1_0.kept hK2
   have f2_3 := f1_3.kept hK2
   have q2_1_1 := oth0 hO2 q1_1
   have f2_4 := f1_4.kept hK2
   have f2_7 := f1_7.kept hK2
   have q2_1_2 := oth0 hO2 q1_2
   have f2_8 := f1_8.kept hK2
   have f2_11 := f1_11.kept hK2
   simp only [putK, fC, fN, kZ, kS, vV, sI, sZ, sS]
   have hBt2 := hBt1.trans hB2
   clear hV2 hX2 hA2
   go_upto_region 3 with fail
   refine rg (n := 9) (t16 := 48) w.heap.size [] [.val (.agg #[.bool ya0, .slice yp0 yl0 yd0, .bool ye0, .slice yq0 ym0 yr0]), .val (.agg #[.bool ya1, .slice yp1 yl1 yd1, .bool ye1, .slice yq1 ym1 yr1]), .val (.agg #[.bool ya2, .slice yp2 yl2 yd2, .bool ye2, .slice yq2 ym2 yr2]), .any, .val (.bool true), .val (.bool false)] [(0, 12), (1, 13), (2, 14), (3, 15), (4, 16), (5, 17)] [⟨26, some 3, 0, fun B => .slice (some ⟨B, 0, none⟩) 3 3, 12, [.c #[.bool ya0, .slice yp0 yl0 yd0, .bool ye0, .slice yq0 ym0 yr0, .bool ya1, .slice yp1 yl1 yd1, .bool ye1, .slice yq1 ym1 yr1, .bool ya2, .slice yp2 yl2 yd2, .bool ye2, .slice yq2 ym2 yr2]], []⟩] ?ok3 ?st3 ?al3 ?pu3 ?en3
   case ok3 => exact BxOK.fresh rfl hBt2.size
   case st3 =>
    intro zi zo ho hro a' u lc W hM
    match zi, ho, hro with
    | 0, ho, _ => cases ho; exact wn (kL26 rfl (hM.ol 3) (hM.o0 q2_1_0))
    | 1, ho, _ => cases ho; exact wn (kL26 rfl (hM.ol 4) (hM.o0 q2_1_1))
    | 2, ho, _ => cases ho; exact wn (kL26 rfl (hM.ol 5) (hM.o0 q2_1_2))
    | 3, _, hro => exact nr1 hro (by kernel_rfl)
    | 4, ho, _ => cases ho; exact wn (kCall1 rfl may31 ((hM.v 3 15 rfl).trans (hM.loc 0 _ 3 rfl rfl (by kernel_rfl))) (usable3 (hM.full 0 _ rfl (by kernel_rfl) rfl) (f2_3.kept hM.kept) (f2_7.kept hM.kept) (f2_11.kept hM.kept) HRL0.out HRL1.out HRL2.out HUS.out))
    | 5, ho, _ => cases ho; exact wn (kNot rfl (hM.d 4 16 rfl) rfl)
    | zk + 6, ho, _ => simp at ho
   case al3 =>
    intro zk zb zi zo hk ha ho a' u lc W hM
    match zk, hk with
    | 0, hk => cases hk; cases ha; cases ho; exact ⟨rfl, rfl, rfl, rfl, kSlice3 rfl (hM.d 0 12 rfl) (hM.d 1 13 rfl) (hM.d 2 14 rfl)⟩
    | zk + 1, hk => simp at hk
   case pu3 =>
    intro zk zb zs zo hk hs ho a' u lc W zc hM hc hcs
    match zk, hk with
    | 0, hk => cases hk; simp at hs
    | zk + 1, hk => simp at hk
   case en3 =>
    intro u3 lc3 W3 hK3 hB3 hO3 hV3 hX3 hA3
    obtain ⟨qr, ho, hl⟩ := hX3 0 _ rfl
    have e3_3 : u3 3 = .slice (some ⟨lc3 0, 0, none⟩) 3 3 := (hl 3 rfl).1
    have g3_0 := (hl 3 rfl).2
    have f3_0 := f2_0.kept hK3
    have f3_4 := f2_4.kept hK3
    have f3_8 := f2_8.kept hK3
    have q3_1_0 := oth0 hO3 q2_1_0
    have q3_1_1 := oth0 hO3 q2_1_1
    have q3_1_2 := oth0 hO3 q2_1_2
    simp only [putK, fC, fN, kZ, kS, vV, vA, sI, sZ, sS, e3_3]
    have hBt3 := hBt2.trans hB3
    clear hV3 hX3 hA3
    go_upto_region 5 with fail
    refine rg (n := 9) (t16 := 48) w.heap.size [] [.k (frq (0 : Rat)), .any, .any] [(0, 18), (1, 7)] [⟨26, some 1, 0, pt, 4, [.c #[.bool false, .slice none 0 0, .bool false, .slice none 0 0]], [(2, 0, 0)]⟩] ?ok4 ?st4 ?al4 ?pu4 ?en4
    case ok4 => exact BxOK.fresh rfl hBt3.size
    case st4 =>
     intro zi zo ho hro a' u lc W hM
     match zi, ho, hro with
     | 0, ho, _ => cases ho; exact wn (kCall1 rfl may33 rfl (c33_0))
     | 1, _, hro => exact nr1 hro (by kernel_rfl)
     | 2, _, hro => exact nr1 hro (by kernel_rfl)
     | zk + 3, ho, _ => simp at ho
    case al4 =>
     intro zk zb zi zo hk ha ho a' u lc W hM
     match zk, hk with
     | 0, hk => cases hk; cases ha; cases ho; exact ⟨rfl, rfl, rfl, rfl, kAlloc26 rfl⟩
     | zk + 1, hk => simp at hk
    case pu4 =>
     intro zk zb zs zo hk hs ho a' u lc W zc hM hc hcs
     match zk, hk with
     | 0, hk =>
      cases hk
      simp only [List.mem_cons, List.not_mem_nil, or_false] at hs
      rcases hs with rfl
      · cases ho
        obtain ⟨sb, sp, sl, sc, sb2, sp2, sl2, sc2, e, _⟩ := (show Is (frq (0 : Rat)) (u 0) W from (hM.kd 0))
        refine ⟨rfl, rfl, ?_, ?_, kStore ?_ rfl ((hM.v 1 7 rfl).trans (hM.loc 0 _ 1 rfl rfl (by kernel_rfl))) (hM.v 0 18 rfl) hc ?_ ?_⟩ <;> rw [e]
        · exact Nat.le_of_ble_eq_true rfl
        · rfl
        · exact sz26
        · rw [hcs]; exact Nat.le_of_ble_eq_true rfl
        · rfl
     | zk + 1, hk => simp at hk
    case en4 =>
     intro u4 lc4 W4 hK4 hB4 hO4 hV4 hX4 hA4
     have k4_0 := kk (hV4 0 18 rfl) rfl
     obtain ⟨qr, ho, hl⟩ := hX4 0 _ rfl
     have e4_1 : u4 1 = .pointer (some ⟨lc4 0, 0, none⟩) := (hl 1 rfl).1
     have g4_0 := (hl 1 rfl).2
     obtain ⟨x4_2, y4_2, z4_2, c4_2, x24_2, y24_2, z24_2, c24_2, es4_2, sa4_2, sb4_2⟩ := id k4_0
     have sk4_2 : Is (frq (0 : Rat)) (.agg #[.bool x4_2, .slice y4_2 z4_2 c4_2, .bool x24_2, .slice y24_2 z24_2 c24_2]) W4 := by rw [← es4_2]; exact k4_0
     have q4_0 : W4.heap[(lc4 0)]? = some (.cells #[.bool x4_2, .slice y4_2 z4_2 c4_2, .bool x24_2, .slice y24_2 z24_2 c24_2] 26) := by
      rw [contAll_one rfl (cs := #[.bool x4_2, .slice y4_2 z4_2 c4_2, .bool x24_2, .slice y24_2 z24_2 c24_2]) (by rw [es4_2]; rfl) rfl] at qr; exact qr
     have q4_1_0 := oth0 hO4 q3_1_0
     have f4_0 := f3_0.kept hK4
     have q4_1_1 := oth0 hO4 q3_1_1
     have f4_4 := f3_4.kept hK4
     have q4_1_2 := oth0 hO4 q3_1_2
     have f4_8 := f3_8.kept hK4
     simp only [putK, fC, fN, kZ, kS, vA, vK, sI, sZ, sS, e4_1]
     have hBt4 := hBt3.trans hB4
     clear hV4 hX4 hA4
     go_upto_region 6 with fail
     refine rg0 (n := 9) (t16 := 48) w.heap.size [.val (.agg #[.bool ya0, .slice yp0 yl0 yd0, .bool ye0, .slice yq0 ym0 yr0]), .val (.agg #[.bool ya1, .slice yp1 yl1 yd1, .bool ye1, .slice yq1 ym1 yr1]), .val (.int .i64 (cmpQ a b)), .val (.agg #[.bool ya2, .slice yp2 yl2 yd2, .bool ye2, .slice yq2 ym2 yr2]), .val (.agg #[.bool x4_2, .slice y4_2 z4_2 c4_2, .bool x24_2, .slice y24_2 z24_2 c24_2]), .val (.int .i64 (cmpQ c ((0 : Rat)))), .val (.int .i64 (cmpQ a b)), .val (.int .i64 (cmpQ c ((0 : Rat))))] [(0, 19), (1, 20), (2, 21), (3, 22), (4, 23), (5, 24), (6, 8), (7, 9)] hBt4.size ?st5 ?en5
     case st5 =>
      intro zi zo ho hro a' u lc W hM
      match zi, ho, hro with
      | 0, ho, _ => cases ho; exact wn (kL26 rfl (hM.ol 3) (hM.o0 q4_1_0))
      | 1, ho, _ => cases ho; exact wn (kL26 rfl (hM.ol 4) (hM.o0 q4_1_1))
      | 2, ho, _ => cases ho; exact wn (kCall2 rfl may35 (hM.d 0 19 rfl) (hM.d 1 20 rfl) (c35q (HA.out.fs (by decide)) (HB.out.fs (by decide)) (f4_0.kept hM.kept) (f4_4.kept hM.kept)))
      | 3, ho, _ => cases ho; exact wn (kL26 rfl (hM.ol 5) (hM.o0 q4_1_2))
      | 4, ho, _ => cases ho; exact wn (kL26 rfl (hM.ol 7) (hM.o0 q4_0))
      | 5, ho, _ => cases ho; exact wn (kCall2 rfl may35 (hM.d 3 22 rfl) (hM.d 4 23 rfl) (c35q (HC.out.fs (by decide)) (Fz.zero.fs (by decide)) (f4_8.kept hM.kept) (sk4_2.kept hM.kept)))
      | 6, ho, _ => cases ho; exact wn (kAssign rfl (hM.d 2 21 rfl))
      | 7, ho, _ => cases ho; exact wn (kAssign rfl (hM.d 5 24 rfl))
      | zk + 8, ho, _ => simp at ho
     case en5 =>
      intro u5 lc5 W5 hK5 hB5 hO5 hV5 hX5 hA5
      have q5_1_0 := oth0 hO5 q4_1_0
      have f5_0 := f4_0.kept hK5
      have q5_1_1 := oth0 hO5 q4_1_1
      have f5_4 := f4_4.kept hK5
      have q5_1_2 := oth0 hO5 q4_1_2
      have f5_8 := f4_8.kept hK5
      have q5_4_0 := oth0 hO5 q4_0
      have f5_12 := sk4_2.kept hK5
      simp only [putK, fC, fN, kZ, kS, vV, sI, sZ, sS]
      have hBt5 := hBt4.trans hB5
      clear hV5 hX5 hA5
      go_upto_region 7 with fail
      refine rg0 (n := 9) (t16 := 48) w.heap.size [.val (.int .i64 (cmpQ a b)), .val (.bool false), .val (.bool false), .val (.int .i64 (cmpQ a b)), .val (.bool false), .val (.bool false), .val (.bool false), .val (.agg #[.bool ya1, .slice yp1 yl1 yd1, .bool ye1, .slice yq1 ym1 yr1]), .val (.agg #[.bool ya0, .slice yp0 yl0 yd0, .bool ye0, .slice yq0 ym0 yr0]), .val (.int .i64 (cmpQ b a)), .val (.int .i64 (cmpQ a b)), .val (.int .i64 (-cmpQ a b)), .val (.bool false), .val (.bool false), .val (.bool false), .val (.agg #[.bool ya0, .slice yp0 yl0 yd0, .bool ye0, .slice yq0 ym0 yr0]), .val (.agg #[.bool ya1, .slice yp1 yl1 yd1, .bool ye1, .slice yq1 ym1 yr1]), .k (frq (a + -b)), .val (.agg #[.bool x4_2, .slice y4_2 z4_2 c4_2, .bool x24_2, .slice y24_2 z24_2 c24_2]), .val (.int .i64 (cmpQ ((a + -b)) ((0 : Rat)))), .val (.int .i64 (cmpQ a b)), .val (.bool false), .val (.bool false), .val (.bool false), .val (.agg #[.bool ya0, .slice yp0 yl0 yd0, .bool ye0, .slice yq0 ym0 yr0]), .val (.agg #[.bool ya2, .slice yp2 yl2 yd2, .bool ye2, .slice yq2 ym2 yr2]), .k (frq (a + c)), .val (.agg #[.bool ya1, .slice yp1 yl1 yd1, .bool ye1, .slice yq1 ym1 yr1]), .val (.agg #[.bool ya2, .slice yp2 yl2 yd2, .bool ye2, .slice yq2 ym2 yr2]), .k (frq (b + c)), .val (.int .i64 (cmpQ ((a + c)) ((b + c)))), .val (.int .i64 (cmpQ a b)), .val (.bool false), .val (.bool false), .val (.bool false), .val (.agg #[.bool ya0, .slice yp0 yl0 yd0, .bool ye0, .slice yq0 ym0 yr0]), .val (.agg #[.bool ya2, .slice yp2 yl2 yd2, .bool ye2, .slice yq2 ym2 yr2]), .k (frq (a * c)), .val (.agg #[.bool ya1, .slice yp1 yl1 yd1, .bool ye1, .slice yq1 ym1 yr1]), .val (.agg #[.bool ya2, .slice yp2 yl2 yd2, .bool ye2, .slice yq2 ym2 yr2]), .k (frq (b * c)), .val (.int .i64 (cmpQ ((a * c)) ((b * c)))), .val (.int .i64 (cmpQ a b)), .val (.int .i64 (cmpQ c ((0 : Rat)))), .val (.int .i64 (cmpQ a b * cmpQ c (0 : Rat))), .val (.bool false), .val (.bool false)] [(0, 25), (1, 26), (2, 27), (3, 28), (4, 29), (5, 30), (6, 31), (7, 32), (8, 33), (9, 34), (10, 35), (11, 36), (12, 37), (13, 38), (14, 39), (15, 40), (16, 41), (17, 42), (18, 43), (19, 44), (20, 45), (21, 46), (22, 47), (23, 48), (24, 49), (25, 50), (26, 51), (27, 52), (28, 53), (29, 54), (30, 55), (31, 56), (32, 57), (33, 58), (34, 59), (35, 60), (36, 61), (37, 62), (38, 63), (39, 64), (40, 65), (41, 66), (42, 67), (43, 68), (44, 69), (45, 70), (46, 71)] hBt5.size ?st6 ?en6
      case st6 =>
       intro zi zo ho hro a' u lc W hM
       match zi, ho, hro with
       | 0, ho, _ => cases ho; exact wn (kMove rfl (hM.ol 8))
       | 1, ho, _ => cases ho; exact wn (kLss3 rfl (hM.d 0 25 rfl) rfl (decide_eq_false (by have := cmpQ_range a b; omega)))
       | 2, ho, _ => cases ho; exact wn (kMove rfl (hM.d 1 26 rfl))
       | 3, ho, _ => cases ho; exact hM.wg (hM.d 2 27 rfl) (kMove rfl (hM.ol 8))
       | 4, ho, _ => cases ho; exact hM.wg (hM.d 2 27 rfl) (kGtr3 rfl (hM.d 3 28 rfl) rfl (decide_eq_false (by have := cmpQ_range a b; omega)))
       | 5, ho, _ => cases ho; exact wn (kPick rfl (hM.d 2 27 rfl) (hM.d 4 29 rfl))
       | 6, ho, _ => cases ho; exact wn (kMove rfl (hM.d 5 30 rfl))
       | 7, ho, _ => cases ho; exact hM.wg (hM.d 6 31 rfl) (kL26 rfl (hM.ol 4) (hM.o0 q5_1_1))
       | 8, ho, _ => cases ho; exact hM.wg (hM.d 6 31 rfl) (kL26 rfl (hM.ol 3) (hM.o0 q5_1_0))
       | 9, ho, _ => cases ho; exact hM.wg (hM.d 6 31 rfl) (kCall2 rfl may35 (hM.d 7 32 rfl) (hM.d 8 33 rfl) (c35q (HB.out.fs (by decide)) (HA.out.fs (by decide)) (f5_4.kept hM.kept) (f5_0.kept hM.kept)))
       | 10, ho, _ => cases ho; exact hM.wg (hM.d 6 31 rfl) (kMove rfl (hM.ol 8))
       | 11, ho, _ => cases ho; exact hM.wg (hM.d 6 31 rfl) (kNeg3 rfl (hM.d 10 35 rfl) (by have := cmpQ_range a b; rw [IntKind.wrap_i64]; omega))
       | 12, ho, _ => cases ho; exact hM.wg (hM.d 6 31 rfl) (kNeq3 rfl (hM.d 9 34 rfl) (hM.d 11 36 rfl) (decide_eq_false (fun h => h (cmpQ_swap a b))))
       | 13, ho, _ => cases ho; exact wn (kPick rfl (hM.d 6 31 rfl) (hM.d 12 37 rfl))
       | 14, ho, _ => cases ho; exact wn (kMove rfl (hM.d 13 38 rfl))
       | 15, ho, _ => cases ho; exact hM.wg (hM.d 14 39 rfl) (kL26 rfl (hM.ol 3) (hM.o0 q5_1_0))
       | 16, ho, _ => cases ho; exact hM.wg (hM.d 14 39 rfl) (kL26 rfl (hM.ol 4) (hM.o0 q5_1_1))
       | 17, ho, _ => cases ho; exact hM.wg (hM.d 14 39 rfl) (kCall2 rfl may36 (hM.d 15 40 rfl) (hM.d 16 41 rfl) (c36 (HA.out.fs (by decide)) (HB.out.fs (by decide)) ((Fz.add HA.out (Fz.neg HB.out)).fs (by decide)) (f5_0.kept hM.kept) (f5_4.kept hM.kept)))
       | 18, ho, _ => cases ho; exact hM.wg (hM.d 14 39 rfl) (kL26 rfl (hM.ol 7) (hM.o0 q5_4_0))
       | 19, ho, _ => cases ho; exact hM.wg (hM.d 14 39 rfl) (kCall2 rfl may35 (hM.v 17 42 rfl) (hM.d 18 43 rfl) (c35q ((Fz.add HA.out (Fz.neg HB.out)).fs (by decide)) (Fz.zero.fs (by decide)) (hM.kd 17) (f5_12.kept hM.kept)))
       | 20, ho, _ => cases ho; exact hM.wg (hM.d 14 39 rfl) (kMove rfl (hM.ol 8))
       | 21, ho, _ => cases ho; exact hM.wg (hM.d 14 39 rfl) (kNeq3 rfl (hM.d 19 44 rfl) (hM.d 20 45 rfl) (decide_eq_false (fun h => h (cmpQ_less a b))))
       | 22, ho, _ => cases ho; exact wn (kPick rfl (hM.d 14 39 rfl) (hM.d 21 46 rfl))
       | 23, ho, _ => cases ho; exact wn (kMove rfl (hM.d 22 47 rfl))
       | 24, ho, _ => cases ho; exact hM.wg (hM.d 23 48 rfl) (kL26 rfl (hM.ol 3) (hM.o0 q5_1_0))
       | 25, ho, _ => cases ho; exact hM.wg (hM.d 23 48 rfl) (kL26 rfl (hM.ol 5) (hM.o0 q5_1_2))
       | 26, ho, _ => cases ho; exact hM.wg (hM.d 23 48 rfl) (kCall2 rfl may37 (hM.d 24 49 rfl) (hM.d 25 50 rfl) (c37 (HA.out.fs (by decide)) (HC.out.fs (by decide)) ((Fz.add HA.out HC.out).fs (by decide)) (f5_0.kept hM.kept) (f5_8.kept hM.kept)))
       | 27, ho, _ => cases ho; exact hM.wg (hM.d 23 48 rfl) (kL26 rfl (hM.ol 4) (hM.o0 q5_1_1))
       | 28, ho, _ => cases ho; exact hM.wg (hM.d 23 48 rfl) (kL26 rfl (hM.ol 5) (hM.o0 q5_1_2))
       | 29, ho, _ => cases ho; exact hM.wg (hM.d 23 48 rfl) (kCall2 rfl may37 (hM.d 27 52 rfl) (hM.d 28 53 rfl) (c37 (HB.out.fs (by decide)) (HC.out.fs (by decide)) ((Fz.add HB.out HC.out).fs (by decide)) (f5_4.kept hM.kept) (f5_8.kept hM.kept)))
       | 30, ho, _ => cases ho; exact hM.wg (hM.d 23 48 rfl) (kCall2 rfl may35 (hM.v 26 51 rfl) (hM.v 29 54 rfl) (c35q ((Fz.add HA.out HC.out).fs (by decide)) ((Fz.add HB.out HC.out).fs (by decide)) (hM.kd 26) (hM.kd 29)))
       | 31, ho, _ => cases ho; exact hM.wg (hM.d 23 48 rfl) (kMove rfl (hM.ol 8))
       | 32, ho, _ => cases ho; exact hM.wg (hM.d 23 48 rfl) (kNeq3 rfl (hM.d 30 55 rfl) (hM.d 31 56 rfl) (decide_eq_false (fun h => h (cmpQ_add a b c))))
       | 33, ho, _ => cases ho; exact wn (kPick rfl (hM.d 23 48 rfl) (hM.d 32 57 rfl))
       | 34, ho, _ => cases ho; exact wn (kMove rfl (hM.d 33 58 rfl))
       | 35, ho, _ => cases ho; exact hM.wg (hM.d 34 59 rfl) (kL26 rfl (hM.ol 3) (hM.o0 q5_1_0))
       | 36, ho, _ => cases ho; exact hM.wg (hM.d 34 59 rfl) (kL26 rfl (hM.ol 5) (hM.o0 q5_1_2))
       | 37, ho, _ => cases ho; exact hM.wg (hM.d 34 59 rfl) (kCall2 rfl may34 (hM.d 35 60 rfl) (hM.d 36 61 rfl) (c34 (HA.out.fs (by decide)) (HC.out.fs (by decide)) ((Fz.mul HA.out HC.out).fs (by decide)) (f5_0.kept hM.kept) (f5_8.kept hM.kept)))
       | 38, ho, _ => cases ho; exact hM.wg (hM.d 34 59 rfl) (kL26 rfl (hM.ol 4) (hM.o0 q5_1_1))
       | 39, ho, _ => cases ho; exact hM.wg (hM.d 34 59 rfl) (kL26 rfl (hM.ol 5) (hM.o0 q5_1_2))
       | 40, ho, _ => cases ho; exact hM.wg (hM.d 34 59 rfl) (kCall2 rfl may34 (hM.d 38 63 rfl) (hM.d 39 64 rfl) (c34 (HB.out.fs (by decide)) (HC.out.fs (by decide)) ((Fz.mul HB.out HC.out).fs (by decide)) (f5_4.kept hM.kept) (f5_8.kept hM.kept)))
       | 41, ho, _ => cases ho; exact hM.wg (hM.d 34 59 rfl) (kCall2 rfl may35 (hM.v 37 62 rfl) (hM.v 40 65 rfl) (c35q ((Fz.mul HA.out HC.out).fs (by decide)) ((Fz.mul HB.out HC.out).fs (by decide)) (hM.kd 37) (hM.kd 40)))
       | 42, ho, _ => cases ho; exact hM.wg (hM.d 34 59 rfl) (kMove rfl (hM.ol 8))
       | 43, ho, _ => cases ho; exact hM.wg (hM.d 34 59 rfl) (kMove rfl (hM.ol 9))
       | 44, ho, _ => cases ho; exact hM.wg (hM.d 34 59 rfl) (kMul3 rfl (hM.d 42 67 rfl) (hM.d 43 68 rfl) (cmpQ_wrap a b c))
       | 45, ho, _ => cases ho; exact hM.wg (hM.d 34 59 rfl) (kNeq3 rfl (hM.d 41 66 rfl) (hM.d 44 69 rfl) (decide_eq_false (fun h => h (cmpQ_mul a b c))))
       | 46, ho, _ => cases ho; exact wn (kPick rfl (hM.d 34 59 rfl) (hM.d 45 70 rfl))
       | zk + 47, ho, _ => simp at ho
      case en6 =>
       intro u6 lc6 W6 hK6 hB6 hO6 hV6 hX6 hA6
       have q6_1_0 := oth0 hO6 q5_1_0
       have f6_0 := f5_0.kept hK6
       have q6_1_1 := oth0 hO6 q5_1_1
       have f6_4 := f5_4.kept hK6
       have q6_1_2 := oth0 hO6 q5_1_2
       have f6_8 := f5_8.kept hK6
       simp only [putK, fC, fN, kZ, kS, vV, vK, sI, sZ, sS]
       have hBt6 := hBt5.trans hB6
       clear hV6 hX6 hA6
       go_upto_region 9 with fail
       by_cases he : cmpQ a b = cmpQ b c
       · have HE := Lib.hid he
         clear he
         refine rg0 (n := 9) (t16 := 48) w.heap.size [.val (.int .i64 (cmpQ a b)), .val (.agg #[.bool ya1, .slice yp1 yl1 yd1, .bool ye1, .slice yq1 ym1 yr1]), .val (.agg #[.bool ya2, .slice yp2 yl2 yd2, .bool ye2, .slice yq2 ym2 yr2]), .val (.int .i64 (cmpQ b c)), .val (.bool false), .val (.bool false), .val (.agg #[.bool ya0, .slice yp0 yl0 yd0, .bool ye0, .slice yq0 ym0 yr0]), .val (.agg #[.bool ya2, .slice yp2 yl2 yd2, .bool ye2, .slice yq2 ym2 yr2]), .val (.int .i64 (cmpQ a c)), .val (.int .i64 (cmpQ a b)), .val (.bool true), .val (.bool true), .val (.bool true)] [(0, 72), (1, 73), (2, 74), (3, 75), (4, 76), (5, 77), (6, 78), (7, 79), (8, 80), (9, 81), (10, 82), (11, 83), (12, 6)] hBt6.size ?st7 ?en7
         case st7 =>
          intro zi zo ho hro a' u lc W hM
          match zi, ho, hro with
          | 0, ho, _ => cases ho; exact wn (kMove rfl (hM.ol 8))
          | 1, ho, _ => cases ho; exact wn (kL26 rfl (hM.ol 4) (hM.o0 q6_1_1))
          | 2, ho, _ => cases ho; exact wn (kL26 rfl (hM.ol 5) (hM.o0 q6_1_2))
          | 3, ho, _ => cases ho; exact wn (kCall2 rfl may35 (hM.d 1 73 rfl) (hM.d 2 74 rfl) (c35q (HB.out.fs (by decide)) (HC.out.fs (by decide)) (f6_4.kept hM.kept) (f6_8.kept hM.kept)))
          | 4, ho, _ => cases ho; exact wn (kNeq3 rfl (hM.d 0 72 rfl) (hM.d 3 75 rfl) (decide_eq_false (fun h => h HE.out)))
          | 5, ho, _ => cases ho; exact wn (kMove rfl (hM.d 4 76 rfl))
          | 6, ho, _ => cases ho; exact hM.wg (hM.d 5 77 rfl) (kL26 rfl (hM.ol 3) (hM.o0 q6_1_0))
          | 7, ho, _ => cases ho; exact hM.wg (hM.d 5 77 rfl) (kL26 rfl (hM.ol 5) (hM.o0 q6_1_2))
          | 8, ho, _ => cases ho; exact hM.wg (hM.d 5 77 rfl) (kCall2 rfl may35 (hM.d 6 78 rfl) (hM.d 7 79 rfl) (c35q (HA.out.fs (by decide)) (HC.out.fs (by decide)) (f6_0.kept hM.kept) (f6_8.kept hM.kept)))
          | 9, ho, _ => cases ho; exact hM.wg (hM.d 5 77 rfl) (kMove rfl (hM.ol 8))
          | 10, ho, _ => cases ho; exact hM.wg (hM.d 5 77 rfl) (kEql3 rfl (hM.d 8 80 rfl) (hM.d 9 81 rfl) (decide_eq_true (cmpQ_trans a b c HE.out)))
          | 11, ho, _ => cases ho; exact wn (kPick rfl (hM.d 5 77 rfl) (hM.d 10 82 rfl))
          | 12, ho, _ => cases ho; exact wn (kAssign rfl (hM.d 11 83 rfl))
          | zk + 13, ho, _ => simp at ho
         case en7 =>
          intro u7 lc7 W7 hK7 hB7 hO7 hV7 hX7 hA7
          simp only [putK, fC, fN, kZ, kS, vV, sI, sZ, sS]
          have hBt7 := hBt6.trans hB7
          clear hV7 hX7 hA7
          go_wp2
          exact bodyPost_ret (v := .bool true) (by simp [results, Tryz.results6, go_sem]) rfl ⟨_, rfl, rfl, hBt7⟩
       · have HE := Lib.hid he
         clear he
         refine rg0 (n := 9) (t16 := 48) w.heap.size [.val (.int .i64 (cmpQ a b)), .val (.agg #[.bool ya1, .slice yp1 yl1 yd1, .bool ye1, .slice yq1 ym1 yr1]), .val (.agg #[.bool ya2, .slice yp2 yl2 yd2, .bool ye2, .slice yq2 ym2 yr2]), .val (.int .i64 (cmpQ b c)), .val (.bool true), .val (.bool true), .any, .any, .any, .any, .any, .val (.bool true), .val (.bool true)] [(0, 72), (1, 73), (2, 74), (3, 75), (4, 76), (5, 77), (6, 78), (7, 79), (8, 80), (9, 81), (10, 82), (11, 83), (12, 6)] hBt6.size ?st7 ?en7
         case st7 =>
          intro zi zo ho hro a' u lc W hM
          match zi, ho, hro with
          | 0, ho, _ => cases ho; exact wn (kMove rfl (hM.ol 8))
          | 1, ho, _ => cases ho; exact wn (kL26 rfl (hM.ol 4) (hM.o0 q6_1_1))
          | 2, ho, _ => cases ho; exact wn (kL26 rfl (hM.ol 5) (hM.o0 q6_1_2))
          | 3, ho, _ => cases ho; exact wn (kCall2 rfl may35 (hM.d 1 73 rfl) (hM.d 2 74 rfl) (c35q (HB.out.fs (by decide)) (HC.out.fs (by decide)) (f6_4.kept hM.kept) (f6_8.kept hM.kept)))
          | 4, ho, _ => cases ho; exact wn (kNeq3 rfl (hM.d 0 72 rfl) (hM.d 3 75 rfl) (decide_eq_true HE.out))
          | 5, ho, _ => cases ho; exact wn (kMove rfl (hM.d 4 76 rfl))
          | 6, ho, _ => cases ho; exact hM.wz (hM.d 5 77 rfl)
          | 7, ho, _ => cases ho; exact hM.wz (hM.d 5 77 rfl)
          | 8, ho, _ => cases ho; exact hM.wz (hM.d 5 77 rfl)
          | 9, ho, _ => cases ho; exact hM.wz (hM.d 5 77 rfl)
          | 10, ho, _ => cases ho; exact hM.wz (hM.d 5 77 rfl)
          | 11, ho, _ => cases ho; exact wn (kPick rfl (hM.d 5 77 rfl) rfl)
          | 12, ho, _ => cases ho; exact wn (kAssign rfl (hM.d 11 83 rfl))
          | zk + 13, ho, _ => simp at ho
         case en7 =>
          intro u7 lc7 W7 hK7 hB7 hO7 hV7 hX7 hA7
          simp only [putK, fC, fN, kZ, kS, vV, vA, sI, sZ, sS]
          have hBt7 := hBt6.trans hB7
          clear hV7 hX7 hA7
          go_wp2
          exact bodyPost_ret (v := .bool true) (by simp [results, Tryz.results6, go_sem]) rfl ⟨_, rfl, rfl, hBt7⟩
set_option maxRecDepth 100000 in
set_option maxHeartbeats 4000000 in
theorem order_no {na0 nb0 na1 nb1 na2 nb2 : Bool} {Za0 Zb0 Za1 Zb1 Za2 Zb2 : List Int} {v0 v1 v2 : Value} {w : World} (us : false = true ↔ Us na0 Za0 nb0 Zb0 ∧ Us na1 Za1 nb1 Zb1 ∧ Us na2 Za2 nb2 Zb2) (rl0 : RawL Za0 Zb0) (k0 : Is (frw na0 Za0 nb0 Zb0) v0 w) (rl1 : RawL Za1 Zb1) (k1 : Is (frw na1 Za1 nb1 Zb1) v1 w) (rl2 : RawL Za2 Zb2) (k2 : Is (frw na2 Za2 nb2 Zb2) v2 w)  : Calls Tryz.prog 6 #[v0, v1, v2] w (Ret (.val (.bool true)) w) := by
 obtain ⟨yp0, yl0, yd0, yq0, ym0, yr0, rfl, _, _⟩ := id k0
 obtain ⟨yp1, yl1, yd1, yq1, ym1, yr1, rfl, _, _⟩ := id k1
 obtain ⟨yp2, yl2, yd2, yq2, ym2, yr2, rfl, _, _⟩ := id k2
 have HUS := Lib.hid us
 have HRL0 := Lib.hid rl0
 have HRL1 := Lib.hid rl1
 have HRL2 := Lib.hid rl2
 clear us rl0 rl1 rl2
 have hB0 := Below.refl w.heap.size w
 go_enter Tryz.func6, Tryz.ntmps6
 go_upto_region 0 with fail
 refine rg (n := 9) (t16 := 48) w.heap.size [] [.any, .any, .any, .val (.bool false)] [(0, 3), (1, 4), (2, 5), (3, 6)] [⟨26, some 0, 0, pt, 4, [.c #[.bool na0, .slice yp0 yl0 yd0, .bool nb0, .slice yq0 ym0 yr0]], []⟩, ⟨26, some 1, 0, pt, 4, [.c #[.bool na1, .slice yp1 yl1 yd1, .bool nb1, .slice yq1 ym1 yr1]], []⟩, ⟨26, some 2, 0, pt, 4, [.c #[.bool na2, .slice yp2 yl2 yd2, .bool nb2, .slice yq2 ym2 yr2]], []⟩] ?ok1 ?st1 ?al1 ?pu1 ?en1
 case ok1 => exact BxOK.fresh rfl hB0.size
 case st1 =>
  intro zi zo ho hro a' u lc W hM
  match zi, ho, hro with
  | 0, _, hro => exact nr1 hro (by kernel_rfl)
  | 1, _, hro => exact nr1 hro (by kernel_rfl)
  | 2, _, hro => exact nr1 hro (by kernel_rfl)
  | 3, ho, _ => cases ho; exact wn (kAssign rfl rfl)
  | zk + 4, ho, _ => simp at ho
 case al1 =>
  intro zk zb zi zo hk ha ho a' u lc W hM
  match zk, hk with
  | 0, hk => cases hk; cases ha; cases ho; exact ⟨rfl, rfl, rfl, rfl, kBox rfl (hM.ol 0)⟩
  | 1, hk => cases hk; cases ha; cases ho; exact ⟨rfl, rfl, rfl, rfl, kBox rfl (hM.ol 1)⟩
  | 2, hk => cases hk; cases ha; cases ho; exact ⟨rfl, rfl, rfl, rfl, kBox rfl (hM.ol 2)⟩
  | zk + 3, hk => simp at hk
 case pu1 =>
  intro zk zb zs zo hk hs ho a' u lc W zc hM hc hcs
  match zk, hk with
  | 0, hk => cases hk; simp at hs
  | 1, hk => cases hk; simp at hs
  | 2, hk => cases hk; simp at hs
  | zk + 3, hk => simp at hk
 case en1 =>
  intro u1 lc1 W1 hK1 hB1 hO1 hV1 hX1 hA1
  obtain ⟨qr, ho, hl⟩ := hX1 0 _ rfl
  have e1_0 : u1 0 = .pointer (some ⟨lc1 0, 0, none⟩) := (hl 0 rfl).1
  have g1_0 := (hl 0 rfl).2
  have f1_0 := k0.kept hK1
  have q1_0 : W1.heap[(lc1 0)]? = some (.cells #[.bool na0, .slice yp0 yl0 yd0, .bool nb0, .slice yq0 ym0 yr0] 26) := by
   exact qr
  obtain ⟨qr, ho, hl⟩ := hX1 1 _ rfl
  have e1_1 : u1 1 = .pointer (some ⟨lc1 1, 0, none⟩) := (hl 1 rfl).1
  have g1_1 := (hl 1 rfl).2
  have f1_1 := k1.kept hK1
  have q1_1 : W1.heap[(lc1 1)]? = some (.cells #[.bool na1, .slice yp1 yl1 yd1, .bool nb1, .slice yq1 ym1 yr1] 26) := by
   exact qr
  obtain ⟨qr, ho, hl⟩ := hX1 2 _ rfl
  have e1_2 : u1 2 = .pointer (some ⟨lc1 2, 0, none⟩) := (hl 2 rfl).1
  have g1_2 := (hl 2 rfl).2
  have f1_2 := k2.kept hK1
  have q1_2 : W1.heap[(lc1 2)]? = some (.cells #[.bool na2, .slice yp2 yl2 yd2, .bool nb2, .slice yq2 ym2 yr2] 26) := by
   exact qr
  simp only [putK, fC, fN, kZ, kS, vV, vA, sI, sZ, sS, e1_0, e1_1, e1_2]
  have hBt1 := hB0.trans hB1
  clear hV1 hX1 hA1
  go_upto_region 1 with fail
  refine rg0 (n := 9) (t16 := 48) w.heap.size [.val (.bool true), .val (.bool false)] [(0, 10), (1, 11)] hBt1.size ?st2 ?en2
  case st2 =>
   intro zi zo ho hro a' u lc W hM
   match zi, ho, hro with
   | 0, ho, _ => cases ho; exact wn (kCall0 rfl may16 (c16))
   | 1, ho, _ => cases ho; exact wn (kNot rfl (hM.d 0 10 rfl) rfl)
   | zk + 2, ho, _ => simp at ho
  case en2 =>
   intro u2 lc2 W2 hK2 hB2 hO2 hV2 hX2 hA2
   have q2_1_0 := oth0 hO2 q1_0
   have f2_0 := f1_0.kept hK2
   have q2_1_1 := oth0 hO2 q1_1
   have f2_1 := f1_1.kept hK2
   have q2_1_2 := oth0 hO2 q1_2
   have f2_2 := f1_2.kept hK2
   simp only [putK, fC, fN, kZ, kS, vV, sI, sZ, sS]
   have hBt2 := hBt1.trans hB2
   clear hV2 hX2 hA2
   go_upto_region 3 with fail
   refine rg (n := 9) (t16 := 48) w.heap.size [] [.val (.agg #[.bool na0, .slice yp0 yl0 yd0, .bool nb0, .slice yq0 ym0 yr0]), .val (.agg #[.bool na1, .slice yp1 yl1 yd1, .bool nb1, .slice yq1 ym1 yr1]), .val (.agg #[.bool na2, .slice yp2 yl2 yd2, .bool nb2, .slice yq2 ym2 yr2]), .any, .val (.bool false), .val (.bool true)] [(0, 12), (1, 13), (2, 14), (3, 15), (4, 16), (5, 17)] [⟨26, some 3, 0, fun B => .slice (some ⟨B, 0, none⟩) 3 3, 12, [.c #[.bool na0, .slice yp0 yl0 yd0, .bool nb0, .slice yq0 ym0 yr0, .bool na1, .slice yp1 yl1 yd1, .bool nb1, .slice yq1 ym1 yr1, .bool na2, .slice yp2 yl2 yd2, .bool nb2, .slice yq2 ym2 yr2]], []⟩] ?ok3 ?st3 ?al3 ?pu3 ?en3
   case ok3 => exact BxOK.fresh rfl hBt2.size
   case st3 =>
    intro zi zo ho hro a' u lc W hM
    match zi, ho, hro with
    | 0, ho, _ => cases ho; exact wn (kL26 rfl (hM.ol 3) (hM.o0 q2_1_0))
    | 1, ho, _ => cases ho; exact wn (kL26 rfl (hM.ol 4) (hM.o0 q2_1_1))
    | 2, ho, _ => cases ho; exact wn (kL26 rfl (hM.ol 5) (hM.o0 q2_1_2))
    | 3, _, hro => exact nr1 hro (by kernel_rfl)
    | 4, ho, _ => cases ho; exact wn (kCall1 rfl may31 ((hM.v 3 15 rfl).trans (hM.loc 0 _ 3 rfl rfl (by kernel_rfl))) (usable3 (hM.full 0 _ rfl (by kernel_rfl) rfl) (f2_0.kept hM.kept) (f2_1.kept hM.kept) (f2_2.kept hM.kept) HRL0.out HRL1.out HRL2.out HUS.out))
    | 5, ho, _ => cases ho; exact wn (kNot rfl (hM.d 4 16 rfl) rfl)
    | zk + 6, ho, _ => simp at ho
   case al3 =>
    intro zk zb zi zo hk ha ho a' u lc W hM
    match zk, hk with
    | 0, hk => cases hk; cases ha; cases ho; exact ⟨rfl, rfl, rfl, rfl, kSlice3 rfl (hM.d 0 12 rfl) (hM.d 1 13 rfl) (hM.d 2 14 rfl)⟩
    | zk + 1, hk => simp at hk
   case pu3 =>
    intro zk zb zs zo hk hs ho a' u lc W zc hM hc hcs
    match zk, hk with
    | 0, hk => cases hk; simp at hs
    | zk + 1, hk => simp at hk
   case en3 =>
    intro u3 lc3 W3 hK3 hB3 hO3 hV3 hX3 hA3
    obtain ⟨qr, ho, hl⟩ := hX3 0 _ rfl
    have e3_3 : u3 3 = .slice (some ⟨lc3 0, 0, none⟩) 3 3 := (hl 3 rfl).1
    have g3_0 := (hl 3 rfl).2
    simp only [putK, fC, fN, kZ, kS, vV, vA, sI, sZ, sS, e3_3]
    have hBt3 := hBt2.trans hB3
    clear hV3 hX3 hA3
    go_upto_region 4 with fail
    refine rg0 (n := 9) (t16 := 48) w.heap.size [.val (.bool true)] [(0, 6)] hBt3.size ?st4 ?en4
    case st4 =>
     intro zi zo ho hro a' u lc W hM
     match zi, ho, hro with
     | 0, ho, _ => cases ho; exact wn (kAssign rfl rfl)
     | zk + 1, ho, _ => simp at ho
    case en4 =>
     intro u4 lc4 W4 hK4 hB4 hO4 hV4 hX4 hA4
     simp only [putK, fC, fN, kZ, vV, sI, sZ, sS]
     have hBt4 := hBt3.trans hB4
     clear hV4 hX4 hA4
     go_wp2
     exact bodyPost_ret (v := .bool true) (by simp [results, Tryz.results6, go_sem]) rfl ⟨_, rfl, rfl, hBt4⟩
theorem Order_any {na0 nb0 na1 nb1 na2 nb2 : Bool} {Za0 Zb0 Za1 Zb1 Za2 Zb2 : List Int} {v0 v1 v2 : Value} {w : World} (rl0 : RawL Za0 Zb0) (k0 : Is (frw na0 Za0 nb0 Zb0) v0 w) (rl1 : RawL Za1 Zb1) (k1 : Is (frw na1 Za1 nb1 Zb1) v1 w) (rl2 : RawL Za2 Zb2) (k2 : Is (frw na2 Za2 nb2 Zb2) v2 w) : Calls Tryz.prog 6 #[v0, v1, v2] w (Ret (.val (.bool true)) w) := by
 by_cases hu : Us na0 Za0 nb0 Zb0 ∧ Us na1 Za1 nb1 Zb1 ∧ Us na2 Za2 nb2 Zb2
 · obtain ⟨a, h0, f0⟩ := us_frq k0 hu.1 rl0
   obtain ⟨b, h1, f1⟩ := us_frq k1 hu.2.1 rl1
   obtain ⟨c, h2, f2⟩ := us_frq k2 hu.2.2 rl2
   exact order_yes ⟨fun _ => hu, fun _ => rfl⟩ rl0 k0 f0 h0 rl1 k1 f1 h1 rl2 k2 f2 h2
 · exact order_no ⟨fun h => (by cases h), fun h => absurd h hu⟩ rl0 k0 rl1 k1 rl2 k2
end Go.Proofs.YtihdbjilolmfiaaGreatDoor
