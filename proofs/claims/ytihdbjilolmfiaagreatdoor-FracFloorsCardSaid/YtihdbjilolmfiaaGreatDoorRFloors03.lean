import Derived.Test.YtihdbjilolmfiaaGreatDoorRFloors02
namespace Go.Proofs.YtihdbjilolmfiaaGreatDoor
open Go.RowKit Go.WM Go.WR
attribute [local go_sem] Oper.semAt_some
theorem c91n {x : Int} {v0 : Value} {w : World} (h0 : Is (num x) v0 w) : Calls Tryz.prog 91 #[v0] w (Ret (.k (num (-x))) w) := by
 by_cases h : x < 0
 · exact c91a h h0
 · exact c91b h h0
set_option maxRecDepth 100000 in
set_option maxHeartbeats 4000000 in
theorem c35 {r s : Rat} {x y : Int} {v0 v1 : Value} {w : World} (hr : Fs r) (hs : Fs s) (hx : r.num * (s.den : Int) = x) (hy : s.num * (r.den : Int) = y) (cx : x.natAbs < Cap) (cy : y.natAbs < Cap) (h0 : Is (frq r) v0 w) (h1 : Is (frq s) v1 w) : Calls Tryz.prog 35 #[v0, v1] w (Ret (.val (.int .i64 (cmpI x y))) w) := by
 obtain ⟨ya0, yp0, yl0, yd0, ye0, yq0, ym0, yr0, rfl, yg0, yk0⟩ := id h0
 replace yg0 : Is (num r.num) (.agg #[.bool ya0, .slice yp0 yl0 yd0]) w := yg0
 replace yk0 : Is (num ((r.den : Nat) : Int)) (.agg #[.bool ye0, .slice yq0 ym0 yr0]) w := yk0
 obtain ⟨ya1, yp1, yl1, yd1, ye1, yq1, ym1, yr1, rfl, yg1, yk1⟩ := id h1
 replace yg1 : Is (num s.num) (.agg #[.bool ya1, .slice yp1 yl1 yd1]) w := yg1
 replace yk1 : Is (num ((s.den : Nat) : Int)) (.agg #[.bool ye1, .slice yq1 ym1 yr1]) w := yk1
 have hB0 := Below.refl w.heap.size w
 have HR := Lib.hid hr
 have HS := Lib.hid hs
 have HX := Lib.hid hx
 have HY := Lib.hid hy
 have CX := Lib.hid cx
 have CY := Lib.hid cy
 clear hr hs hx hy cx cy
 go_enter Tryz.func35, Tryz.ntmps35
 go_upto_region 0 with fail
 refine rg (n := 9) (t16 := 48) w.heap.size [] [.any, .any, .val (.int .i64 0)] [(0, 2), (1, 3), (2, 4)] [⟨26, some 0, 0, pt, 4, [.c #[.bool ya0, .slice yp0 yl0 yd0, .bool ye0, .slice yq0 ym0 yr0]], []⟩, ⟨26, some 1, 0, pt, 4, [.c #[.bool ya1, .slice yp1 yl1 yd1, .bool ye1, .slice yq1 ym1 yr1]], []⟩] ?ok1 ?st1 ?al1 ?pu1 ?en1
 case ok1 => exact BxOK.fresh rfl hB0.size
 case st1 =>
  intro zi zo ho hro a' u lc W hM
  match zi, ho, hro with
  | 0, _, hro => exact nr1 hro (by kernel_rfl)
  | 1, _, hro => exact nr1 hro (by kernel_rfl)
  | 2, ho, _ => cases ho; exact wn (kAssign rfl rfl)
  | zk + 3, ho, _ => simp at ho
 case al1 =>
  intro zk zb zi zo hk ha ho a' u lc W hM
  match zk, hk with
  | 0, hk => cases hk; cases ha; cases ho; exact ⟨rfl, rfl, rfl, rfl, kBox rfl (hM.ol 0)⟩
  | 1, hk => cases hk; cases ha; cases ho; exact ⟨rfl, rfl, rfl, rfl, kBox rfl (hM.ol 1)⟩
  | zk + 2, hk => simp at hk
 case pu1 =>
  intro zk zb zs zo hk hs ho a' u lc W zc hM hc hcs
  match zk, hk with
  | 0, hk => cases hk; simp at hs
  | 1, hk => cases hk; simp at hs
  | zk + 2, hk => simp at hk
 case en1 =>
  intro u1 lc1 W1 hK1 hB1 hO1 hV1 hX1 hA1
  obtain ⟨qr, ho, hl⟩ := hX1 0 _ rfl
  have e1_0 : u1 0 = .pointer (some ⟨lc1 0, 0, none⟩) := (hl 0 rfl).1
  have g1_0 := (hl 0 rfl).2
  have f1_0 := h0.kept hK1
  have f1_1 := yg0.kept hK1
  have f1_2 := yk0.kept hK1
  have q1_0 : W1.heap[(lc1 0)]? = some (.cells #[.bool ya0, .slice yp0 yl0 yd0, .bool ye0, .slice yq0 ym0 yr0] 26) := by
   exact qr
  obtain ⟨qr, ho, hl⟩ := hX1 1 _ rfl
  have e1_1 : u1 1 = .pointer (some ⟨lc1 1, 0, none⟩) := (hl 1 rfl).1
  have g1_1 := (hl 1 rfl).2
  have f1_3 := h1.kept hK1
  have f1_4 := yg1.kept hK1
  have f1_5 := yk1.kept hK1
  have q1_1 : W1.heap[(lc1 1)]? = some (.cells #[.bool ya1, .slice yp1 yl1 yd1, .bool ye1, .slice yq1 ym1 yr1] 26) := by
   exact qr
  simp only [putK, fC, fN, kZ, kS, vV, vA, sI, sZ, sS, e1_0, e1_1]
  have hBt1 := hB0.trans hB1
  clear hV1 hX1 hA1
  go_upto_region 1 with fail
  refine rg (n := 9) (t16 := 48) w.heap.size [] [.val (.agg #[.bool ya0, .slice yp0 yl0 yd0, .bool ye0, .slice yq0 ym0 yr0]), .val (.agg #[.bool ya1, .slice yp1 yl1 yd1, .bool ye1, .slice yq1 ym1 yr1]), .any, .val (.bool true), .val (.bool false)] [(0, 5), (1, 6), (2, 7), (3, 8), (4, 9)] [⟨26, some 2, 0, fun B => .slice (some ⟨B, 0, none⟩) 2 2, 8, [.c #[.bool ya0, .slice yp0 yl0 yd0, .bool ye0, .slice yq0 ym0 yr0, .bool ya1, .slice yp1 yl1 yd1, .bool ye1, .slice yq1 ym1 yr1]], []⟩] ?ok2 ?st2 ?al2 ?pu2 ?en2
  case ok2 => exact BxOK.fresh rfl hBt1.size
  case st2 =>
   intro zi zo ho hro a' u lc W hM
   match zi, ho, hro with
   | 0, ho, _ => cases ho; exact wn (kL26 rfl (hM.ol 2) (hM.o0 q1_0))
   | 1, ho, _ => cases ho; exact wn (kL26 rfl (hM.ol 3) (hM.o0 q1_1))
   | 2, _, hro => exact nr1 hro (by kernel_rfl)
   | 3, ho, _ => cases ho; exact wn (kCall1 rfl may65 ((hM.v 2 7 rfl).trans (hM.loc 0 _ 2 rfl rfl (by kernel_rfl))) (c65q (hM.full 0 _ rfl (by kernel_rfl) rfl) HR.out HS.out (f1_0.kept hM.kept) (f1_3.kept hM.kept)))
   | 4, ho, _ => cases ho; exact wn (kNot rfl (hM.d 3 8 rfl) rfl)
   | zk + 5, ho, _ => simp at ho
  case al2 =>
   intro zk zb zi zo hk ha ho a' u lc W hM
   match zk, hk with
   | 0, hk => cases hk; cases ha; cases ho; exact ⟨rfl, rfl, rfl, rfl, kSlice2 rfl (hM.d 0 5 rfl) (hM.d 1 6 rfl)⟩
   | zk + 1, hk => simp at hk
  case pu2 =>
   intro zk zb zs zo hk hs ho a' u lc W zc hM hc hcs
   match zk, hk with
   | 0, hk => cases hk; simp at hs
   | zk + 1, hk => simp at hk
  case en2 =>
   intro u2 lc2 W2 hK2 hB2 hO2 hV2 hX2 hA2
   obtain ⟨qr, ho, hl⟩ := hX2 0 _ rfl
   have e2_2 : u2 2 = .slice (some ⟨lc2 0, 0, none⟩) 2 2 := (hl 2 rfl).1
   have g2_0 := (hl 2 rfl).2
   have f2_1 := f1_1.kept hK2
   have f2_2 := f1_2.kept hK2
   have f2_4 := f1_4.kept hK2
   have f2_5 := f1_5.kept hK2
   have q2_1_0 := oth0 hO2 q1_0
   have q2_1_1 := oth0 hO2 q1_1
   simp only [putK, fC, fN, kZ, kS, vV, vA, sI, sZ, sS, e2_2]
   have hBt2 := hBt1.trans hB2
   clear hV2 hX2 hA2
   go_upto_region 3 with fail
   refine rg0 (n := 9) (t16 := 48) w.heap.size [.val (.pointer (some ⟨(lc1 0), 0, none⟩)), .val (.agg #[.bool ya0, .slice yp0 yl0 yd0]), .val (.pointer (some ⟨(lc1 1), 2, none⟩)), .val (.agg #[.bool ye1, .slice yq1 ym1 yr1]), .k (num x), .val (.pointer (some ⟨(lc1 1), 0, none⟩)), .val (.agg #[.bool ya1, .slice yp1 yl1 yd1]), .val (.pointer (some ⟨(lc1 0), 2, none⟩)), .val (.agg #[.bool ye0, .slice yq0 ym0 yr0]), .k (num y), .val (.int .i64 (cmpI x y)), .val (.int .i64 (cmpI x y))] [(0, 10), (1, 11), (2, 12), (3, 13), (4, 14), (5, 15), (6, 16), (7, 17), (8, 18), (9, 19), (10, 20), (11, 4)] hBt2.size ?st3 ?en3
   case st3 =>
    intro zi zo ho hro a' u lc W hM
    match zi, ho, hro with
    | 0, ho, _ => cases ho; exact wn (kField26_0 rfl (hM.ol 2))
    | 1, ho, _ => cases ho; exact wn (kL24 rfl (hM.d 0 10 rfl) (hM.o0 q2_1_0) rfl)
    | 2, ho, _ => cases ho; exact wn (kField26_1 rfl (hM.ol 3))
    | 3, ho, _ => cases ho; exact wn (kL24 rfl (hM.d 2 12 rfl) (hM.o0 q2_1_1) rfl)
    | 4, ho, _ => cases ho; exact wn (kCall2 rfl may67 (hM.d 1 11 rfl) (hM.d 3 13 rfl) (c67 HX.out CX.out (f2_1.kept hM.kept) (f2_5.kept hM.kept)))
    | 5, ho, _ => cases ho; exact wn (kField26_0 rfl (hM.ol 3))
    | 6, ho, _ => cases ho; exact wn (kL24 rfl (hM.d 5 15 rfl) (hM.o0 q2_1_1) rfl)
    | 7, ho, _ => cases ho; exact wn (kField26_1 rfl (hM.ol 2))
    | 8, ho, _ => cases ho; exact wn (kL24 rfl (hM.d 7 17 rfl) (hM.o0 q2_1_0) rfl)
    | 9, ho, _ => cases ho; exact wn (kCall2 rfl may67 (hM.d 6 16 rfl) (hM.d 8 18 rfl) (c67 HY.out CY.out (f2_4.kept hM.kept) (f2_2.kept hM.kept)))
    | 10, ho, _ => cases ho; exact wn (kCall2 rfl may69 (hM.v 4 14 rfl) (hM.v 9 19 rfl) (c69 (hM.kd 4) (hM.kd 9)))
    | 11, ho, _ => cases ho; exact wn (kAssign rfl (hM.d 10 20 rfl))
    | zk + 12, ho, _ => simp at ho
   case en3 =>
    intro u3 lc3 W3 hK3 hB3 hO3 hV3 hX3 hA3
    simp only [putK, fC, fN, kZ, kS, vV, vK, sI, sZ, sS]
    have hBt3 := hBt2.trans hB3
    clear hV3 hX3 hA3
    go_wp2
    exact bodyPost_ret (v := .int .i64 (cmpI x y)) (by simp [results, Tryz.results35, go_sem]) rfl ⟨_, rfl, rfl, hBt3⟩
end Go.Proofs.YtihdbjilolmfiaaGreatDoor
