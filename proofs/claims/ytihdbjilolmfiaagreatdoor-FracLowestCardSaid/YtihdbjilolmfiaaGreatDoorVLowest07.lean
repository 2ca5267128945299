import Derived.Test.YtihdbjilolmfiaaGreatDoorVLowest06
set_option maxRecDepth 100000
set_option maxHeartbeats 4000000
namespace Go.Proofs.YtihdbjilolmfiaaGreatDoor
open Go.RowKit Go.WM Go.WR
attribute [local go_sem] Oper.semAt_some
theorem c45a {x y z u : Int} {t : Bool} {v0 v1 : Value} {w : World} (e1 : decide (x = z) = true) (e2 : decide (y = u) = t) (h0 : Is (fr x y) v0 w) (h1 : Is (fr z u) v1 w) : Calls Tryz.prog 45 #[v0, v1] w (Ret (.val (.bool t)) w) := by
 obtain ⟨ya0, yp0, yl0, yd0, ye0, yq0, ym0, yr0, rfl, yg0, yk0⟩ := id h0
 replace yg0 : Is (num x) (.agg #[.bool ya0, .slice yp0 yl0 yd0]) w := yg0
 replace yk0 : Is (num y) (.agg #[.bool ye0, .slice yq0 ym0 yr0]) w := yk0
 obtain ⟨ya1, yp1, yl1, yd1, ye1, yq1, ym1, yr1, rfl, yg1, yk1⟩ := id h1
 replace yg1 : Is (num z) (.agg #[.bool ya1, .slice yp1 yl1 yd1]) w := yg1
 replace yk1 : Is (num u) (.agg #[.bool ye1, .slice yq1 ym1 yr1]) w := yk1
 have hB0 := Below.refl w.heap.size w
 have E1 := Lib.hid e1
 have E2 := Lib.hid e2
 clear e1 e2
 go_enter Tryz.func45, Tryz.ntmps45
 go_upto_region 0 with fail
 refine rg (n := 9) (t16 := 48) w.heap.size [] [.any, .any, vF] [(0, 2), (1, 3), (2, 4)] [⟨26, some 0, 0, pt, 4, [.c #[.bool ya0, .slice yp0 yl0 yd0, .bool ye0, .slice yq0 ym0 yr0]], []⟩, ⟨26, some 1, 0, pt, 4, [.c #[.bool ya1, .slice yp1 yl1 yd1, .bool ye1, .slice yq1 ym1 yr1]], []⟩] ?ok1 ?st1 ?al1 ?pu1 ?en1
 case ok1 => exact BxOK.fresh rfl hB0.size
 case st1 =>
  intro zi zo ho hro a' u lc W hM
  match zi, ho, hro with
  | 0, _, hro => exact nr1 hro (by kernel_rfl)
  | 1, _, hro => exact nr1 hro (by kernel_rfl)
  | 2, ho, _ => cases ho; exact wn (kAssign rfl rfl)
  | zk + 3, ho, _ => simp at ho
 case al1 =>
  intro zk zb zi zo hk ha ho a' u lc W hM
  match zk, hk with
  | 0, hk => cases hk; cases ha; cases ho; exact ⟨rfl, rfl, rfl, rfl, kBox rfl (hM.ol 0)⟩
  | 1, hk => cases hk; cases ha; cases ho; exact ⟨rfl, rfl, rfl, rfl, kBox rfl (hM.ol 1)⟩
  | zk + 2, hk => simp at hk
 case pu1 =>
  intro zk zb zs zo hk hs ho a' u lc W zc hM hc hcs
  match zk, hk with
  | 0, hk => cases hk; simp at hs
  | 1, hk => cases hk; simp at hs
  | zk + 2, hk => simp at hk
 case en1 =>
  intro u1 lc1 W1 hK1 hB1 hO1 hV1 hX1 hA1
  obtain ⟨qr, ho, hl⟩ := hX1 0 _ rfl
  have e1_0 : u1 0 = .pointer (some ⟨lc1 0, 0, none⟩) := (hl 0 rfl).1
  have g1_0 := (hl 0 rfl).2
  have f1_1 := yg0.kept hK1
  have f1_2 := yk0.kept hK1
  have q1_0 : W1.heap[(lc1 0)]? = some (.cells #[.bool ya0, .slice yp0 yl0 yd0, .bool ye0, .slice yq0 ym0 yr0] 26) := by
   exact qr
  obtain ⟨qr, ho, hl⟩ := hX1 1 _ rfl
  have e1_1 : u1 1 = .pointer (some ⟨lc1 1, 0, none⟩) := (hl 1 rfl).1
  have g1_1 := (hl 1 rfl).2
  have f1_4 := yg1.kept hK1
  have f1_5 := yk1.kept hK1
  have q1_1 : W1.heap[(lc1 1)]? = some (.cells #[.bool ya1, .slice yp1 yl1 yd1, .bool ye1, .slice yq1 ym1 yr1] 26) := by
   exact qr
  simp only [putK, fC, fN, kZ, kS, vV, vA, sI, sZ, sS, e1_0, e1_1]
  have hBt1 := hB0.trans hB1
  clear hV1 hX1 hA1
  go_upto_region 1 with fail
  refine rg0 (n := 9) (t16 := 48) w.heap.size [.val (.pointer (some ⟨(lc1 0), 0, none⟩)), .val (.agg #[.bool ya0, .slice yp0 yl0 yd0]), .val (.pointer (some ⟨(lc1 1), 0, none⟩)), .val (.agg #[.bool ya1, .slice yp1 yl1 yd1]), vT, vT, .val (.pointer (some ⟨(lc1 0), 2, none⟩)), .val (.agg #[.bool ye0, .slice yq0 ym0 yr0]), .val (.pointer (some ⟨(lc1 1), 2, none⟩)), .val (.agg #[.bool ye1, .slice yq1 ym1 yr1]), .val (.bool t), .val (.bool t), .val (.bool t)] [(0, 5), (1, 6), (2, 7), (3, 8), (4, 9), (5, 10), (6, 11), (7, 12), (8, 13), (9, 14), (10, 15), (11, 16), (12, 4)] hBt1.size ?st2 ?en2
  case st2 =>
   intro zi zo ho hro a' u lc W hM
   match zi, ho, hro with
   | 0, ho, _ => cases ho; exact wn (kField26_0 rfl (hM.ol 2))
   | 1, ho, _ => cases ho; exact wn (kL24 rfl (hM.d 0 5 rfl) (hM.o0 q1_0) rfl)
   | 2, ho, _ => cases ho; exact wn (kField26_0 rfl (hM.ol 3))
   | 3, ho, _ => cases ho; exact wn (kL24 rfl (hM.d 2 7 rfl) (hM.o0 q1_1) rfl)
   | 4, ho, _ => cases ho; exact wn (kCall2 rfl may50 (hM.d 1 6 rfl) (hM.d 3 8 rfl) (c50 E1.out (f1_1.kept hM.kept) (f1_4.kept hM.kept)))
   | 5, ho, _ => cases ho; exact wn (kMove rfl (hM.d 4 9 rfl))
   | 6, ho, _ => cases ho; exact hM.wg (hM.d 5 10 rfl) (kField26_1 rfl (hM.ol 2))
   | 7, ho, _ => cases ho; exact hM.wg (hM.d 5 10 rfl) (kL24 rfl (hM.d 6 11 rfl) (hM.o0 q1_0) rfl)
   | 8, ho, _ => cases ho; exact hM.wg (hM.d 5 10 rfl) (kField26_1 rfl (hM.ol 3))
   | 9, ho, _ => cases ho; exact hM.wg (hM.d 5 10 rfl) (kL24 rfl (hM.d 8 13 rfl) (hM.o0 q1_1) rfl)
   | 10, ho, _ => cases ho; exact hM.wg (hM.d 5 10 rfl) (kCall2 rfl may50 (hM.d 7 12 rfl) (hM.d 9 14 rfl) (c50 E2.out (f1_2.kept hM.kept) (f1_5.kept hM.kept)))
   | 11, ho, _ => cases ho; exact wn (kPick rfl (hM.d 5 10 rfl) (hM.d 10 15 rfl))
   | 12, ho, _ => cases ho; exact wn (kAssign rfl (hM.d 11 16 rfl))
   | zk + 13, ho, _ => simp at ho
  case en2 =>
   intro u2 lc2 W2 hK2 hB2 hO2 hV2 hX2 hA2
   simp only [putK, fC, fN, kZ, kS, vV, sI, sZ, sS]
   have hBt2 := hBt1.trans hB2
   clear hV2 hX2 hA2
   go_wp2
   exact bodyPost_ret (v := .bool t) (by simp [results, Tryz.results45, go_sem]) rfl ⟨_, rfl, rfl, hBt2⟩
theorem c45b {x y z u : Int} {v0 v1 : Value} {w : World} (e1 : decide (x = z) = false) (h0 : Is (fr x y) v0 w) (h1 : Is (fr z u) v1 w) : Calls Tryz.prog 45 #[v0, v1] w (Ret (.val (.bool false)) w) := by
 obtain ⟨ya0, yp0, yl0, yd0, ye0, yq0, ym0, yr0, rfl, yg0, yk0⟩ := id h0
 replace yg0 : Is (num x) (.agg #[.bool ya0, .slice yp0 yl0 yd0]) w := yg0
 replace yk0 : Is (num y) (.agg #[.bool ye0, .slice yq0 ym0 yr0]) w := yk0
 obtain ⟨ya1, yp1, yl1, yd1, ye1, yq1, ym1, yr1, rfl, yg1, yk1⟩ := id h1
 replace yg1 : Is (num z) (.agg #[.bool ya1, .slice yp1 yl1 yd1]) w := yg1
 replace yk1 : Is (num u) (.agg #[.bool ye1, .slice yq1 ym1 yr1]) w := yk1
 have hB0 := Below.refl w.heap.size w
 have E1 := Lib.hid e1
 clear e1
 go_enter Tryz.func45, Tryz.ntmps45
 go_upto_region 0 with fail
 refine rg (n := 9) (t16 := 48) w.heap.size [] [.any, .any, vF] [(0, 2), (1, 3), (2, 4)] [⟨26, some 0, 0, pt, 4, [.c #[.bool ya0, .slice yp0 yl0 yd0, .bool ye0, .slice yq0 ym0 yr0]], []⟩, ⟨26, some 1, 0, pt, 4, [.c #[.bool ya1, .slice yp1 yl1 yd1, .bool ye1, .slice yq1 ym1 yr1]], []⟩] ?ok1 ?st1 ?al1 ?pu1 ?en1
 case ok1 => exact BxOK.fresh rfl hB0.size
 case st1 =>
  intro zi zo ho hro a' u lc W hM
  match zi, ho, hro with
  | 0, _, hro => exact nr1 hro (by kernel_rfl)
  | 1, _, hro => exact nr1 hro (by kernel_rfl)
  | 2, ho, _ => cases ho; exact wn (kAssign rfl rfl)
  | zk + 3, ho, _ => simp at ho
 case al1 =>
  intro zk zb zi zo hk ha ho a' u lc W hM
  match zk, hk with
  | 0, hk => cases hk; cases ha; cases ho; exact ⟨rfl, rfl, rfl, rfl, kBox rfl (hM.ol 0)⟩
  | 1, hk => cases hk; cases ha; cases ho; exact ⟨rfl, rfl, rfl, rfl, kBox rfl (hM.ol 1)⟩
  | zk + 2, hk => simp at hk
 case pu1 =>
  intro zk zb zs zo hk hs ho a' u lc W zc hM hc hcs
  match zk, hk with
  | 0, hk => cases hk; simp at hs
  | 1, hk => cases hk; simp at hs
  | zk + 2, hk => simp at hk
 case en1 =>
  intro u1 lc1 W1 hK1 hB1 hO1 hV1 hX1 hA1
  obtain ⟨qr, ho, hl⟩ := hX1 0 _ rfl
  have e1_0 : u1 0 = .pointer (some ⟨lc1 0, 0, none⟩) := (hl 0 rfl).1
  have g1_0 := (hl 0 rfl).2
  have f1_1 := yg0.kept hK1
  have q1_0 : W1.heap[(lc1 0)]? = some (.cells #[.bool ya0, .slice yp0 yl0 yd0, .bool ye0, .slice yq0 ym0 yr0] 26) := by
   exact qr
  obtain ⟨qr, ho, hl⟩ := hX1 1 _ rfl
  have e1_1 : u1 1 = .pointer (some ⟨lc1 1, 0, none⟩) := (hl 1 rfl).1
  have g1_1 := (hl 1 rfl).2
  have f1_4 := yg1.kept hK1
  have q1_1 : W1.heap[(lc1 1)]? = some (.cells #[.bool ya1, .slice yp1 yl1 yd1, .bool ye1, .slice yq1 ym1 yr1] 26) := by
   exact qr
  simp only [putK, fC, fN, kZ, kS, vV, vA, sI, sZ, sS, e1_0, e1_1]
  have hBt1 := hB0.trans hB1
  clear hV1 hX1 hA1
  go_upto_region 1 with fail
  refine rg0 (n := 9) (t16 := 48) w.heap.size [.val (.pointer (some ⟨(lc1 0), 0, none⟩)), .val (.agg #[.bool ya0, .slice yp0 yl0 yd0]), .val (.pointer (some ⟨(lc1 1), 0, none⟩)), .val (.agg #[.bool ya1, .slice yp1 yl1 yd1]), vF, vF, .any, .any, .any, .any, .any, vF, vF] [(0, 5), (1, 6), (2, 7), (3, 8), (4, 9), (5, 10), (6, 11), (7, 12), (8, 13), (9, 14), (10, 15), (11, 16), (12, 4)] hBt1.size ?st2 ?en2
  case st2 =>
   intro zi zo ho hro a' u lc W hM
   match zi, ho, hro with
   | 0, ho, _ => cases ho; exact wn (kField26_0 rfl (hM.ol 2))
   | 1, ho, _ => cases ho; exact wn (kL24 rfl (hM.d 0 5 rfl) (hM.o0 q1_0) rfl)
   | 2, ho, _ => cases ho; exact wn (kField26_0 rfl (hM.ol 3))
   | 3, ho, _ => cases ho; exact wn (kL24 rfl (hM.d 2 7 rfl) (hM.o0 q1_1) rfl)
   | 4, ho, _ => cases ho; exact wn (kCall2 rfl may50 (hM.d 1 6 rfl) (hM.d 3 8 rfl) (c50 E1.out (f1_1.kept hM.kept) (f1_4.kept hM.kept)))
   | 5, ho, _ => cases ho; exact wn (kMove rfl (hM.d 4 9 rfl))
   | 6, ho, _ => cases ho; exact hM.wz (hM.d 5 10 rfl)
   | 7, ho, _ => cases ho; exact hM.wz (hM.d 5 10 rfl)
   | 8, ho, _ => cases ho; exact hM.wz (hM.d 5 10 rfl)
   | 9, ho, _ => cases ho; exact hM.wz (hM.d 5 10 rfl)
   | 10, ho, _ => cases ho; exact hM.wz (hM.d 5 10 rfl)
   | 11, ho, _ => cases ho; exact wn (kPick rfl (hM.d 5 10 rfl) rfl)
   | 12, ho, _ => cases ho; exact wn (kAssign rfl (hM.d 11 16 rfl))
   | zk + 13, ho, _ => simp at ho
  case en2 =>
   intro u2 lc2 W2 hK2 hB2 hO2 hV2 hX2 hA2
   simp only [putK, fC, fN, kZ, kS, vV, vA, sI, sZ, sS]
   have hBt2 := hBt1.trans hB2
   clear hV2 hX2 hA2
   go_wp2
   exact bodyPost_ret (v := .bool false) (by simp [results, Tryz.results45, go_sem]) rfl ⟨_, rfl, rfl, hBt2⟩
theorem c46b {n d g N D : Int} {v0 v1 : Value} {w : World} (hd0 : d ≠ 0) (hd : ¬ d < 0) (hg : ((Int.gcd n d : Nat) : Int) = g) (g0 : ¬ g < 0) (g1 : g ≠ 0) (f1 : Floor n g N 0) (f2 : Floor d g D 0) (ht : (decide ((N.natAbs : Int) < CapF) && decide ((D.natAbs : Int) < CapF)) = true) (h0 : Is (num n) v0 w) (h1 : Is (num d) v1 w) : Calls Tryz.prog 46 #[v0, v1] w (Ret (.k (tup2 (.k (fr N D)) (.val (.int .i64 0)))) w) := by
 obtain ⟨ya0, yp0, yl0, yd0, rfl⟩ := h0.form
 obtain ⟨ya1, yp1, yl1, yd1, rfl⟩ := h1.form
 obtain rfl : ya1 = false := (num_sign (W := w) h1).trans (decide_eq_false hd)
 have hz : decide (((yl1 : Nat) : Int) = 0) = false := decide_eq_false (by have := num_len (W := w) h1; omega)
 have HZ := Lib.hid hz
 have HG := Lib.hid hg
 have G0 := Lib.hid g0
 have G1 := Lib.hid g1
 have F1 := Lib.hid f1
 have F2 := Lib.hid f2
 have HT := Lib.hid ht
 clear hz hg g0 g1 f1 f2 ht hd hd0
 have hB0 := Below.refl w.heap.size w
 go_enter Tryz.func46, Tryz.ntmps46
 go_upto_region 0 with fail
 refine rg (n := 9) (t16 := 48) w.heap.size [] [.any, .any, .any, vZ] [(0, 2), (1, 3), (2, 4), (3, 5)] [⟨24, some 0, 0, pt, 2, [.c #[.bool ya0, .slice yp0 yl0 yd0]], []⟩, ⟨24, some 1, 0, pt, 2, [.c #[.bool false, .slice yp1 yl1 yd1]], []⟩, ⟨26, some 2, 0, pt, 4, [.c #[.bool false, .slice none 0 0, .bool false, .slice none 0 0]], []⟩] ?ok1 ?st1 ?al1 ?pu1 ?en1
 case ok1 => exact BxOK.fresh rfl hB0.size
 case st1 =>
  intro zi zo ho hro a' u lc W hM
  match zi, ho, hro with
  | 0, _, hro => exact nr1 hro (by kernel_rfl)
  | 1, _, hro => exact nr1 hro (by kernel_rfl)
  | 2, _, hro => exact nr1 hro (by kernel_rfl)
  | 3, ho, _ => cases ho; exact wn (kAssign rfl rfl)
  | zk + 4, ho, _ => simp at ho
 case al1 =>
  intro zk zb zi zo hk ha ho a' u lc W hM
  match zk, hk with
  | 0, hk => cases hk; cases ha; cases ho; exact ⟨rfl, rfl, rfl, rfl, kBox rfl (hM.ol 0)⟩
  | 1, hk => cases hk; cases ha; cases ho; exact ⟨rfl, rfl, rfl, rfl, kBox rfl (hM.ol 1)⟩
  | 2, hk => cases hk; cases ha; cases ho; exact ⟨rfl, rfl, rfl, rfl, kAlloc26 rfl⟩
  | zk + 3, hk => simp at hk
 case pu1 =>
  intro zk zb zs zo hk hs ho a' u lc W zc hM hc hcs
  match zk, hk with
  | 0, hk => cases hk; simp at hs
  | 1, hk => cases hk; simp at hs
  | 2, hk => cases hk; simp at hs
  | zk + 3, hk => simp at hk
 case en1 =>
  intro u1 lc1 W1 hK1 hB1 hO1 hV1 hX1 hA1
  obtain ⟨qr, ho, hl⟩ := hX1 0 _ rfl
  have e1_0 : u1 0 = .pointer (some ⟨lc1 0, 0, none⟩) := (hl 0 rfl).1
  have g1_0 := (hl 0 rfl).2
  have f1_0 := h0.kept hK1
  have q1_0 : W1.heap[(lc1 0)]? = some (.cells #[.bool ya0, .slice yp0 yl0 yd0] 24) := by
   exact qr
  obtain ⟨qr, ho, hl⟩ := hX1 1 _ rfl
  have e1_1 : u1 1 = .pointer (some ⟨lc1 1, 0, none⟩) := (hl 1 rfl).1
  have g1_1 := (hl 1 rfl).2
  have f1_1 := h1.kept hK1
  have q1_1 : W1.heap[(lc1 1)]? = some (.cells #[.bool false, .slice yp1 yl1 yd1] 24) := by
   exact qr
  obtain ⟨qr, ho, hl⟩ := hX1 2 _ rfl
  have e1_2 : u1 2 = .pointer (some ⟨lc1 2, 0, none⟩) := (hl 2 rfl).1
  have g1_2 := (hl 2 rfl).2
  have q1_2 : W1.heap[(lc1 2)]? = some (.cells #[.bool false, .slice none 0 0, .bool false, .slice none 0 0] 26) := by
   exact qr
  have ne1_0_2 := hA1 0 2 _ _ rfl rfl (by decide)
  have ne1_1_2 := hA1 1 2 _ _ rfl rfl (by decide)
  simp only [putK, fC, fN, kZ, kS, vV, vA, sI, sZ, sS, e1_0, e1_1, e1_2]
  have hBt1 := hB0.trans hB1
  clear hV1 hX1 hA1
  go_upto_region 1 with fail
  refine rg0 (n := 9) (t16 := 48) w.heap.size [.val (.agg #[.bool ya0, .slice yp0 yl0 yd0]), vT, vF, vF, .val (.agg #[.bool false, .slice yp1 yl1 yd1]), vT, vF, vF, vF] [(0, 8), (1, 9), (2, 10), (3, 11), (4, 12), (5, 13), (6, 14), (7, 15), (8, 7)] hBt1.size ?st2 ?en2
  case st2 =>
   intro zi zo ho hro a' u lc W hM
   match zi, ho, hro with
   | 0, ho, _ => cases ho; exact wn (kL24 rfl (hM.ol 2) (hM.o0 q1_0) rfl)
   | 1, ho, _ => cases ho; exact wn (kCall1 rfl may43 (hM.d 0 8 rfl) (c43n (f1_0.kept hM.kept)))
   | 2, ho, _ => cases ho; exact wn (kNot rfl (hM.d 1 9 rfl) rfl)
   | 3, ho, _ => cases ho; exact wn (kMove rfl (hM.d 2 10 rfl))
   | 4, ho, _ => cases ho; exact hM.wg (hM.d 3 11 rfl) (kL24 rfl (hM.ol 3) (hM.o0 q1_1) rfl)
   | 5, ho, _ => cases ho; exact hM.wg (hM.d 3 11 rfl) (kCall1 rfl may43 (hM.d 4 12 rfl) (c43n (f1_1.kept hM.kept)))
   | 6, ho, _ => cases ho; exact hM.wg (hM.d 3 11 rfl) (kNot rfl (hM.d 5 13 rfl) rfl)
   | 7, ho, _ => cases ho; exact wn (kPick rfl (hM.d 3 11 rfl) (hM.d 6 14 rfl))
   | 8, ho, _ => cases ho; exact wn (kAssign rfl (hM.d 7 15 rfl))
   | zk + 9, ho, _ => simp at ho
  case en2 =>
   intro u2 lc2 W2 hK2 hB2 hO2 hV2 hX2 hA2
   have q2_1_0 := oth0 hO2 q1_0
   have f2_0 := f1_0.kept hK2
   have q2_1_1 := oth0 hO2 q1_1
   have f2_1 := f1_1.kept hK2
   have q2_1_2 := oth0 hO2 q1_2
   simp only [putK, fC, fN, kZ, kS, vV, sI, sZ, sS]
   have hBt2 := hBt1.trans hB2
   clear hV2 hX2 hA2
   go_upto_region 3 with fail
   refine rg0 (n := 9) (t16 := 48) w.heap.size [.val (.pointer (some ⟨(lc1 1), 1, none⟩)), .val (.slice yp1 yl1 yd1), .val (.int .i64 ((yl1 : Nat) : Int)), vF, vF] [(0, 18), (1, 19), (2, 20), (3, 21), (4, 17)] hBt2.size ?st3 ?en3
   case st3 =>
    intro zi zo ho hro a' u lc W hM
    match zi, ho, hro with
    | 0, ho, _ => cases ho; exact wn (kField24_1 rfl (hM.ol 3))
    | 1, ho, _ => cases ho; exact wn (kLoad1 Tryz.underlying22 rfl rfl (hM.d 0 18 rfl) (hM.o0 q2_1_1) rfl rfl)
    | 2, ho, _ => cases ho; exact wn (kLen rfl (hM.d 1 19 rfl))
    | 3, ho, _ => cases ho; exact wn (kEql3 rfl (hM.d 2 20 rfl) rfl HZ.out)
    | 4, ho, _ => cases ho; exact wn (kAssign rfl (hM.d 3 21 rfl))
    | zk + 5, ho, _ => simp at ho
   case en3 =>
    intro u3 lc3 W3 hK3 hB3 hO3 hV3 hX3 hA3
    have q3_1_0 := oth0 hO3 q2_1_0
    have f3_0 := f2_0.kept hK3
    have q3_1_1 := oth0 hO3 q2_1_1
    have f3_1 := f2_1.kept hK3
    have q3_1_2 := oth0 hO3 q2_1_2
    simp only [putK, fC, fN, kZ, kS, vV, sI, sZ, sS]
    have hBt3 := hBt2.trans hB3
    clear hV3 hX3 hA3
    go_upto_region 5 with fail
    refine rg (n := 9) (t16 := 48) w.heap.size [] [.val (.agg #[.bool ya0, .slice yp0 yl0 yd0]), .val (.agg #[.bool false, .slice yp1 yl1 yd1]), .k (num g), .any, .any] [(0, 23), (1, 24), (2, 25), (3, 6)] [⟨24, some 3, 0, pt, 2, [.c #[.bool false, .slice none 0 0]], [(4, 0, 2)]⟩] ?ok4 ?st4 ?al4 ?pu4 ?en4
    case ok4 => exact BxOK.fresh rfl hBt3.size
    case st4 =>
     intro zi zo ho hro a' u lc W hM
     match zi, ho, hro with
     | 0, ho, _ => cases ho; exact wn (kL24 rfl (hM.ol 2) (hM.o0 q3_1_0) rfl)
     | 1, ho, _ => cases ho; exact wn (kL24 rfl (hM.ol 3) (hM.o0 q3_1_1) rfl)
     | 2, ho, _ => cases ho; exact wn (kCall2 rfl may73 (hM.d 0 23 rfl) (hM.d 1 24 rfl) (c73 HG.out (f3_0.kept hM.kept) (f3_1.kept hM.kept)))
     | 3, _, hro => exact nr1 hro (by kernel_rfl)
     | 4, _, hro => exact nr1 hro (by kernel_rfl)
     | zk + 5, ho, _ => simp at ho
    case al4 =>
     intro zk zb zi zo hk ha ho a' u lc W hM
     match zk, hk with
     | 0, hk => cases hk; cases ha; cases ho; exact ⟨rfl, rfl, rfl, rfl, kAlloc24 rfl⟩
     | zk + 1, hk => simp at hk
    case pu4 =>
     intro zk zb zs zo hk hs ho a' u lc W zc hM hc hcs
     match zk, hk with
     | 0, hk =>
      cases hk
      simp only [List.mem_cons, List.not_mem_nil, or_false] at hs
      rcases hs with rfl
      · cases ho
        obtain ⟨sb, sp, sl, sc, e⟩ := (show Is (num g) (u 2) W from (hM.kd 2)).form
        exact kPut rfl e ((hM.v 3 6 rfl).trans (hM.loc 0 _ 3 rfl rfl (by kernel_rfl))) (hM.v 2 25 rfl) hc hcs sz24
     | zk + 1, hk => simp at hk
    case en4 =>
     intro u4 lc4 W4 hK4 hB4 hO4 hV4 hX4 hA4
     have e4_0 := kv (hV4 0 23 rfl) rfl
     have k4_2 := kk (hV4 2 25 rfl) rfl
     obtain ⟨qr, ho, hl⟩ := hX4 0 _ rfl
     have e4_3 : u4 3 = .pointer (some ⟨lc4 0, 0, none⟩) := (hl 3 rfl).1
     have g4_0 := (hl 3 rfl).2
     obtain ⟨x4_4, y4_4, z4_4, c4_4, es4_4⟩ := k4_2.form
     have sk4_4 : Is (num g) (.agg #[.bool x4_4, .slice y4_4 z4_4 c4_4]) W4 := by rw [← es4_4]; exact k4_2
     have q4_0 : W4.heap[(lc4 0)]? = some (.cells #[.bool x4_4, .slice y4_4 z4_4 c4_4] 24) := by
      rw [contAll_one rfl (cs := #[.bool x4_4, .slice y4_4 z4_4 c4_4]) (by rw [es4_4]; rfl) rfl] at qr; exact qr
     have ne4_0_1_2 := Nat.ne_of_lt (Nat.lt_of_lt_of_le (Array.getElem?_eq_some_iff.1 q3_1_2).1 g4_0)
     have q4_1_0 := oth0 hO4 q3_1_0
     have f4_0 := f3_0.kept hK4
     have q4_1_1 := oth0 hO4 q3_1_1
     have f4_1 := f3_1.kept hK4
     have q4_1_2 := oth0 hO4 q3_1_2
     simp only [putK, fC, fN, kZ, kS, vV, vA, vK, sI, sZ, sS, e4_3]
     have hBt4 := hBt3.trans hB4
     clear hV4 hX4 hA4
     go_upto_region 6 with fail
     refine rg0 (n := 9) (t16 := 48) w.heap.size [.val (.pointer (some ⟨(lc1 1), 0, none⟩)), vF] [(0, 26), (1, 27)] hBt4.size ?st5 ?en5
     case st5 =>
      intro zi zo ho hro a' u lc W hM
      match zi, ho, hro with
      | 0, ho, _ => cases ho; exact wn (kField24_0 rfl (hM.ol 3))
      | 1, ho, _ => cases ho; exact wn (kLoad1 Tryz.underlying4 rfl rfl (hM.d 0 26 rfl) (hM.o0 q4_1_1) rfl rfl)
      | zk + 2, ho, _ => simp at ho
     case en5 =>
      intro u5 lc5 W5 hK5 hB5 hO5 hV5 hX5 hA5
      have q5_1_0 := oth0 hO5 q4_1_0
      have f5_0 := f4_0.kept hK5
      have q5_1_1 := oth0 hO5 q4_1_1
      have f5_1 := f4_1.kept hK5
      have q5_1_2 := oth0 hO5 q4_1_2
      have q5_4_0 := oth0 hO5 q4_0
      have f5_2 := sk4_4.kept hK5
      simp only [putK, fC, fN, kZ, kS, vV, sI, sZ, sS]
      have hBt5 := hBt4.trans hB5
      clear hV5 hX5 hA5
      go_upto_region 8 with fail
      refine rg (n := 9) (t16 := 48) w.heap.size [(lc1 2)] [.val (.agg #[.bool ya0, .slice yp0 yl0 yd0]), .val (.agg #[.bool x4_4, .slice y4_4 z4_4 c4_4]), .k (num N), .val (.agg #[.bool false, .slice yp1 yl1 yd1]), .val (.agg #[.bool x4_4, .slice y4_4 z4_4 c4_4]), .k (num D), .k (fr N D), .k (fr N D), .k (tup2 (.k (fr N D)) (vZ)), .k (fr N D), vZ, .any, vZ] [(0, 30), (1, 31), (2, 32), (3, 33), (4, 34), (5, 35), (6, 36), (7, 37), (8, 38), (9, 39), (10, 40), (12, 5)] [⟨26, none, (lc1 2), pt, 4, [.c #[.bool false, .slice none 0 0, .bool false, .slice none 0 0]], [(11, 0, 9)]⟩] ?ok6 ?st6 ?al6 ?pu6 ?en6
      case ok6 => exact BxOK.one ⟨(Nat.le_trans hB0.size g1_2), ⟨_, q5_1_2, rfl, rfl, rfl⟩, by simp, (by decide : (26 : Nat) ≠ 48)⟩ rfl hBt5.size
      case st6 =>
       intro zi zo ho hro a' u lc W hM
       match zi, ho, hro with
       | 0, ho, _ => cases ho; exact wn (kL24 rfl (hM.ol 2) (hM.o1 q5_1_0 (by omega)) rfl)
       | 1, ho, _ => cases ho; exact wn (kL24 rfl (hM.ol 6) (hM.o1 q5_4_0 (by omega)) rfl)
       | 2, ho, _ => cases ho; exact wn (kCall2 rfl may74 (hM.d 0 30 rfl) (hM.d 1 31 rfl) (c74 G1.out F1.out (f5_0.kept hM.kept) (f5_2.kept hM.kept)))
       | 3, ho, _ => cases ho; exact wn (kL24 rfl (hM.ol 3) (hM.o1 q5_1_1 (by omega)) rfl)
       | 4, ho, _ => cases ho; exact wn (kL24 rfl (hM.ol 6) (hM.o1 q5_4_0 (by omega)) rfl)
       | 5, ho, _ => cases ho; exact wn (kCall2 rfl may74 (hM.d 3 33 rfl) (hM.d 4 34 rfl) (c74 G1.out F2.out (f5_1.kept hM.kept) (f5_2.kept hM.kept)))
       | 6, ho, _ =>
        cases ho
        refine .inl ⟨wanted_none rfl, ?_⟩
        obtain ⟨sbx, spx, slx, scx, ex⟩ := (show Is (num N) _ W from (hM.kd 2)).form
        obtain ⟨sby, spy, sly, scy, ey⟩ := (show Is (num D) _ W from (hM.kd 5)).form
        exact kBuild26 rfl ((hM.v 2 32 rfl).trans ex) ((hM.v 5 35 rfl).trans ey) ⟨_, _, _, _, _, _, _, _, rfl, (by rw [← ex]; exact (hM.kd 2)), (by rw [← ey]; exact (hM.kd 5))⟩
       | 7, ho, _ =>
        cases ho
        refine .inl ⟨wanted_none rfl, ?_⟩
        obtain ⟨sb1, sp1, sl1, sc1, sb2, sp2, sl2, sc2, e, sh1, sh2⟩ := (show Is (fr N D) _ W from (hM.kd 6))
        exact kBuild73 rfl ((hM.v 6 36 rfl).trans e) ⟨_, _, _, _, _, _, _, _, rfl, sh1, sh2⟩
       | 8, ho, _ => cases ho; exact wn (kCall1 rfl may75 (hM.v 7 37 rfl) (c75fit HT.out (hM.kd 7)))
       | 9, ho, _ => cases ho; exact wn (kEx20 rfl (hM.d 8 38 rfl))
       | 10, ho, _ => cases ho; exact wn (kEx21 rfl (hM.d 8 38 rfl))
       | 11, _, hro => exact nr1 hro (by kernel_rfl)
       | 12, ho, _ => cases ho; exact wn (kAssign rfl (hM.d 10 40 rfl))
       | zk + 13, ho, _ => simp at ho
      case al6 =>
       intro zk zb zi zo hk ha ho a' u lc W hM
       match zk, hk with
       | 0, hk => cases hk; cases ha
       | zk + 1, hk => simp at hk
      case pu6 =>
       intro zk zb zs zo hk hs ho a' u lc W zc hM hc hcs
       match zk, hk with
       | 0, hk =>
        cases hk
        simp only [List.mem_cons, List.not_mem_nil, or_false] at hs
        rcases hs with rfl
        · cases ho
          obtain ⟨sb, sp, sl, sc, sb2, sp2, sl2, sc2, e, _⟩ := (show Is (fr N D) (u 9) W from (hM.kd 9))
          exact kPut rfl e ((hM.ol 4).trans (show _ = Value.pointer (some ⟨lc 0, 0, none⟩) from by rw [show lc 0 = (lc1 2) from hM.locO 0 _ rfl rfl]; rfl)) (hM.v 9 39 rfl) hc hcs sz26
       | zk + 1, hk => simp at hk
      case en6 =>
       intro u6 lc6 W6 hK6 hB6 hO6 hV6 hX6 hA6
       have k6_9 := kk (hV6 9 39 rfl) rfl
       obtain ⟨qr, ho, hl⟩ := hX6 0 _ rfl
       have elc : lc6 0 = (lc1 2) := ho rfl
       rw [elc] at qr
       obtain ⟨x6_11, y6_11, z6_11, c6_11, x26_11, y26_11, z26_11, c26_11, es6_11, sa6_11, sb6_11⟩ := id k6_9
       have sk6_11 : Is (fr N D) (.agg #[.bool x6_11, .slice y6_11 z6_11 c6_11, .bool x26_11, .slice y26_11 z26_11 c26_11]) W6 := by rw [← es6_11]; exact k6_9
       have q6_0 : W6.heap[(lc1 2)]? = some (.cells #[.bool x6_11, .slice y6_11 z6_11 c6_11, .bool x26_11, .slice y26_11 z26_11 c26_11] 26) := by
        rw [contAll_one rfl (cs := #[.bool x6_11, .slice y6_11 z6_11 c6_11, .bool x26_11, .slice y26_11 z26_11 c26_11]) (by rw [es6_11]; rfl) rfl] at qr; exact qr
       simp only [putK, fC, fN, kZ, kS, vV, vK, sI, sZ, sS]
       have hBt6 := hBt5.trans hB6
       clear hV6 hX6 hA6
       have cr0 := cell_of q6_0 0 rfl
       have cr1 := cell_of q6_0 1 rfl
       have cr2 := cell_of q6_0 2 rfl
       have cr3 := cell_of q6_0 3 rfl
       go_wp2
       exact bodyPost_ret (v := .tuple #[.agg #[.bool x6_11, .slice y6_11 z6_11 c6_11, .bool x26_11, .slice y26_11 z26_11 c26_11], .int .i64 0]) (by simp [results, Tryz.results46, go_sem, cr0, cr1, cr2, cr3]) rfl ⟨_, rfl, ⟨_, _, rfl, sk6_11, rfl⟩, hBt6⟩
theorem c37 {r s : Rat} {v0 v1 : Value} {w : World} (hr : Fs r) (hs : Fs s) (ht : Fs (r + s)) (h0 : Is (frq r) v0 w) (h1 : Is (frq s) v1 w) : Calls Tryz.prog 37 #[v0, v1] w (Ret (.k (frq (r + s))) w) := by
 obtain ⟨ya0, yp0, yl0, yd0, ye0, yq0, ym0, yr0, rfl, yg0, yk0⟩ := id h0
 replace yg0 : Is (num r.num) (.agg #[.bool ya0, .slice yp0 yl0 yd0]) w := yg0
 replace yk0 : Is (num ((r.den : Nat) : Int)) (.agg #[.bool ye0, .slice yq0 ym0 yr0]) w := yk0
 obtain ⟨ya1, yp1, yl1, yd1, ye1, yq1, ym1, yr1, rfl, yg1, yk1⟩ := id h1
 replace yg1 : Is (num s.num) (.agg #[.bool ya1, .slice yp1 yl1 yd1]) w := yg1
 replace yk1 : Is (num ((s.den : Nat) : Int)) (.agg #[.bool ye1, .slice yq1 ym1 yr1]) w := yk1
 have hB0 := Below.refl w.heap.size w
 have HR := Lib.hid hr
 have HS := Lib.hid hs
 have HT := Lib.hid ht
 clear hr hs ht
 go_enter Tryz.func37, Tryz.ntmps37
 go_upto_region 0 with fail
 refine rg (n := 9) (t16 := 48) w.heap.size [] [.any, .any, .any] [(0, 2), (1, 3), (2, 4)] [⟨26, some 0, 0, pt, 4, [.c #[.bool ya0, .slice yp0 yl0 yd0, .bool ye0, .slice yq0 ym0 yr0]], []⟩, ⟨26, some 1, 0, pt, 4, [.c #[.bool ya1, .slice yp1 yl1 yd1, .bool ye1, .slice yq1 ym1 yr1]], []⟩, ⟨26, some 2, 0, pt, 4, [.c #[.bool false, .slice none 0 0, .bool false, .slice none 0 0]], []⟩] ?ok1 ?st1 ?al1 ?pu1 ?en1
 case ok1 => exact BxOK.fresh rfl hB0.size
 case st1 =>
  intro zi zo ho hro a' u lc W hM
  match zi, ho, hro with
  | 0, _, hro => exact nr1 hro (by kernel_rfl)
  | 1, _, hro => exact nr1 hro (by kernel_rfl)
  | 2, _, hro => exact nr1 hro (by kernel_rfl)
  | zk + 3, ho, _ => simp at ho
 case al1 =>
  intro zk zb zi zo hk ha ho a' u lc W hM
  match zk, hk with
  | 0, hk => cases hk; cases ha; cases ho; exact ⟨rfl, rfl, rfl, rfl, kBox rfl (hM.ol 0)⟩
  | 1, hk => cases hk; cases ha; cases ho; exact ⟨rfl, rfl, rfl, rfl, kBox rfl (hM.ol 1)⟩
  | 2, hk => cases hk; cases ha; cases ho; exact ⟨rfl, rfl, rfl, rfl, kAlloc26 rfl⟩
  | zk + 3, hk => simp at hk
 case pu1 =>
  intro zk zb zs zo hk hs ho a' u lc W zc hM hc hcs
  match zk, hk with
  | 0, hk => cases hk; simp at hs
  | 1, hk => cases hk; simp at hs
  | 2, hk => cases hk; simp at hs
  | zk + 3, hk => simp at hk
 case en1 =>
  intro u1 lc1 W1 hK1 hB1 hO1 hV1 hX1 hA1
  obtain ⟨qr, ho, hl⟩ := hX1 0 _ rfl
  have e1_0 : u1 0 = .pointer (some ⟨lc1 0, 0, none⟩) := (hl 0 rfl).1
  have g1_0 := (hl 0 rfl).2
  have f1_0 := h0.kept hK1
  have q1_0 : W1.heap[(lc1 0)]? = some (.cells #[.bool ya0, .slice yp0 yl0 yd0, .bool ye0, .slice yq0 ym0 yr0] 26) := by
   exact qr
  obtain ⟨qr, ho, hl⟩ := hX1 1 _ rfl
  have e1_1 : u1 1 = .pointer (some ⟨lc1 1, 0, none⟩) := (hl 1 rfl).1
  have g1_1 := (hl 1 rfl).2
  have f1_3 := h1.kept hK1
  have q1_1 : W1.heap[(lc1 1)]? = some (.cells #[.bool ya1, .slice yp1 yl1 yd1, .bool ye1, .slice yq1 ym1 yr1] 26) := by
   exact qr
  obtain ⟨qr, ho, hl⟩ := hX1 2 _ rfl
  have e1_2 : u1 2 = .pointer (some ⟨lc1 2, 0, none⟩) := (hl 2 rfl).1
  have g1_2 := (hl 2 rfl).2
  have q1_2 : W1.heap[(lc1 2)]? = some (.cells #[.bool false, .slice none 0 0, .bool false, .slice none 0 0] 26) := by
   exact qr
  have ne1_0_2 := hA1 0 2 _ _ rfl rfl (by decide)
  have ne1_1_2 := hA1 1 2 _ _ rfl rfl (by decide)
  simp only [putK, fC, fN, kZ, kS, vA, sI, sZ, sS, e1_0, e1_1, e1_2]
  have hBt1 := hB0.trans hB1
  clear hV1 hX1 hA1
  go_upto_region 1 with fail
  refine rg (n := 9) (t16 := 48) w.heap.size [] [.val (.agg #[.bool ya0, .slice yp0 yl0 yd0, .bool ye0, .slice yq0 ym0 yr0]), .val (.agg #[.bool ya1, .slice yp1 yl1 yd1, .bool ye1, .slice yq1 ym1 yr1]), .k (tup2 (.k (frq (r + s))) (vZ)), .k (tup2 (.k (frq (r + s))) (vZ)), .k (frq (r + s)), vZ, .any, .any, vZ] [(0, 8), (1, 9), (2, 10), (3, 7), (4, 11), (5, 12), (6, 5), (8, 6)] [⟨26, some 6, 0, pt, 4, [.c #[.bool false, .slice none 0 0, .bool false, .slice none 0 0]], [(7, 0, 4)]⟩] ?ok2 ?st2 ?al2 ?pu2 ?en2
  case ok2 => exact BxOK.fresh rfl hBt1.size
  case st2 =>
   intro zi zo ho hro a' u lc W hM
   match zi, ho, hro with
   | 0, ho, _ => cases ho; exact wn (kL26 rfl (hM.ol 2) (hM.o0 q1_0))
   | 1, ho, _ => cases ho; exact wn (kL26 rfl (hM.ol 3) (hM.o0 q1_1))
   | 2, ho, _ => cases ho; exact wn (kCall2 rfl may27 (hM.d 0 8 rfl) (hM.d 1 9 rfl) (c27 HR.out HS.out HT.out (f1_0.kept hM.kept) (f1_3.kept hM.kept)))
   | 3, ho, _ => cases ho; exact wn (kMove rfl (hM.d 2 10 rfl))
   | 4, ho, _ => cases ho; exact wn (kEx20 rfl (hM.d 3 7 rfl))
   | 5, ho, _ => cases ho; exact wn (kEx21 rfl (hM.d 3 7 rfl))
   | 6, _, hro => exact nr1 hro (by kernel_rfl)
   | 7, _, hro => exact nr1 hro (by kernel_rfl)
   | 8, ho, _ => cases ho; exact wn (kAssign rfl (hM.d 5 12 rfl))
   | zk + 9, ho, _ => simp at ho
  case al2 =>
   intro zk zb zi zo hk ha ho a' u lc W hM
   match zk, hk with
   | 0, hk => cases hk; cases ha; cases ho; exact ⟨rfl, rfl, rfl, rfl, kAlloc26 rfl⟩
   | zk + 1, hk => simp at hk
  case pu2 =>
   intro zk zb zs zo hk hs ho a' u lc W zc hM hc hcs
   match zk, hk with
   | 0, hk =>
    cases hk
    simp only [List.mem_cons, List.not_mem_nil, or_false] at hs
    rcases hs with rfl
    · cases ho
      obtain ⟨sb, sp, sl, sc, sb2, sp2, sl2, sc2, e, _⟩ := (show Is (frq (r + s)) (u 4) W from (hM.kd 4))
      exact kPut rfl e ((hM.v 6 5 rfl).trans (hM.loc 0 _ 6 rfl rfl (by kernel_rfl))) (hM.v 4 11 rfl) hc hcs sz26
   | zk + 1, hk => simp at hk
  case en2 =>
   intro u2 lc2 W2 hK2 hB2 hO2 hV2 hX2 hA2
   have e2_0 := kv (hV2 0 8 rfl) rfl
   have k2_4 := kk (hV2 4 11 rfl) rfl
   obtain ⟨qr, ho, hl⟩ := hX2 0 _ rfl
   have e2_6 : u2 6 = .pointer (some ⟨lc2 0, 0, none⟩) := (hl 6 rfl).1
   have g2_0 := (hl 6 rfl).2
   obtain ⟨x2_7, y2_7, z2_7, c2_7, x22_7, y22_7, z22_7, c22_7, es2_7, sa2_7, sb2_7⟩ := id k2_4
   have sk2_7 : Is (frq (r + s)) (.agg #[.bool x2_7, .slice y2_7 z2_7 c2_7, .bool x22_7, .slice y22_7 z22_7 c22_7]) W2 := by rw [← es2_7]; exact k2_4
   have q2_0 : W2.heap[(lc2 0)]? = some (.cells #[.bool x2_7, .slice y2_7 z2_7 c2_7, .bool x22_7, .slice y22_7 z22_7 c22_7] 26) := by
    rw [contAll_one rfl (cs := #[.bool x2_7, .slice y2_7 z2_7 c2_7, .bool x22_7, .slice y22_7 z22_7 c22_7]) (by rw [es2_7]; rfl) rfl] at qr; exact qr
   have ne2_0_1_2 := Nat.ne_of_lt (Nat.lt_of_lt_of_le (Array.getElem?_eq_some_iff.1 q1_2).1 g2_0)
   have q2_1_2 := oth0 hO2 q1_2
   simp only [putK, fC, fN, kZ, kS, vV, vA, vK, sI, sZ, sS, e2_6]
   have hBt2 := hBt1.trans hB2
   clear hV2 hX2 hA2
   go_upto_region 2 with fail
   refine rg0 (n := 9) (t16 := 48) w.heap.size [vZ, vF] [(0, 13), (1, 14)] hBt2.size ?st3 ?en3
   case st3 =>
    intro zi zo ho hro a' u lc W hM
    match zi, ho, hro with
    | 0, ho, _ => cases ho; exact wn (kMove rfl (hM.ol 6))
    | 1, ho, _ => cases ho; exact wn (kNeq29 rfl (hM.d 0 13 rfl) rfl (by decide))
    | zk + 2, ho, _ => simp at ho
   case en3 =>
    intro u3 lc3 W3 hK3 hB3 hO3 hV3 hX3 hA3
    have q3_1_2 := oth0 hO3 q2_1_2
    have q3_2_0 := oth0 hO3 q2_0
    have f3_6 := sk2_7.kept hK3
    simp only [putK, fC, fN, kZ, kS, vV, sI, sZ, sS]
    have hBt3 := hBt2.trans hB3
    clear hV3 hX3 hA3
    go_upto_region 4 with fail
    refine rg (n := 9) (t16 := 48) w.heap.size [(lc1 2)] [.val (.agg #[.bool x2_7, .slice y2_7 z2_7 c2_7, .bool x22_7, .slice y22_7 z22_7 c22_7]), .any] [(0, 16)] [⟨26, none, (lc1 2), pt, 4, [.c #[.bool false, .slice none 0 0, .bool false, .slice none 0 0]], [(1, 0, 0)]⟩] ?ok4 ?st4 ?al4 ?pu4 ?en4
    case ok4 => exact BxOK.one ⟨(Nat.le_trans hB0.size g1_2), ⟨_, q3_1_2, rfl, rfl, rfl⟩, by simp, (by decide : (26 : Nat) ≠ 48)⟩ rfl hBt3.size
    case st4 =>
     intro zi zo ho hro a' u lc W hM
     match zi, ho, hro with
     | 0, ho, _ => cases ho; exact wn (kL26 rfl (hM.ol 5) (hM.o1 q3_2_0 (by omega)))
     | 1, _, hro => exact nr1 hro (by kernel_rfl)
     | zk + 2, ho, _ => simp at ho
    case al4 =>
     intro zk zb zi zo hk ha ho a' u lc W hM
     match zk, hk with
     | 0, hk => cases hk; cases ha
     | zk + 1, hk => simp at hk
    case pu4 =>
     intro zk zb zs zo hk hs ho a' u lc W zc hM hc hcs
     match zk, hk with
     | 0, hk =>
      cases hk
      simp only [List.mem_cons, List.not_mem_nil, or_false] at hs
      rcases hs with rfl
      · cases ho
        have e : u 0 = .agg #[.bool x2_7, .slice y2_7 z2_7 c2_7, .bool x22_7, .slice y22_7 z22_7 c22_7] := hM.kd 0
        exact kPut rfl e ((hM.ol 4).trans (show _ = Value.pointer (some ⟨lc 0, 0, none⟩) from by rw [show lc 0 = (lc1 2) from hM.locO 0 _ rfl rfl]; rfl)) (hM.v 0 16 rfl) hc hcs sz26
     | zk + 1, hk => simp at hk
    case en4 =>
     intro u4 lc4 W4 hK4 hB4 hO4 hV4 hX4 hA4
     have e4_0 := kv (hV4 0 16 rfl) rfl
     obtain ⟨qr, ho, hl⟩ := hX4 0 _ rfl
     have elc : lc4 0 = (lc1 2) := ho rfl
     rw [elc] at qr
     have f4_0 := f3_6.kept hK4
     have q4_0 : W4.heap[(lc1 2)]? = some (.cells #[.bool x2_7, .slice y2_7 z2_7 c2_7, .bool x22_7, .slice y22_7 z22_7 c22_7] 26) := by
      rw [contAll_one rfl (cs := #[.bool x2_7, .slice y2_7 z2_7 c2_7, .bool x22_7, .slice y22_7 z22_7 c22_7]) (by rw [e4_0]; rfl) rfl] at qr; exact qr
     simp only [putK, fC, fN, kZ, vV, sI, sZ, sS]
     have hBt4 := hBt3.trans hB4
     clear hV4 hX4 hA4
     have cr0 := cell_of q4_0 0 rfl
     have cr1 := cell_of q4_0 1 rfl
     have cr2 := cell_of q4_0 2 rfl
     have cr3 := cell_of q4_0 3 rfl
     go_wp2
     exact bodyPost_ret (v := .agg #[.bool x2_7, .slice y2_7 z2_7 c2_7, .bool x22_7, .slice y22_7 z22_7 c22_7]) (by simp [results, Tryz.results37, go_sem, cr0, cr1, cr2, cr3]) rfl ⟨_, rfl, f4_0, hBt4⟩
theorem c34 {r s : Rat} {v0 v1 : Value} {w : World} (hr : Fs r) (hs : Fs s) (ht : Fs (r * s)) (h0 : Is (frq r) v0 w) (h1 : Is (frq s) v1 w) : Calls Tryz.prog 34 #[v0, v1] w (Ret (.k (frq (r * s))) w) := by
 obtain ⟨ya0, yp0, yl0, yd0, ye0, yq0, ym0, yr0, rfl, yg0, yk0⟩ := id h0
 replace yg0 : Is (num r.num) (.agg #[.bool ya0, .slice yp0 yl0 yd0]) w := yg0
 replace yk0 : Is (num ((r.den : Nat) : Int)) (.agg #[.bool ye0, .slice yq0 ym0 yr0]) w := yk0
 obtain ⟨ya1, yp1, yl1, yd1, ye1, yq1, ym1, yr1, rfl, yg1, yk1⟩ := id h1
 replace yg1 : Is (num s.num) (.agg #[.bool ya1, .slice yp1 yl1 yd1]) w := yg1
 replace yk1 : Is (num ((s.den : Nat) : Int)) (.agg #[.bool ye1, .slice yq1 ym1 yr1]) w := yk1
 have hB0 := Below.refl w.heap.size w
 have HR := Lib.hid hr
 have HS := Lib.hid hs
 have HT := Lib.hid ht
 clear hr hs ht
 go_enter Tryz.func34, Tryz.ntmps34
 go_upto_region 0 with fail
 refine rg (n := 9) (t16 := 48) w.heap.size [] [.any, .any, .any] [(0, 2), (1, 3), (2, 4)] [⟨26, some 0, 0, pt, 4, [.c #[.bool ya0, .slice yp0 yl0 yd0, .bool ye0, .slice yq0 ym0 yr0]], []⟩, ⟨26, some 1, 0, pt, 4, [.c #[.bool ya1, .slice yp1 yl1 yd1, .bool ye1, .slice yq1 ym1 yr1]], []⟩, ⟨26, some 2, 0, pt, 4, [.c #[.bool false, .slice none 0 0, .bool false, .slice none 0 0]], []⟩] ?ok1 ?st1 ?al1 ?pu1 ?en1
 case ok1 => exact BxOK.fresh rfl hB0.size
 case st1 =>
  intro zi zo ho hro a' u lc W hM
  match zi, ho, hro with
  | 0, _, hro => exact nr1 hro (by kernel_rfl)
  | 1, _, hro => exact nr1 hro (by kernel_rfl)
  | 2, _, hro => exact nr1 hro (by kernel_rfl)
  | zk + 3, ho, _ => simp at ho
 case al1 =>
  intro zk zb zi zo hk ha ho a' u lc W hM
  match zk, hk with
  | 0, hk => cases hk; cases ha; cases ho; exact ⟨rfl, rfl, rfl, rfl, kBox rfl (hM.ol 0)⟩
  | 1, hk => cases hk; cases ha; cases ho; exact ⟨rfl, rfl, rfl, rfl, kBox rfl (hM.ol 1)⟩
  | 2, hk => cases hk; cases ha; cases ho; exact ⟨rfl, rfl, rfl, rfl, kAlloc26 rfl⟩
  | zk + 3, hk => simp at hk
 case pu1 =>
  intro zk zb zs zo hk hs ho a' u lc W zc hM hc hcs
  match zk, hk with
  | 0, hk => cases hk; simp at hs
  | 1, hk => cases hk; simp at hs
  | 2, hk => cases hk; simp at hs
  | zk + 3, hk => simp at hk
 case en1 =>
  intro u1 lc1 W1 hK1 hB1 hO1 hV1 hX1 hA1
  obtain ⟨qr, ho, hl⟩ := hX1 0 _ rfl
  have e1_0 : u1 0 = .pointer (some ⟨lc1 0, 0, none⟩) := (hl 0 rfl).1
  have g1_0 := (hl 0 rfl).2
  have f1_0 := h0.kept hK1
  have q1_0 : W1.heap[(lc1 0)]? = some (.cells #[.bool ya0, .slice yp0 yl0 yd0, .bool ye0, .slice yq0 ym0 yr0] 26) := by
   exact qr
  obtain ⟨qr, ho, hl⟩ := hX1 1 _ rfl
  have e1_1 : u1 1 = .pointer (some ⟨lc1 1, 0, none⟩) := (hl 1 rfl).1
  have g1_1 := (hl 1 rfl).2
  have f1_3 := h1.kept hK1
  have q1_1 : W1.heap[(lc1 1)]? = some (.cells #[.bool ya1, .slice yp1 yl1 yd1, .bool ye1, .slice yq1 ym1 yr1] 26) := by
   exact qr
  obtain ⟨qr, ho, hl⟩ := hX1 2 _ rfl
  have e1_2 : u1 2 = .pointer (some ⟨lc1 2, 0, none⟩) := (hl 2 rfl).1
  have g1_2 := (hl 2 rfl).2
  have q1_2 : W1.heap[(lc1 2)]? = some (.cells #[.bool false, .slice none 0 0, .bool false, .slice none 0 0] 26) := by
   exact qr
  have ne1_0_2 := hA1 0 2 _ _ rfl rfl (by decide)
  have ne1_1_2 := hA1 1 2 _ _ rfl rfl (by decide)
  simp only [putK, fC, fN, kZ, kS, vA, sI, sZ, sS, e1_0, e1_1, e1_2]
  have hBt1 := hB0.trans hB1
  clear hV1 hX1 hA1
  go_upto_region 1 with fail
  refine rg (n := 9) (t16 := 48) w.heap.size [] [.val (.agg #[.bool ya0, .slice yp0 yl0 yd0, .bool ye0, .slice yq0 ym0 yr0]), .val (.agg #[.bool ya1, .slice yp1 yl1 yd1, .bool ye1, .slice yq1 ym1 yr1]), .k (tup2 (.k (frq (r * s))) (vZ)), .k (tup2 (.k (frq (r * s))) (vZ)), .k (frq (r * s)), vZ, .any, .any, vZ] [(0, 8), (1, 9), (2, 10), (3, 7), (4, 11), (5, 12), (6, 5), (8, 6)] [⟨26, some 6, 0, pt, 4, [.c #[.bool false, .slice none 0 0, .bool false, .slice none 0 0]], [(7, 0, 4)]⟩] ?ok2 ?st2 ?al2 ?pu2 ?en2
  case ok2 => exact BxOK.fresh rfl hBt1.size
  case st2 =>
   intro zi zo ho hro a' u lc W hM
   match zi, ho, hro with
   | 0, ho, _ => cases ho; exact wn (kL26 rfl (hM.ol 2) (hM.o0 q1_0))
   | 1, ho, _ => cases ho; exact wn (kL26 rfl (hM.ol 3) (hM.o0 q1_1))
   | 2, ho, _ => cases ho; exact wn (kCall2 rfl may29 (hM.d 0 8 rfl) (hM.d 1 9 rfl) (c29 HR.out HS.out HT.out (f1_0.kept hM.kept) (f1_3.kept hM.kept)))
   | 3, ho, _ => cases ho; exact wn (kMove rfl (hM.d 2 10 rfl))
   | 4, ho, _ => cases ho; exact wn (kEx20 rfl (hM.d 3 7 rfl))
   | 5, ho, _ => cases ho; exact wn (kEx21 rfl (hM.d 3 7 rfl))
   | 6, _, hro => exact nr1 hro (by kernel_rfl)
   | 7, _, hro => exact nr1 hro (by kernel_rfl)
   | 8, ho, _ => cases ho; exact wn (kAssign rfl (hM.d 5 12 rfl))
   | zk + 9, ho, _ => simp at ho
  case al2 =>
   intro zk zb zi zo hk ha ho a' u lc W hM
   match zk, hk with
   | 0, hk => cases hk; cases ha; cases ho; exact ⟨rfl, rfl, rfl, rfl, kAlloc26 rfl⟩
   | zk + 1, hk => simp at hk
  case pu2 =>
   intro zk zb zs zo hk hs ho a' u lc W zc hM hc hcs
   match zk, hk with
   | 0, hk =>
    cases hk
    simp only [List.mem_cons, List.not_mem_nil, or_false] at hs
    rcases hs with rfl
    · cases ho
      obtain ⟨sb, sp, sl, sc, sb2, sp2, sl2, sc2, e, _⟩ := (show Is (frq (r * s)) (u 4) W from (hM.kd 4))
      exact kPut rfl e ((hM.v 6 5 rfl).trans (hM.loc 0 _ 6 rfl rfl (by kernel_rfl))) (hM.v 4 11 rfl) hc hcs sz26
   | zk + 1, hk => simp at hk
  case en2 =>
   intro u2 lc2 W2 hK2 hB2 hO2 hV2 hX2 hA2
   have e2_0 := kv (hV2 0 8 rfl) rfl
   have k2_4 := kk (hV2 4 11 rfl) rfl
   obtain ⟨qr, ho, hl⟩ := hX2 0 _ rfl
   have e2_6 : u2 6 = .pointer (some ⟨lc2 0, 0, none⟩) := (hl 6 rfl).1
   have g2_0 := (hl 6 rfl).2
   obtain ⟨x2_7, y2_7, z2_7, c2_7, x22_7, y22_7, z22_7, c22_7, es2_7, sa2_7, sb2_7⟩ := id k2_4
   have sk2_7 : Is (frq (r * s)) (.agg #[.bool x2_7, .slice y2_7 z2_7 c2_7, .bool x22_7, .slice y22_7 z22_7 c22_7]) W2 := by rw [← es2_7]; exact k2_4
   have q2_0 : W2.heap[(lc2 0)]? = some (.cells #[.bool x2_7, .slice y2_7 z2_7 c2_7, .bool x22_7, .slice y22_7 z22_7 c22_7] 26) := by
    rw [contAll_one rfl (cs := #[.bool x2_7, .slice y2_7 z2_7 c2_7, .bool x22_7, .slice y22_7 z22_7 c22_7]) (by rw [es2_7]; rfl) rfl] at qr; exact qr
   have ne2_0_1_2 := Nat.ne_of_lt (Nat.lt_of_lt_of_le (Array.getElem?_eq_some_iff.1 q1_2).1 g2_0)
   have q2_1_2 := oth0 hO2 q1_2
   simp only [putK, fC, fN, kZ, kS, vV, vA, vK, sI, sZ, sS, e2_6]
   have hBt2 := hBt1.trans hB2
   clear hV2 hX2 hA2
   go_upto_region 2 with fail
   refine rg0 (n := 9) (t16 := 48) w.heap.size [vZ, vF] [(0, 13), (1, 14)] hBt2.size ?st3 ?en3
   case st3 =>
    intro zi zo ho hro a' u lc W hM
    match zi, ho, hro with
    | 0, ho, _ => cases ho; exact wn (kMove rfl (hM.ol 6))
    | 1, ho, _ => cases ho; exact wn (kNeq29 rfl (hM.d 0 13 rfl) rfl (by decide))
    | zk + 2, ho, _ => simp at ho
   case en3 =>
    intro u3 lc3 W3 hK3 hB3 hO3 hV3 hX3 hA3
    have q3_1_2 := oth0 hO3 q2_1_2
    have q3_2_0 := oth0 hO3 q2_0
    have f3_6 := sk2_7.kept hK3
    simp only [putK, fC, fN, kZ, kS, vV, sI, sZ, sS]
    have hBt3 := hBt2.trans hB3
    clear hV3 hX3 hA3
    go_upto_region 4 with fail
    refine rg (n := 9) (t16 := 48) w.heap.size [(lc1 2)] [.val (.agg #[.bool x2_7, .slice y2_7 z2_7 c2_7, .bool x22_7, .slice y22_7 z22_7 c22_7]), .any] [(0, 16)] [⟨26, none, (lc1 2), pt, 4, [.c #[.bool false, .slice none 0 0, .bool false, .slice none 0 0]], [(1, 0, 0)]⟩] ?ok4 ?st4 ?al4 ?pu4 ?en4
    case ok4 => exact BxOK.one ⟨(Nat.le_trans hB0.size g1_2), ⟨_, q3_1_2, rfl, rfl, rfl⟩, by simp, (by decide : (26 : Nat) ≠ 48)⟩ rfl hBt3.size
    case st4 =>
     intro zi zo ho hro a' u lc W hM
     match zi, ho, hro with
     | 0, ho, _ => cases ho; exact wn (kL26 rfl (hM.ol 5) (hM.o1 q3_2_0 (by omega)))
     | 1, _, hro => exact nr1 hro (by kernel_rfl)
     | zk + 2, ho, _ => simp at ho
    case al4 =>
     intro zk zb zi zo hk ha ho a' u lc W hM
     match zk, hk with
     | 0, hk => cases hk; cases ha
     | zk + 1, hk => simp at hk
    case pu4 =>
     intro zk zb zs zo hk hs ho a' u lc W zc hM hc hcs
     match zk, hk with
     | 0, hk =>
      cases hk
      simp only [List.mem_cons, List.not_mem_nil, or_false] at hs
      rcases hs with rfl
      · cases ho
        have e : u 0 = .agg #[.bool x2_7, .slice y2_7 z2_7 c2_7, .bool x22_7, .slice y22_7 z22_7 c22_7] := hM.kd 0
        exact kPut rfl e ((hM.ol 4).trans (show _ = Value.pointer (some ⟨lc 0, 0, none⟩) from by rw [show lc 0 = (lc1 2) from hM.locO 0 _ rfl rfl]; rfl)) (hM.v 0 16 rfl) hc hcs sz26
     | zk + 1, hk => simp at hk
    case en4 =>
     intro u4 lc4 W4 hK4 hB4 hO4 hV4 hX4 hA4
     have e4_0 := kv (hV4 0 16 rfl) rfl
     obtain ⟨qr, ho, hl⟩ := hX4 0 _ rfl
     have elc : lc4 0 = (lc1 2) := ho rfl
     rw [elc] at qr
     have f4_0 := f3_6.kept hK4
     have q4_0 : W4.heap[(lc1 2)]? = some (.cells #[.bool x2_7, .slice y2_7 z2_7 c2_7, .bool x22_7, .slice y22_7 z22_7 c22_7] 26) := by
      rw [contAll_one rfl (cs := #[.bool x2_7, .slice y2_7 z2_7 c2_7, .bool x22_7, .slice y22_7 z22_7 c22_7]) (by rw [e4_0]; rfl) rfl] at qr; exact qr
     simp only [putK, fC, fN, kZ, vV, sI, sZ, sS]
     have hBt4 := hBt3.trans hB4
     clear hV4 hX4 hA4
     have cr0 := cell_of q4_0 0 rfl
     have cr1 := cell_of q4_0 1 rfl
     have cr2 := cell_of q4_0 2 rfl
     have cr3 := cell_of q4_0 3 rfl
     go_wp2
     exact bodyPost_ret (v := .agg #[.bool x2_7, .slice y2_7 z2_7 c2_7, .bool x22_7, .slice y22_7 z22_7 c22_7]) (by simp [results, Tryz.results34, go_sem, cr0, cr1, cr2, cr3]) rfl ⟨_, rfl, f4_0, hBt4⟩
theorem c36 {r s : Rat} {v0 v1 : Value} {w : World} (hr : Fs r) (hs : Fs s) (ht : Fs (r + -s)) (h0 : Is (frq r) v0 w) (h1 : Is (frq s) v1 w) : Calls Tryz.prog 36 #[v0, v1] w (Ret (.k (frq (r + -s))) w) := by
 obtain ⟨ya0, yp0, yl0, yd0, ye0, yq0, ym0, yr0, rfl, yg0, yk0⟩ := id h0
 replace yg0 : Is (num r.num) (.agg #[.bool ya0, .slice yp0 yl0 yd0]) w := yg0
 replace yk0 : Is (num ((r.den : Nat) : Int)) (.agg #[.bool ye0, .slice yq0 ym0 yr0]) w := yk0
 obtain ⟨ya1, yp1, yl1, yd1, ye1, yq1, ym1, yr1, rfl, yg1, yk1⟩ := id h1
 replace yg1 : Is (num s.num) (.agg #[.bool ya1, .slice yp1 yl1 yd1]) w := yg1
 replace yk1 : Is (num ((s.den : Nat) : Int)) (.agg #[.bool ye1, .slice yq1 ym1 yr1]) w := yk1
 have hB0 := Below.refl w.heap.size w
 have HR := Lib.hid hr
 have HS := Lib.hid hs
 have HT := Lib.hid ht
 clear hr hs ht
 go_enter Tryz.func36, Tryz.ntmps36
 go_upto_region 0 with fail
 refine rg (n := 9) (t16 := 48) w.heap.size [] [.any, .any, .any] [(0, 2), (1, 3), (2, 4)] [⟨26, some 0, 0, pt, 4, [.c #[.bool ya0, .slice yp0 yl0 yd0, .bool ye0, .slice yq0 ym0 yr0]], []⟩, ⟨26, some 1, 0, pt, 4, [.c #[.bool ya1, .slice yp1 yl1 yd1, .bool ye1, .slice yq1 ym1 yr1]], []⟩, ⟨26, some 2, 0, pt, 4, [.c #[.bool false, .slice none 0 0, .bool false, .slice none 0 0]], []⟩] ?ok1 ?st1 ?al1 ?pu1 ?en1
 case ok1 => exact BxOK.fresh rfl hB0.size
 case st1 =>
  intro zi zo ho hro a' u lc W hM
  match zi, ho, hro with
  | 0, _, hro => exact nr1 hro (by kernel_rfl)
  | 1, _, hro => exact nr1 hro (by kernel_rfl)
  | 2, _, hro => exact nr1 hro (by kernel_rfl)
  | zk + 3, ho, _ => simp at ho
 case al1 =>
  intro zk zb zi zo hk ha ho a' u lc W hM
  match zk, hk with
  | 0, hk => cases hk; cases ha; cases ho; exact ⟨rfl, rfl, rfl, rfl, kBox rfl (hM.ol 0)⟩
  | 1, hk => cases hk; cases ha; cases ho; exact ⟨rfl, rfl, rfl, rfl, kBox rfl (hM.ol 1)⟩
  | 2, hk => cases hk; cases ha; cases ho; exact ⟨rfl, rfl, rfl, rfl, kAlloc26 rfl⟩
  | zk + 3, hk => simp at hk
 case pu1 =>
  intro zk zb zs zo hk hs ho a' u lc W zc hM hc hcs
  match zk, hk with
  | 0, hk => cases hk; simp at hs
  | 1, hk => cases hk; simp at hs
  | 2, hk => cases hk; simp at hs
  | zk + 3, hk => simp at hk
 case en1 =>
  intro u1 lc1 W1 hK1 hB1 hO1 hV1 hX1 hA1
  obtain ⟨qr, ho, hl⟩ := hX1 0 _ rfl
  have e1_0 : u1 0 = .pointer (some ⟨lc1 0, 0, none⟩) := (hl 0 rfl).1
  have g1_0 := (hl 0 rfl).2
  have f1_0 := h0.kept hK1
  have q1_0 : W1.heap[(lc1 0)]? = some (.cells #[.bool ya0, .slice yp0 yl0 yd0, .bool ye0, .slice yq0 ym0 yr0] 26) := by
   exact qr
  obtain ⟨qr, ho, hl⟩ := hX1 1 _ rfl
  have e1_1 : u1 1 = .pointer (some ⟨lc1 1, 0, none⟩) := (hl 1 rfl).1
  have g1_1 := (hl 1 rfl).2
  have f1_3 := h1.kept hK1
  have q1_1 : W1.heap[(lc1 1)]? = some (.cells #[.bool ya1, .slice yp1 yl1 yd1, .bool ye1, .slice yq1 ym1 yr1] 26) := by
   exact qr
  obtain ⟨qr, ho, hl⟩ := hX1 2 _ rfl
  have e1_2 : u1 2 = .pointer (some ⟨lc1 2, 0, none⟩) := (hl 2 rfl).1
  have g1_2 := (hl 2 rfl).2
  have q1_2 : W1.heap[(lc1 2)]? = some (.cells #[.bool false, .slice none 0 0, .bool false, .slice none 0 0] 26) := by
   exact qr
  have ne1_0_2 := hA1 0 2 _ _ rfl rfl (by decide)
  have ne1_1_2 := hA1 1 2 _ _ rfl rfl (by decide)
  simp only [putK, fC, fN, kZ, kS, vA, sI, sZ, sS, e1_0, e1_1, e1_2]
  have hBt1 := hB0.trans hB1
  clear hV1 hX1 hA1
  go_upto_region 1 with fail
  refine rg (n := 9) (t16 := 48) w.heap.size [] [.val (.agg #[.bool ya0, .slice yp0 yl0 yd0, .bool ye0, .slice yq0 ym0 yr0]), .val (.agg #[.bool ya1, .slice yp1 yl1 yd1, .bool ye1, .slice yq1 ym1 yr1]), .k (tup2 (.k (frq (r + -s))) (vZ)), .k (tup2 (.k (frq (r + -s))) (vZ)), .k (frq (r + -s)), vZ, .any, .any, vZ] [(0, 8), (1, 9), (2, 10), (3, 7), (4, 11), (5, 12), (6, 5), (8, 6)] [⟨26, some 6, 0, pt, 4, [.c #[.bool false, .slice none 0 0, .bool false, .slice none 0 0]], [(7, 0, 4)]⟩] ?ok2 ?st2 ?al2 ?pu2 ?en2
  case ok2 => exact BxOK.fresh rfl hBt1.size
  case st2 =>
   intro zi zo ho hro a' u lc W hM
   match zi, ho, hro with
   | 0, ho, _ => cases ho; exact wn (kL26 rfl (hM.ol 2) (hM.o0 q1_0))
   | 1, ho, _ => cases ho; exact wn (kL26 rfl (hM.ol 3) (hM.o0 q1_1))
   | 2, ho, _ => cases ho; exact wn (kCall2 rfl may57 (hM.d 0 8 rfl) (hM.d 1 9 rfl) (c57 HR.out HS.out HT.out (f1_0.kept hM.kept) (f1_3.kept hM.kept)))
   | 3, ho, _ => cases ho; exact wn (kMove rfl (hM.d 2 10 rfl))
   | 4, ho, _ => cases ho; exact wn (kEx20 rfl (hM.d 3 7 rfl))
   | 5, ho, _ => cases ho; exact wn (kEx21 rfl (hM.d 3 7 rfl))
   | 6, _, hro => exact nr1 hro (by kernel_rfl)
   | 7, _, hro => exact nr1 hro (by kernel_rfl)
   | 8, ho, _ => cases ho; exact wn (kAssign rfl (hM.d 5 12 rfl))
   | zk + 9, ho, _ => simp at ho
  case al2 =>
   intro zk zb zi zo hk ha ho a' u lc W hM
   match zk, hk with
   | 0, hk => cases hk; cases ha; cases ho; exact ⟨rfl, rfl, rfl, rfl, kAlloc26 rfl⟩
   | zk + 1, hk => simp at hk
  case pu2 =>
   intro zk zb zs zo hk hs ho a' u lc W zc hM hc hcs
   match zk, hk with
   | 0, hk =>
    cases hk
    simp only [List.mem_cons, List.not_mem_nil, or_false] at hs
    rcases hs with rfl
    · cases ho
      obtain ⟨sb, sp, sl, sc, sb2, sp2, sl2, sc2, e, _⟩ := (show Is (frq (r + -s)) (u 4) W from (hM.kd 4))
      exact kPut rfl e ((hM.v 6 5 rfl).trans (hM.loc 0 _ 6 rfl rfl (by kernel_rfl))) (hM.v 4 11 rfl) hc hcs sz26
   | zk + 1, hk => simp at hk
  case en2 =>
   intro u2 lc2 W2 hK2 hB2 hO2 hV2 hX2 hA2
   have e2_0 := kv (hV2 0 8 rfl) rfl
   have k2_4 := kk (hV2 4 11 rfl) rfl
   obtain ⟨qr, ho, hl⟩ := hX2 0 _ rfl
   have e2_6 : u2 6 = .pointer (some ⟨lc2 0, 0, none⟩) := (hl 6 rfl).1
   have g2_0 := (hl 6 rfl).2
   obtain ⟨x2_7, y2_7, z2_7, c2_7, x22_7, y22_7, z22_7, c22_7, es2_7, sa2_7, sb2_7⟩ := id k2_4
   have sk2_7 : Is (frq (r + -s)) (.agg #[.bool x2_7, .slice y2_7 z2_7 c2_7, .bool x22_7, .slice y22_7 z22_7 c22_7]) W2 := by rw [← es2_7]; exact k2_4
   have q2_0 : W2.heap[(lc2 0)]? = some (.cells #[.bool x2_7, .slice y2_7 z2_7 c2_7, .bool x22_7, .slice y22_7 z22_7 c22_7] 26) := by
    rw [contAll_one rfl (cs := #[.bool x2_7, .slice y2_7 z2_7 c2_7, .bool x22_7, .slice y22_7 z22_7 c22_7]) (by rw [es2_7]; rfl) rfl] at qr; exact qr
   have ne2_0_1_2 := Nat.ne_of_lt (Nat.lt_of_lt_of_le (Array.getElem?_eq_some_iff.1 q1_2).1 g2_0)
   have q2_1_2 := oth0 hO2 q1_2
   simp only [putK, fC, fN, kZ, kS, vV, vA, vK, sI, sZ, sS, e2_6]
   have hBt2 := hBt1.trans hB2
   clear hV2 hX2 hA2
   go_upto_region 2 with fail
   refine rg0 (n := 9) (t16 := 48) w.heap.size [vZ, vF] [(0, 13), (1, 14)] hBt2.size ?st3 ?en3
   case st3 =>
    intro zi zo ho hro a' u lc W hM
    match zi, ho, hro with
    | 0, ho, _ => cases ho; exact wn (kMove rfl (hM.ol 6))
    | 1, ho, _ => cases ho; exact wn (kNeq29 rfl (hM.d 0 13 rfl) rfl (by decide))
    | zk + 2, ho, _ => simp at ho
   case en3 =>
    intro u3 lc3 W3 hK3 hB3 hO3 hV3 hX3 hA3
    have q3_1_2 := oth0 hO3 q2_1_2
    have q3_2_0 := oth0 hO3 q2_0
    have f3_6 := sk2_7.kept hK3
    simp only [putK, fC, fN, kZ, kS, vV, sI, sZ, sS]
    have hBt3 := hBt2.trans hB3
    clear hV3 hX3 hA3
    go_upto_region 4 with fail
    refine rg (n := 9) (t16 := 48) w.heap.size [(lc1 2)] [.val (.agg #[.bool x2_7, .slice y2_7 z2_7 c2_7, .bool x22_7, .slice y22_7 z22_7 c22_7]), .any] [(0, 16)] [⟨26, none, (lc1 2), pt, 4, [.c #[.bool false, .slice none 0 0, .bool false, .slice none 0 0]], [(1, 0, 0)]⟩] ?ok4 ?st4 ?al4 ?pu4 ?en4
    case ok4 => exact BxOK.one ⟨(Nat.le_trans hB0.size g1_2), ⟨_, q3_1_2, rfl, rfl, rfl⟩, by simp, (by decide : (26 : Nat) ≠ 48)⟩ rfl hBt3.size
    case st4 =>
     intro zi zo ho hro a' u lc W hM
     match zi, ho, hro with
     | 0, ho, _ => cases ho; exact wn (kL26 rfl (hM.ol 5) (hM.o1 q3_2_0 (by omega)))
     | 1, _, hro => exact nr1 hro (by kernel_rfl)
     | zk + 2, ho, _ => simp at ho
    case al4 =>
     intro zk zb zi zo hk ha ho a' u lc W hM
     match zk, hk with
     | 0, hk => cases hk; cases ha
     | zk + 1, hk => simp at hk
    case pu4 =>
     intro zk zb zs zo hk hs ho a' u lc W zc hM hc hcs
     match zk, hk with
     | 0, hk =>
      cases hk
      simp only [List.mem_cons, List.not_mem_nil, or_false] at hs
      rcases hs with rfl
      · cases ho
        have e : u 0 = .agg #[.bool x2_7, .slice y2_7 z2_7 c2_7, .bool x22_7, .slice y22_7 z22_7 c22_7] := hM.kd 0
        exact kPut rfl e ((hM.ol 4).trans (show _ = Value.pointer (some ⟨lc 0, 0, none⟩) from by rw [show lc 0 = (lc1 2) from hM.locO 0 _ rfl rfl]; rfl)) (hM.v 0 16 rfl) hc hcs sz26
     | zk + 1, hk => simp at hk
    case en4 =>
     intro u4 lc4 W4 hK4 hB4 hO4 hV4 hX4 hA4
     have e4_0 := kv (hV4 0 16 rfl) rfl
     obtain ⟨qr, ho, hl⟩ := hX4 0 _ rfl
     have elc : lc4 0 = (lc1 2) := ho rfl
     rw [elc] at qr
     have f4_0 := f3_6.kept hK4
     have q4_0 : W4.heap[(lc1 2)]? = some (.cells #[.bool x2_7, .slice y2_7 z2_7 c2_7, .bool x22_7, .slice y22_7 z22_7 c22_7] 26) := by
      rw [contAll_one rfl (cs := #[.bool x2_7, .slice y2_7 z2_7 c2_7, .bool x22_7, .slice y22_7 z22_7 c22_7]) (by rw [e4_0]; rfl) rfl] at qr; exact qr
     simp only [putK, fC, fN, kZ, vV, sI, sZ, sS]
     have hBt4 := hBt3.trans hB4
     clear hV4 hX4 hA4
     have cr0 := cell_of q4_0 0 rfl
     have cr1 := cell_of q4_0 1 rfl
     have cr2 := cell_of q4_0 2 rfl
     have cr3 := cell_of q4_0 3 rfl
     go_wp2
     exact bodyPost_ret (v := .agg #[.bool x2_7, .slice y2_7 z2_7 c2_7, .bool x22_7, .slice y22_7 z22_7 c22_7]) (by simp [results, Tryz.results36, go_sem, cr0, cr1, cr2, cr3]) rfl ⟨_, rfl, f4_0, hBt4⟩
theorem c38 {r s : Rat} {v0 v1 : Value} {w : World} (hr : Fs r) (hs : Fs s) (h0s : s ≠ 0) (hz : decide (s.num = 0) = false) (ht : Fs (r * s⁻¹)) (h0 : Is (frq r) v0 w) (h1 : Is (frq s) v1 w) : Calls Tryz.prog 38 #[v0, v1] w (Ret (.k (frq (r * s⁻¹))) w) := by
 obtain ⟨ya0, yp0, yl0, yd0, ye0, yq0, ym0, yr0, rfl, yg0, yk0⟩ := id h0
 replace yg0 : Is (num r.num) (.agg #[.bool ya0, .slice yp0 yl0 yd0]) w := yg0
 replace yk0 : Is (num ((r.den : Nat) : Int)) (.agg #[.bool ye0, .slice yq0 ym0 yr0]) w := yk0
 obtain ⟨ya1, yp1, yl1, yd1, ye1, yq1, ym1, yr1, rfl, yg1, yk1⟩ := id h1
 replace yg1 : Is (num s.num) (.agg #[.bool ya1, .slice yp1 yl1 yd1]) w := yg1
 replace yk1 : Is (num ((s.den : Nat) : Int)) (.agg #[.bool ye1, .slice yq1 ym1 yr1]) w := yk1
 have hB0 := Below.refl w.heap.size w
 have HR := Lib.hid hr
 have HS := Lib.hid hs
 have H0S := Lib.hid h0s
 have HZ := Lib.hid hz
 have HT := Lib.hid ht
 clear hr hs h0s hz ht
 go_enter Tryz.func38, Tryz.ntmps38
 go_upto_region 0 with fail
 refine rg (n := 9) (t16 := 48) w.heap.size [] [.any, .any, .any] [(0, 2), (1, 3), (2, 4)] [⟨26, some 0, 0, pt, 4, [.c #[.bool ya0, .slice yp0 yl0 yd0, .bool ye0, .slice yq0 ym0 yr0]], []⟩, ⟨26, some 1, 0, pt, 4, [.c #[.bool ya1, .slice yp1 yl1 yd1, .bool ye1, .slice yq1 ym1 yr1]], []⟩, ⟨26, some 2, 0, pt, 4, [.c #[.bool false, .slice none 0 0, .bool false, .slice none 0 0]], []⟩] ?ok1 ?st1 ?al1 ?pu1 ?en1
 case ok1 => exact BxOK.fresh rfl hB0.size
 case st1 =>
  intro zi zo ho hro a' u lc W hM
  match zi, ho, hro with
  | 0, _, hro => exact nr1 hro (by kernel_rfl)
  | 1, _, hro => exact nr1 hro (by kernel_rfl)
  | 2, _, hro => exact nr1 hro (by kernel_rfl)
  | zk + 3, ho, _ => simp at ho
 case al1 =>
  intro zk zb zi zo hk ha ho a' u lc W hM
  match zk, hk with
  | 0, hk => cases hk; cases ha; cases ho; exact ⟨rfl, rfl, rfl, rfl, kBox rfl (hM.ol 0)⟩
  | 1, hk => cases hk; cases ha; cases ho; exact ⟨rfl, rfl, rfl, rfl, kBox rfl (hM.ol 1)⟩
  | 2, hk => cases hk; cases ha; cases ho; exact ⟨rfl, rfl, rfl, rfl, kAlloc26 rfl⟩
  | zk + 3, hk => simp at hk
 case pu1 =>
  intro zk zb zs zo hk hs ho a' u lc W zc hM hc hcs
  match zk, hk with
  | 0, hk => cases hk; simp at hs
  | 1, hk => cases hk; simp at hs
  | 2, hk => cases hk; simp at hs
  | zk + 3, hk => simp at hk
 case en1 =>
  intro u1 lc1 W1 hK1 hB1 hO1 hV1 hX1 hA1
  obtain ⟨qr, ho, hl⟩ := hX1 0 _ rfl
  have e1_0 : u1 0 = .pointer (some ⟨lc1 0, 0, none⟩) := (hl 0 rfl).1
  have g1_0 := (hl 0 rfl).2
  have f1_0 := h0.kept hK1
  have q1_0 : W1.heap[(lc1 0)]? = some (.cells #[.bool ya0, .slice yp0 yl0 yd0, .bool ye0, .slice yq0 ym0 yr0] 26) := by
   exact qr
  obtain ⟨qr, ho, hl⟩ := hX1 1 _ rfl
  have e1_1 : u1 1 = .pointer (some ⟨lc1 1, 0, none⟩) := (hl 1 rfl).1
  have g1_1 := (hl 1 rfl).2
  have f1_3 := h1.kept hK1
  have q1_1 : W1.heap[(lc1 1)]? = some (.cells #[.bool ya1, .slice yp1 yl1 yd1, .bool ye1, .slice yq1 ym1 yr1] 26) := by
   exact qr
  obtain ⟨qr, ho, hl⟩ := hX1 2 _ rfl
  have e1_2 : u1 2 = .pointer (some ⟨lc1 2, 0, none⟩) := (hl 2 rfl).1
  have g1_2 := (hl 2 rfl).2
  have q1_2 : W1.heap[(lc1 2)]? = some (.cells #[.bool false, .slice none 0 0, .bool false, .slice none 0 0] 26) := by
   exact qr
  have ne1_0_2 := hA1 0 2 _ _ rfl rfl (by decide)
  have ne1_1_2 := hA1 1 2 _ _ rfl rfl (by decide)
  simp only [putK, fC, fN, kZ, kS, vA, sI, sZ, sS, e1_0, e1_1, e1_2]
  have hBt1 := hB0.trans hB1
  clear hV1 hX1 hA1
  go_upto_region 1 with fail
  refine rg (n := 9) (t16 := 48) w.heap.size [] [.val (.agg #[.bool ya0, .slice yp0 yl0 yd0, .bool ye0, .slice yq0 ym0 yr0]), .val (.agg #[.bool ya1, .slice yp1 yl1 yd1, .bool ye1, .slice yq1 ym1 yr1]), .k (tup2 (.k (frq (r * s⁻¹))) (vZ)), .k (tup2 (.k (frq (r * s⁻¹))) (vZ)), .k (frq (r * s⁻¹)), vZ, .any, .any, vZ] [(0, 8), (1, 9), (2, 10), (3, 7), (4, 11), (5, 12), (6, 5), (8, 6)] [⟨26, some 6, 0, pt, 4, [.c #[.bool false, .slice none 0 0, .bool false, .slice none 0 0]], [(7, 0, 4)]⟩] ?ok2 ?st2 ?al2 ?pu2 ?en2
  case ok2 => exact BxOK.fresh rfl hBt1.size
  case st2 =>
   intro zi zo ho hro a' u lc W hM
   match zi, ho, hro with
   | 0, ho, _ => cases ho; exact wn (kL26 rfl (hM.ol 2) (hM.o0 q1_0))
   | 1, ho, _ => cases ho; exact wn (kL26 rfl (hM.ol 3) (hM.o0 q1_1))
   | 2, ho, _ => cases ho; exact wn (kCall2 rfl may40 (hM.d 0 8 rfl) (hM.d 1 9 rfl) (c40 HR.out HS.out H0S.out HZ.out HT.out (f1_0.kept hM.kept) (f1_3.kept hM.kept)))
   | 3, ho, _ => cases ho; exact wn (kMove rfl (hM.d 2 10 rfl))
   | 4, ho, _ => cases ho; exact wn (kEx20 rfl (hM.d 3 7 rfl))
   | 5, ho, _ => cases ho; exact wn (kEx21 rfl (hM.d 3 7 rfl))
   | 6, _, hro => exact nr1 hro (by kernel_rfl)
   | 7, _, hro => exact nr1 hro (by kernel_rfl)
   | 8, ho, _ => cases ho; exact wn (kAssign rfl (hM.d 5 12 rfl))
   | zk + 9, ho, _ => simp at ho
  case al2 =>
   intro zk zb zi zo hk ha ho a' u lc W hM
   match zk, hk with
   | 0, hk => cases hk; cases ha; cases ho; exact ⟨rfl, rfl, rfl, rfl, kAlloc26 rfl⟩
   | zk + 1, hk => simp at hk
  case pu2 =>
   intro zk zb zs zo hk hs ho a' u lc W zc hM hc hcs
   match zk, hk with
   | 0, hk =>
    cases hk
    simp only [List.mem_cons, List.not_mem_nil, or_false] at hs
    rcases hs with rfl
    · cases ho
      obtain ⟨sb, sp, sl, sc, sb2, sp2, sl2, sc2, e, _⟩ := (show Is (frq (r * s⁻¹)) (u 4) W from (hM.kd 4))
      exact kPut rfl e ((hM.v 6 5 rfl).trans (hM.loc 0 _ 6 rfl rfl (by kernel_rfl))) (hM.v 4 11 rfl) hc hcs sz26
   | zk + 1, hk => simp at hk
  case en2 =>
   intro u2 lc2 W2 hK2 hB2 hO2 hV2 hX2 hA2
   have e2_0 := kv (hV2 0 8 rfl) rfl
   have k2_4 := kk (hV2 4 11 rfl) rfl
   obtain ⟨qr, ho, hl⟩ := hX2 0 _ rfl
   have e2_6 : u2 6 = .pointer (some ⟨lc2 0, 0, none⟩) := (hl 6 rfl).1
   have g2_0 := (hl 6 rfl).2
   obtain ⟨x2_7, y2_7, z2_7, c2_7, x22_7, y22_7, z22_7, c22_7, es2_7, sa2_7, sb2_7⟩ := id k2_4
   have sk2_7 : Is (frq (r * s⁻¹)) (.agg #[.bool x2_7, .slice y2_7 z2_7 c2_7, .bool x22_7, .slice y22_7 z22_7 c22_7]) W2 := by rw [← es2_7]; exact k2_4
   have q2_0 : W2.heap[(lc2 0)]? = some (.cells #[.bool x2_7, .slice y2_7 z2_7 c2_7, .bool x22_7, .slice y22_7 z22_7 c22_7] 26) := by
    rw [contAll_one rfl (cs := #[.bool x2_7, .slice y2_7 z2_7 c2_7, .bool x22_7, .slice y22_7 z22_7 c22_7]) (by rw [es2_7]; rfl) rfl] at qr; exact qr
   have ne2_0_1_2 := Nat.ne_of_lt (Nat.lt_of_lt_of_le (Array.getElem?_eq_some_iff.1 q1_2).1 g2_0)
   have q2_1_2 := oth0 hO2 q1_2
   simp only [putK, fC, fN, kZ, kS, vV, vA, vK, sI, sZ, sS, e2_6]
   have hBt2 := hBt1.trans hB2
   clear hV2 hX2 hA2
   go_upto_region 2 with fail
   refine rg0 (n := 9) (t16 := 48) w.heap.size [vZ, vF] [(0, 13), (1, 14)] hBt2.size ?st3 ?en3
   case st3 =>
    intro zi zo ho hro a' u lc W hM
    match zi, ho, hro with
    | 0, ho, _ => cases ho; exact wn (kMove rfl (hM.ol 6))
    | 1, ho, _ => cases ho; exact wn (kNeq29 rfl (hM.d 0 13 rfl) rfl (by decide))
    | zk + 2, ho, _ => simp at ho
   case en3 =>
    intro u3 lc3 W3 hK3 hB3 hO3 hV3 hX3 hA3
    have q3_1_2 := oth0 hO3 q2_1_2
    have q3_2_0 := oth0 hO3 q2_0
    have f3_6 := sk2_7.kept hK3
    simp only [putK, fC, fN, kZ, kS, vV, sI, sZ, sS]
    have hBt3 := hBt2.trans hB3
    clear hV3 hX3 hA3
    go_upto_region 4 with fail
    refine rg (n := 9) (t16 := 48) w.heap.size [(lc1 2)] [.val (.agg #[.bool x2_7, .slice y2_7 z2_7 c2_7, .bool x22_7, .slice y22_7 z22_7 c22_7]), .any] [(0, 16)] [⟨26, none, (lc1 2), pt, 4, [.c #[.bool false, .slice none 0 0, .bool false, .slice none 0 0]], [(1, 0, 0)]⟩] ?ok4 ?st4 ?al4 ?pu4 ?en4
    case ok4 => exact BxOK.one ⟨(Nat.le_trans hB0.size g1_2), ⟨_, q3_1_2, rfl, rfl, rfl⟩, by simp, (by decide : (26 : Nat) ≠ 48)⟩ rfl hBt3.size
    case st4 =>
     intro zi zo ho hro a' u lc W hM
     match zi, ho, hro with
     | 0, ho, _ => cases ho; exact wn (kL26 rfl (hM.ol 5) (hM.o1 q3_2_0 (by omega)))
     | 1, _, hro => exact nr1 hro (by kernel_rfl)
     | zk + 2, ho, _ => simp at ho
    case al4 =>
     intro zk zb zi zo hk ha ho a' u lc W hM
     match zk, hk with
     | 0, hk => cases hk; cases ha
     | zk + 1, hk => simp at hk
    case pu4 =>
     intro zk zb zs zo hk hs ho a' u lc W zc hM hc hcs
     match zk, hk with
     | 0, hk =>
      cases hk
      simp only [List.mem_cons, List.not_mem_nil, or_false] at hs
      rcases hs with rfl
      · cases ho
        have e : u 0 = .agg #[.bool x2_7, .slice y2_7 z2_7 c2_7, .bool x22_7, .slice y22_7 z22_7 c22_7] := hM.kd 0
        exact kPut rfl e ((hM.ol 4).trans (show _ = Value.pointer (some ⟨lc 0, 0, none⟩) from by rw [show lc 0 = (lc1 2) from hM.locO 0 _ rfl rfl]; rfl)) (hM.v 0 16 rfl) hc hcs sz26
     | zk + 1, hk => simp at hk
    case en4 =>
     intro u4 lc4 W4 hK4 hB4 hO4 hV4 hX4 hA4
     have e4_0 := kv (hV4 0 16 rfl) rfl
     obtain ⟨qr, ho, hl⟩ := hX4 0 _ rfl
     have elc : lc4 0 = (lc1 2) := ho rfl
     rw [elc] at qr
     have f4_0 := f3_6.kept hK4
     have q4_0 : W4.heap[(lc1 2)]? = some (.cells #[.bool x2_7, .slice y2_7 z2_7 c2_7, .bool x22_7, .slice y22_7 z22_7 c22_7] 26) := by
      rw [contAll_one rfl (cs := #[.bool x2_7, .slice y2_7 z2_7 c2_7, .bool x22_7, .slice y22_7 z22_7 c22_7]) (by rw [e4_0]; rfl) rfl] at qr; exact qr
     simp only [putK, fC, fN, kZ, vV, sI, sZ, sS]
     have hBt4 := hBt3.trans hB4
     clear hV4 hX4 hA4
     have cr0 := cell_of q4_0 0 rfl
     have cr1 := cell_of q4_0 1 rfl
     have cr2 := cell_of q4_0 2 rfl
     have cr3 := cell_of q4_0 3 rfl
     go_wp2
     exact bodyPost_ret (v := .agg #[.bool x2_7, .slice y2_7 z2_7 c2_7, .bool x22_7, .slice y22_7 z22_7 c22_7]) (by simp [results, Tryz.results38, go_sem, cr0, cr1, cr2, cr3]) rfl ⟨_, rfl, f4_0, hBt4⟩
theorem c32 {r s : Rat} {t : Bool} {v0 v1 : Value} {w : World} (hr : Fs r) (hs : Fs s) (ht : decide (r = s) = t) (h0 : Is (frq r) v0 w) (h1 : Is (frq s) v1 w) : Calls Tryz.prog 32 #[v0, v1] w (Ret (.val (.bool t)) w) := by
 obtain ⟨ya0, yp0, yl0, yd0, ye0, yq0, ym0, yr0, rfl, yg0, yk0⟩ := id h0
 replace yg0 : Is (num r.num) (.agg #[.bool ya0, .slice yp0 yl0 yd0]) w := yg0
 replace yk0 : Is (num ((r.den : Nat) : Int)) (.agg #[.bool ye0, .slice yq0 ym0 yr0]) w := yk0
 obtain ⟨ya1, yp1, yl1, yd1, ye1, yq1, ym1, yr1, rfl, yg1, yk1⟩ := id h1
 replace yg1 : Is (num s.num) (.agg #[.bool ya1, .slice yp1 yl1 yd1]) w := yg1
 replace yk1 : Is (num ((s.den : Nat) : Int)) (.agg #[.bool ye1, .slice yq1 ym1 yr1]) w := yk1
 have hB0 := Below.refl w.heap.size w
 have HR := Lib.hid hr
 have HS := Lib.hid hs
 have HT := Lib.hid ht
 clear hr hs ht
 go_enter Tryz.func32, Tryz.ntmps32
 go_upto_region 0 with fail
 refine rg (n := 9) (t16 := 48) w.heap.size [] [.any, .any, vF] [(0, 2), (1, 3), (2, 4)] [⟨26, some 0, 0, pt, 4, [.c #[.bool ya0, .slice yp0 yl0 yd0, .bool ye0, .slice yq0 ym0 yr0]], []⟩, ⟨26, some 1, 0, pt, 4, [.c #[.bool ya1, .slice yp1 yl1 yd1, .bool ye1, .slice yq1 ym1 yr1]], []⟩] ?ok1 ?st1 ?al1 ?pu1 ?en1
 case ok1 => exact BxOK.fresh rfl hB0.size
 case st1 =>
  intro zi zo ho hro a' u lc W hM
  match zi, ho, hro with
  | 0, _, hro => exact nr1 hro (by kernel_rfl)
  | 1, _, hro => exact nr1 hro (by kernel_rfl)
  | 2, ho, _ => cases ho; exact wn (kAssign rfl rfl)
  | zk + 3, ho, _ => simp at ho
 case al1 =>
  intro zk zb zi zo hk ha ho a' u lc W hM
  match zk, hk with
  | 0, hk => cases hk; cases ha; cases ho; exact ⟨rfl, rfl, rfl, rfl, kBox rfl (hM.ol 0)⟩
  | 1, hk => cases hk; cases ha; cases ho; exact ⟨rfl, rfl, rfl, rfl, kBox rfl (hM.ol 1)⟩
  | zk + 2, hk => simp at hk
 case pu1 =>
  intro zk zb zs zo hk hs ho a' u lc W zc hM hc hcs
  match zk, hk with
  | 0, hk => cases hk; simp at hs
  | 1, hk => cases hk; simp at hs
  | zk + 2, hk => simp at hk
 case en1 =>
  intro u1 lc1 W1 hK1 hB1 hO1 hV1 hX1 hA1
  obtain ⟨qr, ho, hl⟩ := hX1 0 _ rfl
  have e1_0 : u1 0 = .pointer (some ⟨lc1 0, 0, none⟩) := (hl 0 rfl).1
  have g1_0 := (hl 0 rfl).2
  have f1_0 := h0.kept hK1
  have q1_0 : W1.heap[(lc1 0)]? = some (.cells #[.bool ya0, .slice yp0 yl0 yd0, .bool ye0, .slice yq0 ym0 yr0] 26) := by
   exact qr
  obtain ⟨qr, ho, hl⟩ := hX1 1 _ rfl
  have e1_1 : u1 1 = .pointer (some ⟨lc1 1, 0, none⟩) := (hl 1 rfl).1
  have g1_1 := (hl 1 rfl).2
  have f1_3 := h1.kept hK1
  have q1_1 : W1.heap[(lc1 1)]? = some (.cells #[.bool ya1, .slice yp1 yl1 yd1, .bool ye1, .slice yq1 ym1 yr1] 26) := by
   exact qr
  simp only [putK, fC, fN, kZ, kS, vV, vA, sI, sZ, sS, e1_0, e1_1]
  have hBt1 := hB0.trans hB1
  clear hV1 hX1 hA1
  go_upto_region 1 with fail
  refine rg0 (n := 9) (t16 := 48) w.heap.size [.val (.agg #[.bool ya0, .slice yp0 yl0 yd0, .bool ye0, .slice yq0 ym0 yr0]), vT, vT, .val (.agg #[.bool ya1, .slice yp1 yl1 yd1, .bool ye1, .slice yq1 ym1 yr1]), vT, vT, vT, .val (.agg #[.bool ya0, .slice yp0 yl0 yd0, .bool ye0, .slice yq0 ym0 yr0]), .val (.agg #[.bool ya1, .slice yp1 yl1 yd1, .bool ye1, .slice yq1 ym1 yr1]), .val (.bool t), .val (.bool t), .val (.bool t)] [(0, 5), (1, 6), (2, 7), (3, 8), (4, 9), (5, 10), (6, 11), (7, 12), (8, 13), (9, 14), (10, 15), (11, 4)] hBt1.size ?st2 ?en2
  case st2 =>
   intro zi zo ho hro a' u lc W hM
   match zi, ho, hro with
   | 0, ho, _ => cases ho; exact wn (kL26 rfl (hM.ol 2) (hM.o0 q1_0))
   | 1, ho, _ => cases ho; exact wn (kCall1 rfl may44 (hM.d 0 5 rfl) (c44_ok HR.out (f1_0.kept hM.kept)))
   | 2, ho, _ => cases ho; exact wn (kMove rfl (hM.d 1 6 rfl))
   | 3, ho, _ => cases ho; exact hM.wg (hM.d 2 7 rfl) (kL26 rfl (hM.ol 3) (hM.o0 q1_1))
   | 4, ho, _ => cases ho; exact hM.wg (hM.d 2 7 rfl) (kCall1 rfl may44 (hM.d 3 8 rfl) (c44_ok HS.out (f1_3.kept hM.kept)))
   | 5, ho, _ => cases ho; exact wn (kPick rfl (hM.d 2 7 rfl) (hM.d 4 9 rfl))
   | 6, ho, _ => cases ho; exact wn (kMove rfl (hM.d 5 10 rfl))
   | 7, ho, _ => cases ho; exact hM.wg (hM.d 6 11 rfl) (kL26 rfl (hM.ol 2) (hM.o0 q1_0))
   | 8, ho, _ => cases ho; exact hM.wg (hM.d 6 11 rfl) (kL26 rfl (hM.ol 3) (hM.o0 q1_1))
   | 9, ho, _ => cases ho; exact hM.wg (hM.d 6 11 rfl) (kCall2 rfl may47 (hM.d 7 12 rfl) (hM.d 8 13 rfl) (c47q HT.out (f1_0.kept hM.kept) (f1_3.kept hM.kept)))
   | 10, ho, _ => cases ho; exact wn (kPick rfl (hM.d 6 11 rfl) (hM.d 9 14 rfl))
   | 11, ho, _ => cases ho; exact wn (kAssign rfl (hM.d 10 15 rfl))
   | zk + 12, ho, _ => simp at ho
  case en2 =>
   intro u2 lc2 W2 hK2 hB2 hO2 hV2 hX2 hA2
   simp only [putK, fC, fN, kZ, kS, vV, sI, sZ, sS]
   have hBt2 := hBt1.trans hB2
   clear hV2 hX2 hA2
   go_wp2
   exact bodyPost_ret (v := .bool t) (by simp [results, Tryz.results32, go_sem]) rfl ⟨_, rfl, rfl, hBt2⟩
end Go.Proofs.YtihdbjilolmfiaaGreatDoor
namespace Go.Proofs.YtihdbjilolmfiaaGreatDoor
open Go.RowKit Go.WM Go.WR
theorem Fz.fs {n : Nat} {q : Rat} (h : Fz n q) (hn : n ≤ 256) : Fs q := by
 have h1 := h.mono hn
 unfold Fs
 rw [CapF.eq]
 exact h1
theorem Fz.mul {a b : Nat} {r s : Rat} (hr : Fz a r) (hs : Fz b s) : Fz (a + b) (r * s) := by
 constructor
 · rw [mul_num']; exact mul_pw (ediv_abs hr.1) (ediv_abs hs.1)
 · rw [mul_den']; exact mul_pw (ediv_abs hr.2) (ediv_abs hs.2)
theorem Fz.inv {a : Nat} {r : Rat} (h : Fz a r) (hr : r ≠ 0) : Fz a r⁻¹ := by
 obtain ⟨e1, e2⟩ := inv_parts r hr
 have hp := rat_pos r
 have h1 := h.1
 have h2 := h.2
 constructor
 · rw [e1]; split <;> omega
 · rw [e2]; split <;> omega
def cmpQ (a b : Rat) : Int := cmpI (a.num * (b.den : Int)) (b.num * (a.den : Int))
theorem c35q {r s : Rat} {v0 v1 : Value} {w : World} (hr : Fs r) (hs : Fs s) (h0 : Is (frq r) v0 w) (h1 : Is (frq s) v1 w) : Calls Tryz.prog 35 #[v0, v1] w (Ret (.val (.int .i64 (cmpQ r s))) w) :=
 c35 hr hs rfl rfl (by have := mul_cap hr.1 hs.2; omega) (by have := mul_cap hs.1 hr.2; omega) h0 h1
theorem cmpQ_def (a b : Rat) : cmpQ a b = if a < b then -1 else if a = b then 0 else 1 := by
 unfold cmpQ cmpI
 have h1 := Rat.lt_iff a b
 have h2 := Rat.lt_iff b a
 by_cases h : a < b
 · rw [if_pos h]
   have := h1.1 h
   simp [this]
 · rw [if_neg h]
   by_cases he : a = b
   · subst he; simp
   · rw [if_neg he]
     have hb : b < a := by grind
     have := h2.1 hb
     grind
end Go.Proofs.YtihdbjilolmfiaaGreatDoor
namespace Go.Proofs.YtihdbjilolmfiaaGreatDoor
open Go.RowKit Go.WM Go.WR
attribute [local go_sem] Oper.semAt_some
theorem fz_int {M : Int} {n : Nat} (h : (M.natAbs : Int) < 65536 ^ n) (hn : 1 ≤ n) : Fz n (M : Rat) := by
 refine ⟨h, ?_⟩
 have := pow_le_pow' hn
 show (((1 : Nat) : Int).natAbs : Int) < 65536 ^ n
 have h1 : (65536 : Int) ^ 1 = 65536 := by decide
 omega
theorem m46 {M : Int} {v0 v1 : Value} {w : World} (hM : Fs (M : Rat)) (h0 : Is (num M) v0 w) (h1 : Is (num 1) v1 w) : Calls Tryz.prog 46 #[v0, v1] w (Ret (.k (tup2 (.k (fr (M : Rat).num (((M : Rat).den : Nat) : Int))) (.val (.int .i64 0)))) w) :=
 c46b (n := M) (d := 1) (g := 1) (N := M) (D := 1) (by decide) (by decide) (by simp) (by decide) (by decide) ⟨by omega, by omega, by omega⟩ ⟨by decide, by decide, by decide⟩ hM.true h0 h1
theorem fr_zero (W : World) : Is (fr 0 0) (.agg #[.bool false, .slice none 0 0, .bool false, .slice none 0 0]) W := ⟨_, _, _, _, _, _, _, _, rfl, num_zero W, num_zero W⟩
theorem num_short {z : Int} {b : Bool} {p : Option Addr} {l c m : Nat} {W : World} (h : Is (num z) (.agg #[.bool b, .slice p l c]) W) (hz : (z.natAbs : Int) < 65536 ^ m) : l ≤ m := by
 obtain ⟨sv, zs, e, hL, hR, _⟩ := h
 cases e
 rw [hL.cells.1]
 exact (hR.len_le_iff m).2 hz
theorem pw_cap {z : Int} {k : Nat} (h : (z.natAbs : Int) < 65536 ^ k) (hk : k ≤ 256) : (z.natAbs : Int) < Cap := by
 have h1 := pow_le_pow' hk
 have h2 := capF_lt
 rw [CapF.eq] at h2
 omega
theorem rat_ne {d : Int} (h : d ≠ 0) : (d : Rat) ≠ 0 := fun e => h (by have := congrArg Rat.num e; exact this)
theorem div_mul (n d : Int) : Rat.divInt n d = (n : Rat) * (d : Rat)⁻¹ := by rw [Rat.divInt_eq_div, Rat.div_def]
theorem fz_div {n d : Int} {k : Nat} (hn : (n.natAbs : Int) < 65536 ^ k) (hd : (d.natAbs : Int) < 65536 ^ k) (h0 : d ≠ 0) : Fz (k + k) (Rat.divInt n d) := by
 have hk : 1 ≤ k := by
  rcases Nat.eq_zero_or_pos k with e | e
  · subst e; simp at hd; omega
  · exact e
 rw [div_mul]
 exact (fz_int hn hk).mul ((fz_int hd hk).inv (rat_ne h0))
theorem div_both (n d : Int) {f : Int} (hf : f ≠ 0) : Rat.divInt n d = Rat.divInt (n * f) (d * f) := (Rat.divInt_mul_right hf).symm
theorem div_cross {n d : Int} (hd : d ≠ 0) : (Rat.divInt n d).num * d = n * (((Rat.divInt n d).den : Nat) : Int) := by
 have h : Rat.divInt n d = Rat.divInt (Rat.divInt n d).num (((Rat.divInt n d).den : Nat) : Int) := (Rat.num_divInt_den _).symm
 have hp := rat_pos (Rat.divInt n d)
 exact ((Rat.divInt_eq_divInt_iff hd (by omega)).1 h).symm
theorem c45q {p q : Rat} {t : Bool} {v0 v1 : Value} {w : World} (ht : decide (p = q) = t) (h0 : Is (fr p.num ((p.den : Nat) : Int)) v0 w) (h1 : Is (fr q.num ((q.den : Nat) : Int)) v1 w) : Calls Tryz.prog 45 #[v0, v1] w (Ret (.val (.bool t)) w) := by
 by_cases e : p.num = q.num
 · refine c45a (decide_eq_true e) ?_ h0 h1
   rw [← ht]
   exact decide_eq_decide.2 ⟨fun h2 => rat_ext' e h2, fun h => by rw [h]⟩
 · have hf : t = false := by rw [← ht]; exact decide_eq_false (fun h => e (by rw [h]))
   subst hf
   exact c45b (decide_eq_false e) h0 h1
theorem cmp_same (a b : Rat) : (decide (cmpQ a b = 0) != decide (a = b)) = false := by
 have : cmpQ a b = 0 ↔ a = b := by rw [cmpQ_def]; by_cases h : a < b <;> by_cases h2 : a = b <;> simp [h, h2] <;> grind
 have e : decide (cmpQ a b = 0) = decide (a = b) := decide_eq_decide.2 this
 rw [e]; simp
theorem c46q {n d : Int} {v0 v1 : Value} {w : World} (hd0 : d ≠ 0) (hs : Fs (Rat.divInt n d)) (h0 : Is (num n) v0 w) (h1 : Is (num d) v1 w) : Calls Tryz.prog 46 #[v0, v1] w (Ret (.k (tup2 (.k (fr (Rat.divInt n d).num (((Rat.divInt n d).den : Nat) : Int))) (.val (.int .i64 0)))) w) := by
 obtain ⟨g, hg⟩ : ∃ g : Int, ((Int.gcd n d : Nat) : Int) = g := ⟨_, rfl⟩
 have hgp : 0 < g := by rw [← hg]; exact_mod_cast Int.gcd_pos_of_ne_zero_right n hd0
 obtain ⟨N, hN⟩ : g ∣ n := by rw [← hg]; exact gcd_l _ _
 obtain ⟨D, hD⟩ : g ∣ d := by rw [← hg]; exact gcd_r _ _
 have hN' : N * g = n := by rw [hN, Int.mul_comm]
 have hD' : D * g = d := by rw [hD, Int.mul_comm]
 by_cases hd : d < 0
 · have hDn : D < 0 := Int.lt_of_not_ge (fun h3 => by have := Int.mul_nonneg h3 (Int.le_of_lt hgp); omega)
   obtain ⟨e1, e2⟩ := divInt_exact (n := n) (d := d) (N := -N) (D := -D) (g := -g) hd0 (by omega) (by rw [← hN']; grind) (by rw [← hD']; grind) (by omega)
   have hs' := hs.true
   rw [← e1, ← e2] at hs' ⊢
   exact c46a (n := n) (d := d) (g := g) (N := -N) (D := -D) hd0 hd hg (by omega) (by omega) (floor_mul (by rw [← hN']; grind)) (floor_mul (by rw [← hD']; grind)) hs' h0 h1
 · have hDp : 0 < D := Int.lt_of_not_ge (fun h3 => by have := Int.mul_nonpos_of_nonpos_of_nonneg h3 (Int.le_of_lt hgp); omega)
   obtain ⟨e1, e2⟩ := divInt_exact (n := n) (d := d) (N := N) (D := D) (g := g) hd0 (by omega) hN' hD' hDp
   have hs' := hs.true
   rw [← e1, ← e2] at hs' ⊢
   exact c46b (n := n) (d := d) (g := g) (N := N) (D := D) hd0 hd hg (by omega) (by omega) (floor_mul hN') (floor_mul hD') hs' h0 h1
theorem c46z {n : Int} {v0 v1 : Value} {w : World} (h0 : Is (num n) v0 w) (h1 : Is (num 0) v1 w) : Calls Tryz.prog 46 #[v0, v1] w (Ret (PBad 20) w) := by
 obtain ⟨ya0, yp0, yl0, yd0, rfl⟩ := h0.form
 obtain ⟨ya1, yp1, yl1, yd1, rfl⟩ := h1.form
 have hz : decide (((yl1 : Nat) : Int) = 0) = true := decide_eq_true (by have := (num_len (W := w) h1).2 rfl; omega)
 have HZ := Lib.hid hz
 clear hz
 have hB0 := Below.refl w.heap.size w
 go_enter Tryz.func46, Tryz.ntmps46
 go_upto_region 0 with fail
 refine rg (n := 9) (t16 := 48) w.heap.size [] [.any, .any, .any, vZ] [(0, 2), (1, 3), (2, 4), (3, 5)] [⟨24, some 0, 0, pt, 2, [.c #[.bool ya0, .slice yp0 yl0 yd0]], []⟩, ⟨24, some 1, 0, pt, 2, [.c #[.bool ya1, .slice yp1 yl1 yd1]], []⟩, ⟨26, some 2, 0, pt, 4, [.c #[.bool false, .slice none 0 0, .bool false, .slice none 0 0]], []⟩] ?ok1 ?st1 ?al1 ?pu1 ?en1
 case ok1 => exact BxOK.fresh rfl hB0.size
 case st1 =>
  intro zi zo ho hro a' u lc W hM
  match zi, ho, hro with
  | 0, _, hro => exact nr1 hro (by kernel_rfl)
  | 1, _, hro => exact nr1 hro (by kernel_rfl)
  | 2, _, hro => exact nr1 hro (by kernel_rfl)
  | 3, ho, _ => cases ho; exact wn (kAssign rfl rfl)
  | zk + 4, ho, _ => simp at ho
 case al1 =>
  intro zk zb zi zo hk ha ho a' u lc W hM
  match zk, hk with
  | 0, hk => cases hk; cases ha; cases ho; exact ⟨rfl, rfl, rfl, rfl, kBox rfl (hM.ol 0)⟩
  | 1, hk => cases hk; cases ha; cases ho; exact ⟨rfl, rfl, rfl, rfl, kBox rfl (hM.ol 1)⟩
  | 2, hk => cases hk; cases ha; cases ho; exact ⟨rfl, rfl, rfl, rfl, kAlloc26 rfl⟩
  | zk + 3, hk => simp at hk
 case pu1 =>
  intro zk zb zs zo hk hs ho a' u lc W zc hM hc hcs
  match zk, hk with
  | 0, hk => cases hk; simp at hs
  | 1, hk => cases hk; simp at hs
  | 2, hk => cases hk; simp at hs
  | zk + 3, hk => simp at hk
 case en1 =>
  intro u1 lc1 W1 hK1 hB1 hO1 hV1 hX1 hA1
  obtain ⟨qr, ho, hl⟩ := hX1 0 _ rfl
  have e1_0 : u1 0 = .pointer (some ⟨lc1 0, 0, none⟩) := (hl 0 rfl).1
  have g1_0 := (hl 0 rfl).2
  have f1_0 := h0.kept hK1
  have q1_0 : W1.heap[(lc1 0)]? = some (.cells #[.bool ya0, .slice yp0 yl0 yd0] 24) := by
   exact qr
  obtain ⟨qr, ho, hl⟩ := hX1 1 _ rfl
  have e1_1 : u1 1 = .pointer (some ⟨lc1 1, 0, none⟩) := (hl 1 rfl).1
  have g1_1 := (hl 1 rfl).2
  have f1_1 := h1.kept hK1
  have q1_1 : W1.heap[(lc1 1)]? = some (.cells #[.bool ya1, .slice yp1 yl1 yd1] 24) := by
   exact qr
  obtain ⟨qr, ho, hl⟩ := hX1 2 _ rfl
  have e1_2 : u1 2 = .pointer (some ⟨lc1 2, 0, none⟩) := (hl 2 rfl).1
  have g1_2 := (hl 2 rfl).2
  have q1_2 : W1.heap[(lc1 2)]? = some (.cells #[.bool false, .slice none 0 0, .bool false, .slice none 0 0] 26) := by
   exact qr
  have ne1_0_2 := hA1 0 2 _ _ rfl rfl (by decide)
  have ne1_1_2 := hA1 1 2 _ _ rfl rfl (by decide)
  simp only [putK, fC, fN, kZ, kS, vV, vA, sI, sZ, sS, e1_0, e1_1, e1_2]
  have hBt1 := hB0.trans hB1
  clear hV1 hX1 hA1
  go_upto_region 1 with fail
  refine rg0 (n := 9) (t16 := 48) w.heap.size [.val (.agg #[.bool ya0, .slice yp0 yl0 yd0]), vT, vF, vF, .val (.agg #[.bool ya1, .slice yp1 yl1 yd1]), vT, vF, vF, vF] [(0, 8), (1, 9), (2, 10), (3, 11), (4, 12), (5, 13), (6, 14), (7, 15), (8, 7)] hBt1.size ?st2 ?en2
  case st2 =>
   intro zi zo ho hro a' u lc W hM
   match zi, ho, hro with
   | 0, ho, _ => cases ho; exact wn (kL24 rfl (hM.ol 2) (hM.o0 q1_0) rfl)
   | 1, ho, _ => cases ho; exact wn (kCall1 rfl may43 (hM.d 0 8 rfl) (c43n (f1_0.kept hM.kept)))
   | 2, ho, _ => cases ho; exact wn (kNot rfl (hM.d 1 9 rfl) rfl)
   | 3, ho, _ => cases ho; exact wn (kMove rfl (hM.d 2 10 rfl))
   | 4, ho, _ => cases ho; exact hM.wg (hM.d 3 11 rfl) (kL24 rfl (hM.ol 3) (hM.o0 q1_1) rfl)
   | 5, ho, _ => cases ho; exact hM.wg (hM.d 3 11 rfl) (kCall1 rfl may43 (hM.d 4 12 rfl) (c43n (f1_1.kept hM.kept)))
   | 6, ho, _ => cases ho; exact hM.wg (hM.d 3 11 rfl) (kNot rfl (hM.d 5 13 rfl) rfl)
   | 7, ho, _ => cases ho; exact wn (kPick rfl (hM.d 3 11 rfl) (hM.d 6 14 rfl))
   | 8, ho, _ => cases ho; exact wn (kAssign rfl (hM.d 7 15 rfl))
   | zk + 9, ho, _ => simp at ho
  case en2 =>
   intro u2 lc2 W2 hK2 hB2 hO2 hV2 hX2 hA2
   have q2_1_1 := oth0 hO2 q1_1
   have q2_1_2 := oth0 hO2 q1_2
   simp only [putK, fC, fN, kZ, kS, vV, sI, sZ, sS]
   have hBt2 := hBt1.trans hB2
   clear hV2 hX2 hA2
   go_upto_region 3 with fail
   refine rg0 (n := 9) (t16 := 48) w.heap.size [.val (.pointer (some ⟨(lc1 1), 1, none⟩)), .val (.slice yp1 yl1 yd1), .val (.int .i64 ((yl1 : Nat) : Int)), vT, vT] [(0, 18), (1, 19), (2, 20), (3, 21), (4, 17)] hBt2.size ?st3 ?en3
   case st3 =>
    intro zi zo ho hro a' u lc W hM
    match zi, ho, hro with
    | 0, ho, _ => cases ho; exact wn (kField24_1 rfl (hM.ol 3))
    | 1, ho, _ => cases ho; exact wn (kLoad1 Tryz.underlying22 rfl rfl (hM.d 0 18 rfl) (hM.o0 q2_1_1) rfl rfl)
    | 2, ho, _ => cases ho; exact wn (kLen rfl (hM.d 1 19 rfl))
    | 3, ho, _ => cases ho; exact wn (kEql3 rfl (hM.d 2 20 rfl) rfl HZ.out)
    | 4, ho, _ => cases ho; exact wn (kAssign rfl (hM.d 3 21 rfl))
    | zk + 5, ho, _ => simp at ho
   case en3 =>
    intro u3 lc3 W3 hK3 hB3 hO3 hV3 hX3 hA3
    have q3_1_2 := oth0 hO3 q2_1_2
    simp only [putK, fC, fN, kZ, kS, vV, sI, sZ, sS]
    have hBt3 := hBt2.trans hB3
    clear hV3 hX3 hA3
    go_upto_region 4 with fail
    refine rg (n := 9) (t16 := 48) w.heap.size [(lc1 2)] [.val (.agg #[.bool false, .slice none 0 0, .bool false, .slice none 0 0]), .any, .val (.int .i64 20)] [(0, 22), (2, 5)] [⟨26, none, (lc1 2), pt, 4, [.c #[.bool false, .slice none 0 0, .bool false, .slice none 0 0]], [(1, 0, 0)]⟩] ?ok4 ?st4 ?al4 ?pu4 ?en4
    case ok4 => exact BxOK.one ⟨(Nat.le_trans hB0.size g1_2), ⟨_, q3_1_2, rfl, rfl, rfl⟩, by simp, (by decide : (26 : Nat) ≠ 48)⟩ rfl hBt3.size
    case st4 =>
     intro zi zo ho hro a' u lc W hM
     match zi, ho, hro with
     | 0, ho, _ => cases ho; exact wn (kBuild260 rfl rfl)
     | 1, _, hro => exact nr1 hro (by kernel_rfl)
     | 2, ho, _ => cases ho; exact wn (kAssign rfl rfl)
     | zk + 3, ho, _ => simp at ho
    case al4 =>
     intro zk zb zi zo hk ha ho a' u lc W hM
     match zk, hk with
     | 0, hk => cases hk; cases ha
     | zk + 1, hk => simp at hk
    case pu4 =>
     intro zk zb zs zo hk hs ho a' u lc W zc hM hc hcs
     match zk, hk with
     | 0, hk =>
      cases hk
      simp only [List.mem_cons, List.not_mem_nil, or_false] at hs
      rcases hs with rfl
      · cases ho
        have e : u 0 = .agg #[.bool false, .slice none 0 0, .bool false, .slice none 0 0] := hM.kd 0
        exact kPut rfl e ((hM.ol 4).trans (show _ = Value.pointer (some ⟨lc 0, 0, none⟩) from by rw [show lc 0 = (lc1 2) from hM.locO 0 _ rfl rfl] <;> rfl)) (hM.v 0 22 rfl) hc hcs sz26
     | zk + 1, hk => simp at hk
    case en4 =>
     intro u4 lc4 W4 hK4 hB4 hO4 hV4 hX4 hA4
     have e4_0 := kv (hV4 0 22 rfl) rfl
     obtain ⟨qr, ho, hl⟩ := hX4 0 _ rfl
     have elc : lc4 0 = (lc1 2) := ho rfl
     rw [elc] at qr
     have q4_0 : W4.heap[(lc1 2)]? = some (.cells #[.bool false, .slice none 0 0, .bool false, .slice none 0 0] 26) := by
      rw [contAll_one rfl (cs := #[.bool false, .slice none 0 0, .bool false, .slice none 0 0]) (by rw [e4_0]; rfl) rfl] at qr; exact qr
     simp only [putK, fC, fN, kZ, kS, vV, sI, sZ, sS]
     have hBt4 := hBt3.trans hB4
     clear hV4 hX4 hA4
     unfold PBad
     have cr0 := cell_of q4_0 0 rfl
     have cr1 := cell_of q4_0 1 rfl
     have cr2 := cell_of q4_0 2 rfl
     have cr3 := cell_of q4_0 3 rfl
     go_wp2
     exact bodyPost_ret (v := .tuple #[.agg #[.bool false, .slice none 0 0, .bool false, .slice none 0 0], .int .i64 20]) (by simp [results, Tryz.results46, go_sem, cr0, cr1, cr2, cr3]) rfl ⟨_, rfl, ⟨_, _, rfl, rfl, rfl⟩, hBt4⟩
theorem lowest_yes {a b : Rat} {n d f : Int} {na0 nb0 na1 nb1 : Bool} {Za0 Zb0 Za1 Zb1 : List Int} {v0 v1 v2 v3 v4 : Value} {w : World} (us : true = true ↔ Us na0 Za0 nb0 Zb0 ∧ Us na1 Za1 nb1 Zb1) (rl0 : RawL Za0 Zb0) (k0 : Is (frw na0 Za0 nb0 Zb0) v0 w) (rl1 : RawL Za1 Zb1) (k1 : Is (frw na1 Za1 nb1 Zb1) v1 w) (ha : Fz 40 a) (hb : Fz 40 b) (h0 : Is (frq a) v0 w) (h1 : Is (frq b) v1 w) (bn : (n.natAbs : Int) < 65536 ^ 40) (bd : (d.natAbs : Int) < 65536 ^ 40) (bf : (f.natAbs : Int) < 65536 ^ 40) (h2 : Is (num n) v2 w) (h3 : Is (num d) v3 w) (h4 : Is (num f) v4 w) : Calls Tryz.prog 10 #[v0, v1, v2, v3, v4] w (Ret (.val (.bool true)) w) := by
 obtain ⟨ya0, yp0, yl0, yd0, ye0, yq0, ym0, yr0, rfl, yg0, yk0⟩ := id h0
 replace yg0 : Is (num a.num) (.agg #[.bool ya0, .slice yp0 yl0 yd0]) w := yg0
 replace yk0 : Is (num ((a.den : Nat) : Int)) (.agg #[.bool ye0, .slice yq0 ym0 yr0]) w := yk0
 obtain ⟨ya1, yp1, yl1, yd1, ye1, yq1, ym1, yr1, rfl, yg1, yk1⟩ := id h1
 replace yg1 : Is (num b.num) (.agg #[.bool ya1, .slice yp1 yl1 yd1]) w := yg1
 replace yk1 : Is (num ((b.den : Nat) : Int)) (.agg #[.bool ye1, .slice yq1 ym1 yr1]) w := yk1
 obtain ⟨yw2, yx2, yy2, yz2, rfl⟩ := h2.form
 have hs2 := num_short h2 bn
 have HS2 := Lib.hid hs2
 clear hs2
 obtain ⟨yw3, yx3, yy3, yz3, rfl⟩ := h3.form
 have hs3 := num_short h3 bd
 have HS3 := Lib.hid hs3
 clear hs3
 obtain ⟨yw4, yx4, yy4, yz4, rfl⟩ := h4.form
 have hs4 := num_short h4 bf
 have HS4 := Lib.hid hs4
 clear hs4
 have HUS := Lib.hid us
 have HRL0 := Lib.hid rl0
 have HRL1 := Lib.hid rl1
 have HA := Lib.hid ha
 have HB := Lib.hid hb
 have BN := Lib.hid bn
 have BD := Lib.hid bd
 have BF := Lib.hid bf
 clear us rl0 rl1 ha hb bn bd bf
 have hB0 := Below.refl w.heap.size w
 go_enter Tryz.func10, Tryz.ntmps10
 go_upto_region 0 with fail
 refine rg (n := 9) (t16 := 48) w.heap.size [] [.any, .any, .any, .any, .any, vF] [(0, 5), (1, 6), (2, 7), (3, 8), (4, 9), (5, 10)] [⟨26, some 0, 0, pt, 4, [.c #[.bool ya0, .slice yp0 yl0 yd0, .bool ye0, .slice yq0 ym0 yr0]], []⟩, ⟨26, some 1, 0, pt, 4, [.c #[.bool ya1, .slice yp1 yl1 yd1, .bool ye1, .slice yq1 ym1 yr1]], []⟩, ⟨24, some 2, 0, pt, 2, [.c #[.bool yw2, .slice yx2 yy2 yz2]], []⟩, ⟨24, some 3, 0, pt, 2, [.c #[.bool yw3, .slice yx3 yy3 yz3]], []⟩, ⟨24, some 4, 0, pt, 2, [.c #[.bool yw4, .slice yx4 yy4 yz4]], []⟩] ?ok1 ?st1 ?al1 ?pu1 ?en1
 case ok1 => exact BxOK.fresh rfl hB0.size
 case st1 =>
  intro zi zo ho hro a' u lc W hM
  match zi, ho, hro with
  | 0, _, hro => exact nr1 hro (by kernel_rfl)
  | 1, _, hro => exact nr1 hro (by kernel_rfl)
  | 2, _, hro => exact nr1 hro (by kernel_rfl)
  | 3, _, hro => exact nr1 hro (by kernel_rfl)
  | 4, _, hro => exact nr1 hro (by kernel_rfl)
  | 5, ho, _ => cases ho; exact wn (kAssign rfl rfl)
  | zk + 6, ho, _ => simp at ho
 case al1 =>
  intro zk zb zi zo hk ha ho a' u lc W hM
  match zk, hk with
  | 0, hk => cases hk; cases ha; cases ho; exact ⟨rfl, rfl, rfl, rfl, kBox rfl (hM.ol 0)⟩
  | 1, hk => cases hk; cases ha; cases ho; exact ⟨rfl, rfl, rfl, rfl, kBox rfl (hM.ol 1)⟩
  | 2, hk => cases hk; cases ha; cases ho; exact ⟨rfl, rfl, rfl, rfl, kBox rfl (hM.ol 2)⟩
  | 3, hk => cases hk; cases ha; cases ho; exact ⟨rfl, rfl, rfl, rfl, kBox rfl (hM.ol 3)⟩
  | 4, hk => cases hk; cases ha; cases ho; exact ⟨rfl, rfl, rfl, rfl, kBox rfl (hM.ol 4)⟩
  | zk + 5, hk => simp at hk
 case pu1 =>
  intro zk zb zs zo hk hs ho a' u lc W zc hM hc hcs
  match zk, hk with
  | 0, hk => cases hk; simp at hs
  | 1, hk => cases hk; simp at hs
  | 2, hk => cases hk; simp at hs
  | 3, hk => cases hk; simp at hs
  | 4, hk => cases hk; simp at hs
  | zk + 5, hk => simp at hk
 case en1 =>
  intro u1 lc1 W1 hK1 hB1 hO1 hV1 hX1 hA1
  obtain ⟨qr, ho, hl⟩ := hX1 0 _ rfl
  have e1_0 : u1 0 = .pointer (some ⟨lc1 0, 0, none⟩) := (hl 0 rfl).1
  have g1_0 := (hl 0 rfl).2
  have f1_0 := h0.kept hK1
  have f1_3 := k0.kept hK1
  have q1_0 : W1.heap[(lc1 0)]? = some (.cells #[.bool ya0, .slice yp0 yl0 yd0, .bool ye0, .slice yq0 ym0 yr0] 26) := by
   exact qr
  obtain ⟨qr, ho, hl⟩ := hX1 1 _ rfl
  have e1_1 : u1 1 = .pointer (some ⟨lc1 1, 0, none⟩) := (hl 1 rfl).1
  have g1_1 := (hl 1 rfl).2
  have f1_4 := h1.kept hK1
  have f1_7 := k1.kept hK1
  have q1_1 : W1.heap[(lc1 1)]? = some (.cells #[.bool ya1, .slice yp1 yl1 yd1, .bool ye1, .slice yq1 ym1 yr1] 26) := by
   exact qr
  obtain ⟨qr, ho, hl⟩ := hX1 2 _ rfl
  have e1_2 : u1 2 = .pointer (some ⟨lc1 2, 0, none⟩) := (hl 2 rfl).1
  have g1_2 := (hl 2 rfl).2
  have f1_8 := h2.kept hK1
  have q1_2 : W1.heap[(lc1 2)]? = some (.cells #[.bool yw2, .slice yx2 yy2 yz2] 24) := by
   exact qr
  obtain ⟨qr, ho, hl⟩ := hX1 3 _ rfl
  have e1_3 : u1 3 = .pointer (some ⟨lc1 3, 0, none⟩) := (hl 3 rfl).1
  have g1_3 := (hl 3 rfl).2
  have f1_9 := h3.kept hK1
  have q1_3 : W1.heap[(lc1 3)]? = some (.cells #[.bool yw3, .slice yx3 yy3 yz3] 24) := by
   exact qr
  obtain ⟨qr, ho, hl⟩ := hX1 4 _ rfl
  have e1_4 : u1 4 = .pointer (some ⟨lc1 4, 0, none⟩) := (hl 4 rfl).1
  have g1_4 := (hl 4 rfl).2
  have f1_10 := h4.kept hK1
  have q1_4 : W1.heap[(lc1 4)]? = some (.cells #[.bool yw4, .slice yx4 yy4 yz4] 24) := by
   exact qr
  simp only [putK, fC, fN, kZ, kS, vV, vA, sI, sZ, sS, e1_0, e1_1, e1_2, e1_3, e1_4]
  have hBt1 := hB0.trans hB1
  clear hV1 hX1 hA1
  go_upto_region 1 with fail
  refine rg0 (n := 9) (t16 := 48) w.heap.size [vT, vF] [(0, 27), (1, 28)] hBt1.size ?st2 ?en2
  case st2 =>
   intro zi zo ho hro a' u lc W hM
   match zi, ho, hro with
   | 0, ho, _ => cases ho; exact wn (kCall0 rfl may16 (c16))
   | 1, ho, _ => cases ho; exact wn (kNot rfl (hM.d 0 27 rfl) rfl)
   | zk + 2, ho, _ => simp at ho
  case en2 =>
   intro u2 lc2 W2 hK2 hB2 hO2 hV2 hX2 hA2
   have q2_1_0 := oth0 hO2 q1_0
   have f2_0 := f1_0.kept hK2
   have f2_3 := f1_3.kept hK2
   have q2_1_1 := oth0 hO2 q1_1
   have f2_4 := f1_4.kept hK2
   have f2_7 := f1_7.kept hK2
   have q2_1_2 := oth0 hO2 q1_2
   have f2_8 := f1_8.kept hK2
   have q2_1_3 := oth0 hO2 q1_3
   have f2_9 := f1_9.kept hK2
   have q2_1_4 := oth0 hO2 q1_4
   have f2_10 := f1_10.kept hK2
   simp only [putK, fC, fN, kZ, kS, vV, sI, sZ, sS]
   have hBt2 := hBt1.trans hB2
   clear hV2 hX2 hA2
   go_upto_region 3 with fail
   refine rg (n := 9) (t16 := 48) w.heap.size [] [.val (.agg #[.bool ya0, .slice yp0 yl0 yd0, .bool ye0, .slice yq0 ym0 yr0]), .val (.agg #[.bool ya1, .slice yp1 yl1 yd1, .bool ye1, .slice yq1 ym1 yr1]), .any, vT, vF, vF, .val (.pointer (some ⟨(lc1 2), 1, none⟩)), .val (.slice yx2 yy2 yz2), .val (.int .i64 ((yy2 : Nat) : Int)), vF, vF, vF, .val (.pointer (some ⟨(lc1 3), 1, none⟩)), .val (.slice yx3 yy3 yz3), .val (.int .i64 ((yy3 : Nat) : Int)), vF, vF, vF, .val (.pointer (some ⟨(lc1 4), 1, none⟩)), .val (.slice yx4 yy4 yz4), .val (.int .i64 ((yy4 : Nat) : Int)), vF, vF, vF, .val (.agg #[.bool yw2, .slice yx2 yy2 yz2]), vT, vF, vF, vF, .val (.agg #[.bool yw3, .slice yx3 yy3 yz3]), vT, vF, vF, vF, .val (.agg #[.bool yw4, .slice yx4 yy4 yz4]), vT, vF, vF] [(0, 29), (1, 30), (2, 31), (3, 32), (4, 33), (5, 34), (6, 35), (7, 36), (8, 37), (9, 38), (10, 39), (11, 40), (12, 41), (13, 42), (14, 43), (15, 44), (16, 45), (17, 46), (18, 47), (19, 48), (20, 49), (21, 50), (22, 51), (23, 52), (24, 53), (25, 54), (26, 55), (27, 56), (28, 57), (29, 58), (30, 59), (31, 60), (32, 61), (33, 62), (34, 63), (35, 64), (36, 65), (37, 66)] [⟨26, some 2, 0, fun B => .slice (some ⟨B, 0, none⟩) 2 2, 8, [.c #[.bool ya0, .slice yp0 yl0 yd0, .bool ye0, .slice yq0 ym0 yr0, .bool ya1, .slice yp1 yl1 yd1, .bool ye1, .slice yq1 ym1 yr1]], []⟩] ?ok3 ?st3 ?al3 ?pu3 ?en3
   case ok3 => exact BxOK.fresh rfl hBt2.size
   case st3 =>
    intro zi zo ho hro a' u lc W hM
    match zi, ho, hro with
    | 0, ho, _ => cases ho; exact wn (kL26 rfl (hM.ol 5) (hM.o0 q2_1_0))
    | 1, ho, _ => cases ho; exact wn (kL26 rfl (hM.ol 6) (hM.o0 q2_1_1))
    | 2, _, hro => exact nr1 hro (by kernel_rfl)
    | 3, ho, _ => cases ho; exact wn (kCall1 rfl may31 ((hM.v 2 31 rfl).trans (hM.loc 0 _ 2 rfl rfl (by kernel_rfl))) (usable2 (hM.full 0 _ rfl (by kernel_rfl) rfl) (f2_3.kept hM.kept) (f2_7.kept hM.kept) HRL0.out HRL1.out HUS.out))
    | 4, ho, _ => cases ho; exact wn (kNot rfl (hM.d 3 32 rfl) rfl)
    | 5, ho, _ => cases ho; exact wn (kMove rfl (hM.d 4 33 rfl))
    | 6, ho, _ => cases ho; exact hM.wg (hM.d 5 34 rfl) (kField24_1 rfl (hM.ol 7))
    | 7, ho, _ => cases ho; exact hM.wg (hM.d 5 34 rfl) (kLoad1 Tryz.underlying22 rfl rfl (hM.d 6 35 rfl) (hM.o0 q2_1_2) rfl rfl)
    | 8, ho, _ => cases ho; exact hM.wg (hM.d 5 34 rfl) (kLen rfl (hM.d 7 36 rfl))
    | 9, ho, _ => cases ho; exact hM.wg (hM.d 5 34 rfl) (kGtr3 rfl (hM.d 8 37 rfl) rfl (decide_eq_false (by have := HS2.out; omega)))
    | 10, ho, _ => cases ho; exact wn (kPick rfl (hM.d 5 34 rfl) (hM.d 9 38 rfl))
    | 11, ho, _ => cases ho; exact wn (kMove rfl (hM.d 10 39 rfl))
    | 12, ho, _ => cases ho; exact hM.wg (hM.d 11 40 rfl) (kField24_1 rfl (hM.ol 8))
    | 13, ho, _ => cases ho; exact hM.wg (hM.d 11 40 rfl) (kLoad1 Tryz.underlying22 rfl rfl (hM.d 12 41 rfl) (hM.o0 q2_1_3) rfl rfl)
    | 14, ho, _ => cases ho; exact hM.wg (hM.d 11 40 rfl) (kLen rfl (hM.d 13 42 rfl))
    | 15, ho, _ => cases ho; exact hM.wg (hM.d 11 40 rfl) (kGtr3 rfl (hM.d 14 43 rfl) rfl (decide_eq_false (by have := HS3.out; omega)))
    | 16, ho, _ => cases ho; exact wn (kPick rfl (hM.d 11 40 rfl) (hM.d 15 44 rfl))
    | 17, ho, _ => cases ho; exact wn (kMove rfl (hM.d 16 45 rfl))
    | 18, ho, _ => cases ho; exact hM.wg (hM.d 17 46 rfl) (kField24_1 rfl (hM.ol 9))
    | 19, ho, _ => cases ho; exact hM.wg (hM.d 17 46 rfl) (kLoad1 Tryz.underlying22 rfl rfl (hM.d 18 47 rfl) (hM.o0 q2_1_4) rfl rfl)
    | 20, ho, _ => cases ho; exact hM.wg (hM.d 17 46 rfl) (kLen rfl (hM.d 19 48 rfl))
    | 21, ho, _ => cases ho; exact hM.wg (hM.d 17 46 rfl) (kGtr3 rfl (hM.d 20 49 rfl) rfl (decide_eq_false (by have := HS4.out; omega)))
    | 22, ho, _ => cases ho; exact wn (kPick rfl (hM.d 17 46 rfl) (hM.d 21 50 rfl))
    | 23, ho, _ => cases ho; exact wn (kMove rfl (hM.d 22 51 rfl))
    | 24, ho, _ => cases ho; exact hM.wg (hM.d 23 52 rfl) (kL24 rfl (hM.ol 7) (hM.o0 q2_1_2) rfl)
    | 25, ho, _ => cases ho; exact hM.wg (hM.d 23 52 rfl) (kCall1 rfl may43 (hM.d 24 53 rfl) (c43n (f2_8.kept hM.kept)))
    | 26, ho, _ => cases ho; exact hM.wg (hM.d 23 52 rfl) (kNot rfl (hM.d 25 54 rfl) rfl)
    | 27, ho, _ => cases ho; exact wn (kPick rfl (hM.d 23 52 rfl) (hM.d 26 55 rfl))
    | 28, ho, _ => cases ho; exact wn (kMove rfl (hM.d 27 56 rfl))
    | 29, ho, _ => cases ho; exact hM.wg (hM.d 28 57 rfl) (kL24 rfl (hM.ol 8) (hM.o0 q2_1_3) rfl)
    | 30, ho, _ => cases ho; exact hM.wg (hM.d 28 57 rfl) (kCall1 rfl may43 (hM.d 29 58 rfl) (c43n (f2_9.kept hM.kept)))
    | 31, ho, _ => cases ho; exact hM.wg (hM.d 28 57 rfl) (kNot rfl (hM.d 30 59 rfl) rfl)
    | 32, ho, _ => cases ho; exact wn (kPick rfl (hM.d 28 57 rfl) (hM.d 31 60 rfl))
    | 33, ho, _ => cases ho; exact wn (kMove rfl (hM.d 32 61 rfl))
    | 34, ho, _ => cases ho; exact hM.wg (hM.d 33 62 rfl) (kL24 rfl (hM.ol 9) (hM.o0 q2_1_4) rfl)
    | 35, ho, _ => cases ho; exact hM.wg (hM.d 33 62 rfl) (kCall1 rfl may43 (hM.d 34 63 rfl) (c43n (f2_10.kept hM.kept)))
    | 36, ho, _ => cases ho; exact hM.wg (hM.d 33 62 rfl) (kNot rfl (hM.d 35 64 rfl) rfl)
    | 37, ho, _ => cases ho; exact wn (kPick rfl (hM.d 33 62 rfl) (hM.d 36 65 rfl))
    | zk + 38, ho, _ => simp at ho
   case al3 =>
    intro zk zb zi zo hk ha ho a' u lc W hM
    match zk, hk with
    | 0, hk => cases hk; cases ha; cases ho; exact ⟨rfl, rfl, rfl, rfl, kSlice2 rfl (hM.d 0 29 rfl) (hM.d 1 30 rfl)⟩
    | zk + 1, hk => simp at hk
   case pu3 =>
    intro zk zb zs zo hk hs ho a' u lc W zc hM hc hcs
    match zk, hk with
    | 0, hk => cases hk; simp at hs
    | zk + 1, hk => simp at hk
   case en3 =>
    intro u3 lc3 W3 hK3 hB3 hO3 hV3 hX3 hA3
    obtain ⟨qr, ho, hl⟩ := hX3 0 _ rfl
    have e3_2 : u3 2 = .slice (some ⟨lc3 0, 0, none⟩) 2 2 := (hl 2 rfl).1
    have g3_0 := (hl 2 rfl).2
    have f3_0 := f2_0.kept hK3
    have f3_4 := f2_4.kept hK3
    have q3_1_0 := oth0 hO3 q2_1_0
    have q3_1_1 := oth0 hO3 q2_1_1
    have q3_1_2 := oth0 hO3 q2_1_2
    have f3_8 := f2_8.kept hK3
    have q3_1_3 := oth0 hO3 q2_1_3
    have f3_9 := f2_9.kept hK3
    have q3_1_4 := oth0 hO3 q2_1_4
    have f3_10 := f2_10.kept hK3
    simp only [putK, fC, fN, kZ, kS, vV, vA, sI, sZ, sS, e3_2]
    have hBt3 := hBt2.trans hB3
    clear hV3 hX3 hA3
    go_upto_region 5 with fail
    refine rg0 (n := 9) (t16 := 48) w.heap.size [.val (.agg #[.bool ya0, .slice yp0 yl0 yd0, .bool ye0, .slice yq0 ym0 yr0]), .val (.agg #[.bool ya1, .slice yp1 yl1 yd1, .bool ye1, .slice yq1 ym1 yr1]), .k (frq (a + b)), vT, vF, vF, .val (.agg #[.bool ya0, .slice yp0 yl0 yd0, .bool ye0, .slice yq0 ym0 yr0]), .val (.agg #[.bool ya1, .slice yp1 yl1 yd1, .bool ye1, .slice yq1 ym1 yr1]), .k (frq (a * b)), vT, vF, vF, vF, .val (.agg #[.bool ya0, .slice yp0 yl0 yd0, .bool ye0, .slice yq0 ym0 yr0]), .val (.agg #[.bool ya1, .slice yp1 yl1 yd1, .bool ye1, .slice yq1 ym1 yr1]), .k (frq (a + -b)), vT, vF, vF, vF, .val (.agg #[.bool ya0, .slice yp0 yl0 yd0, .bool ye0, .slice yq0 ym0 yr0]), .val (.agg #[.bool ya1, .slice yp1 yl1 yd1, .bool ye1, .slice yq1 ym1 yr1]), .val (.int .i64 (cmpQ a b)), .val (.bool (decide (cmpQ a b = 0))), .val (.agg #[.bool ya0, .slice yp0 yl0 yd0, .bool ye0, .slice yq0 ym0 yr0]), .val (.agg #[.bool ya1, .slice yp1 yl1 yd1, .bool ye1, .slice yq1 ym1 yr1]), .val (.bool (decide (a = b))), vF, vF] [(0, 67), (1, 68), (2, 69), (3, 70), (4, 71), (5, 72), (6, 73), (7, 74), (8, 75), (9, 76), (10, 77), (11, 78), (12, 79), (13, 80), (14, 81), (15, 82), (16, 83), (17, 84), (18, 85), (19, 86), (20, 87), (21, 88), (22, 89), (23, 90), (24, 91), (25, 92), (26, 93), (27, 94), (28, 95)] hBt3.size ?st4 ?en4
    case st4 =>
     intro zi zo ho hro a' u lc W hM
     match zi, ho, hro with
     | 0, ho, _ => cases ho; exact wn (kL26 rfl (hM.ol 5) (hM.o0 q3_1_0))
     | 1, ho, _ => cases ho; exact wn (kL26 rfl (hM.ol 6) (hM.o0 q3_1_1))
     | 2, ho, _ => cases ho; exact wn (kCall2 rfl may37 (hM.d 0 67 rfl) (hM.d 1 68 rfl) (c37 (HA.out.fs (by decide)) (HB.out.fs (by decide)) ((Fz.add HA.out HB.out).fs (by decide)) (f3_0.kept hM.kept) (f3_4.kept hM.kept)))
     | 3, ho, _ => cases ho; exact wn (kCall1 rfl may44 (hM.v 2 69 rfl) (c44_ok ((Fz.add HA.out HB.out).fs (by decide)) (hM.kd 2)))
     | 4, ho, _ => cases ho; exact wn (kNot rfl (hM.d 3 70 rfl) rfl)
     | 5, ho, _ => cases ho; exact wn (kMove rfl (hM.d 4 71 rfl))
     | 6, ho, _ => cases ho; exact hM.wg (hM.d 5 72 rfl) (kL26 rfl (hM.ol 5) (hM.o0 q3_1_0))
     | 7, ho, _ => cases ho; exact hM.wg (hM.d 5 72 rfl) (kL26 rfl (hM.ol 6) (hM.o0 q3_1_1))
     | 8, ho, _ => cases ho; exact hM.wg (hM.d 5 72 rfl) (kCall2 rfl may34 (hM.d 6 73 rfl) (hM.d 7 74 rfl) (c34 (HA.out.fs (by decide)) (HB.out.fs (by decide)) ((Fz.mul HA.out HB.out).fs (by decide)) (f3_0.kept hM.kept) (f3_4.kept hM.kept)))
     | 9, ho, _ => cases ho; exact hM.wg (hM.d 5 72 rfl) (kCall1 rfl may44 (hM.v 8 75 rfl) (c44_ok ((Fz.mul HA.out HB.out).fs (by decide)) (hM.kd 8)))
     | 10, ho, _ => cases ho; exact hM.wg (hM.d 5 72 rfl) (kNot rfl (hM.d 9 76 rfl) rfl)
     | 11, ho, _ => cases ho; exact wn (kPick rfl (hM.d 5 72 rfl) (hM.d 10 77 rfl))
     | 12, ho, _ => cases ho; exact wn (kMove rfl (hM.d 11 78 rfl))
     | 13, ho, _ => cases ho; exact hM.wg (hM.d 12 79 rfl) (kL26 rfl (hM.ol 5) (hM.o0 q3_1_0))
     | 14, ho, _ => cases ho; exact hM.wg (hM.d 12 79 rfl) (kL26 rfl (hM.ol 6) (hM.o0 q3_1_1))
     | 15, ho, _ => cases ho; exact hM.wg (hM.d 12 79 rfl) (kCall2 rfl may36 (hM.d 13 80 rfl) (hM.d 14 81 rfl) (c36 (HA.out.fs (by decide)) (HB.out.fs (by decide)) ((Fz.add HA.out (Fz.neg HB.out)).fs (by decide)) (f3_0.kept hM.kept) (f3_4.kept hM.kept)))
     | 16, ho, _ => cases ho; exact hM.wg (hM.d 12 79 rfl) (kCall1 rfl may44 (hM.v 15 82 rfl) (c44_ok ((Fz.add HA.out (Fz.neg HB.out)).fs (by decide)) (hM.kd 15)))
     | 17, ho, _ => cases ho; exact hM.wg (hM.d 12 79 rfl) (kNot rfl (hM.d 16 83 rfl) rfl)
     | 18, ho, _ => cases ho; exact wn (kPick rfl (hM.d 12 79 rfl) (hM.d 17 84 rfl))
     | 19, ho, _ => cases ho; exact wn (kMove rfl (hM.d 18 85 rfl))
     | 20, ho, _ => cases ho; exact hM.wg (hM.d 19 86 rfl) (kL26 rfl (hM.ol 5) (hM.o0 q3_1_0))
     | 21, ho, _ => cases ho; exact hM.wg (hM.d 19 86 rfl) (kL26 rfl (hM.ol 6) (hM.o0 q3_1_1))
     | 22, ho, _ => cases ho; exact hM.wg (hM.d 19 86 rfl) (kCall2 rfl may35 (hM.d 20 87 rfl) (hM.d 21 88 rfl) (c35q (HA.out.fs (by decide)) (HB.out.fs (by decide)) (f3_0.kept hM.kept) (f3_4.kept hM.kept)))
     | 23, ho, _ => cases ho; exact hM.wg (hM.d 19 86 rfl) (kEql3 rfl (hM.d 22 89 rfl) rfl rfl)
     | 24, ho, _ => cases ho; exact hM.wg (hM.d 19 86 rfl) (kL26 rfl (hM.ol 5) (hM.o0 q3_1_0))
     | 25, ho, _ => cases ho; exact hM.wg (hM.d 19 86 rfl) (kL26 rfl (hM.ol 6) (hM.o0 q3_1_1))
     | 26, ho, _ => cases ho; exact hM.wg (hM.d 19 86 rfl) (kCall2 rfl may45 (hM.d 24 91 rfl) (hM.d 25 92 rfl) (c45q rfl (f3_0.kept hM.kept) (f3_4.kept hM.kept)))
     | 27, ho, _ => cases ho; exact hM.wg (hM.d 19 86 rfl) (kNeq4 rfl (hM.d 23 90 rfl) (hM.d 26 93 rfl) (cmp_same a b))
     | 28, ho, _ => cases ho; exact wn (kPick rfl (hM.d 19 86 rfl) (hM.d 27 94 rfl))
     | zk + 29, ho, _ => simp at ho
    case en4 =>
     intro u4 lc4 W4 hK4 hB4 hO4 hV4 hX4 hA4
     have q4_1_2 := oth0 hO4 q3_1_2
     have f4_8 := f3_8.kept hK4
     have q4_1_3 := oth0 hO4 q3_1_3
     have f4_9 := f3_9.kept hK4
     have q4_1_4 := oth0 hO4 q3_1_4
     have f4_10 := f3_10.kept hK4
     simp only [putK, fC, fN, kZ, kS, vV, vK, sI, sZ, sS]
     have hBt4 := hBt3.trans hB4
     clear hV4 hX4 hA4
     by_cases hd0 : d = 0
     · have HD0 := Lib.hid hd0
       clear hd0
       have hln := (num_len f4_9).2 HD0.out
       have HLN := Lib.hid hln
       clear hln
       go_upto_region 7 with fail
       refine rg (n := 9) (t16 := 48) w.heap.size [] [.val (.agg #[.bool yw2, .slice yx2 yy2 yz2]), .val (.agg #[.bool yw3, .slice yx3 yy3 yz3]), .k (tup2 (.val (.agg #[.bool false, .slice none 0 0, .bool false, .slice none 0 0])) (.val (.int .i64 20))), .k (tup2 (.val (.agg #[.bool false, .slice none 0 0, .bool false, .slice none 0 0])) (.val (.int .i64 20))), .val (.agg #[.bool false, .slice none 0 0, .bool false, .slice none 0 0]), .val (.int .i64 20), .any, .any, .val (.int .i64 20)] [(0, 97), (1, 98), (2, 99), (3, 96), (4, 100), (5, 101), (6, 11), (8, 12)] [⟨26, some 6, 0, pt, 4, [.c #[.bool false, .slice none 0 0, .bool false, .slice none 0 0]], [(7, 0, 4)]⟩] ?ok5 ?st5 ?al5 ?pu5 ?en5
       case ok5 => exact BxOK.fresh rfl hBt4.size
       case st5 =>
        intro zi zo ho hro a' u lc W hM
        match zi, ho, hro with
        | 0, ho, _ => cases ho; exact wn (kL24 rfl (hM.ol 7) (hM.o0 q4_1_2) rfl)
        | 1, ho, _ => cases ho; exact wn (kL24 rfl (hM.ol 8) (hM.o0 q4_1_3) rfl)
        | 2, ho, _ => cases ho; exact wn (kCall2 rfl may46 (hM.d 0 97 rfl) (hM.d 1 98 rfl) (c46z (f4_8.kept hM.kept) (by rw [← HD0.out]; exact (f4_9.kept hM.kept))))
        | 3, ho, _ => cases ho; exact wn (kMove rfl (hM.d 2 99 rfl))
        | 4, ho, _ => cases ho; exact wn (kEx20 rfl (hM.d 3 96 rfl))
        | 5, ho, _ => cases ho; exact wn (kEx21 rfl (hM.d 3 96 rfl))
        | 6, _, hro => exact nr1 hro (by kernel_rfl)
        | 7, _, hro => exact nr1 hro (by kernel_rfl)
        | 8, ho, _ => cases ho; exact wn (kAssign rfl (hM.d 5 101 rfl))
        | zk + 9, ho, _ => simp at ho
       case al5 =>
        intro zk zb zi zo hk ha ho a' u lc W hM
        match zk, hk with
        | 0, hk => cases hk; cases ha; cases ho; exact ⟨rfl, rfl, rfl, rfl, kAlloc26 rfl⟩
        | zk + 1, hk => simp at hk
       case pu5 =>
        intro zk zb zs zo hk hs ho a' u lc W zc hM hc hcs
        match zk, hk with
        | 0, hk =>
         cases hk
         simp only [List.mem_cons, List.not_mem_nil, or_false] at hs
         rcases hs with rfl
         · cases ho
           have e : u 4 = .agg #[.bool false, .slice none 0 0, .bool false, .slice none 0 0] := hM.kd 4
           exact kPut rfl e ((hM.v 6 11 rfl).trans (hM.loc 0 _ 6 rfl rfl (by kernel_rfl))) (hM.v 4 100 rfl) hc hcs sz26
        | zk + 1, hk => simp at hk
       case en5 =>
        intro u5 lc5 W5 hK5 hB5 hO5 hV5 hX5 hA5
        have e5_4 := kv (hV5 4 100 rfl) rfl
        obtain ⟨qr, ho, hl⟩ := hX5 0 _ rfl
        have e5_6 : u5 6 = .pointer (some ⟨lc5 0, 0, none⟩) := (hl 6 rfl).1
        have g5_0 := (hl 6 rfl).2
        have q5_0 : W5.heap[(lc5 0)]? = some (.cells #[.bool false, .slice none 0 0, .bool false, .slice none 0 0] 26) := by
         rw [contAll_one rfl (cs := #[.bool false, .slice none 0 0, .bool false, .slice none 0 0]) (by rw [e5_4]; rfl) rfl] at qr; exact qr
        have q5_1_3 := oth0 hO5 q4_1_3
        simp only [putK, fC, fN, kZ, kS, vV, vA, vK, sI, sZ, sS, e5_6]
        have hBt5 := hBt4.trans hB5
        clear hV5 hX5 hA5
        go_upto_region 8 with fail
        refine rg0 (n := 9) (t16 := 48) w.heap.size [.val (.pointer (some ⟨(lc1 3), 1, none⟩)), .val (.slice yx3 yy3 yz3), .val (.int .i64 ((yy3 : Nat) : Int)), vT] [(0, 102), (1, 103), (2, 104), (3, 105)] hBt5.size ?st6 ?en6
        case st6 =>
         intro zi zo ho hro a' u lc W hM
         match zi, ho, hro with
         | 0, ho, _ => cases ho; exact wn (kField24_1 rfl (hM.ol 8))
         | 1, ho, _ => cases ho; exact wn (kLoad1 Tryz.underlying22 rfl rfl (hM.d 0 102 rfl) (hM.o0 q5_1_3) rfl rfl)
         | 2, ho, _ => cases ho; exact wn (kLen rfl (hM.d 1 103 rfl))
         | 3, ho, _ => cases ho; exact wn (kEql3 rfl (hM.d 2 104 rfl) rfl (decide_eq_true (by rw [HLN.out]; rfl)))
         | zk + 4, ho, _ => simp at ho
        case en6 =>
         intro u6 lc6 W6 hK6 hB6 hO6 hV6 hX6 hA6
         have q6_5_0 := oth0 hO6 q5_0
         simp only [putK, fC, fN, kZ, kS, vV, sI, sZ, sS]
         have hBt6 := hBt5.trans hB6
         clear hV6 hX6 hA6
         go_upto_region 9 with fail
         refine rg0 (n := 9) (t16 := 48) w.heap.size [.val (.int .i64 20), vT, vT, .val (.agg #[.bool false, .slice none 0 0, .bool false, .slice none 0 0]), .val (.agg #[.bool false, .slice none 0 0, .bool false, .slice none 0 0]), vT, vT, vT] [(0, 106), (1, 107), (2, 108), (3, 109), (4, 110), (5, 111), (6, 112), (7, 10)] hBt6.size ?st7 ?en7
         case st7 =>
          intro zi zo ho hro a' u lc W hM
          match zi, ho, hro with
          | 0, ho, _ => cases ho; exact wn (kMove rfl (hM.ol 12))
          | 1, ho, _ => cases ho; exact wn (kEql29 rfl (hM.d 0 106 rfl) rfl (by decide))
          | 2, ho, _ => cases ho; exact wn (kMove rfl (hM.d 1 107 rfl))
          | 3, ho, _ => cases ho; exact hM.wg (hM.d 2 108 rfl) (kL26 rfl (hM.ol 11) (hM.o0 q6_5_0))
          | 4, ho, _ => cases ho; exact hM.wg (hM.d 2 108 rfl) (kBuild260 rfl rfl)
          | 5, ho, _ => cases ho; exact hM.wg (hM.d 2 108 rfl) (kCall2 rfl may47 (hM.d 3 109 rfl) (hM.d 4 110 rfl) (c47a (x := 0) (y := 0) (z := 0) (u := 0) (by decide) (by decide) (fr_zero _) (fr_zero _)))
          | 6, ho, _ => cases ho; exact wn (kPick rfl (hM.d 2 108 rfl) (hM.d 5 111 rfl))
          | 7, ho, _ => cases ho; exact wn (kAssign rfl (hM.d 6 112 rfl))
          | zk + 8, ho, _ => simp at ho
         case en7 =>
          intro u7 lc7 W7 hK7 hB7 hO7 hV7 hX7 hA7
          simp only [putK, fC, fN, kZ, kS, vV, sI, sZ, sS]
          have hBt7 := hBt6.trans hB7
          clear hV7 hX7 hA7
          go_wp2
          exact bodyPost_ret (v := .bool true) (by simp [results, Tryz.results10, go_sem]) rfl ⟨_, rfl, rfl, hBt7⟩
     · have HD0 := Lib.hid hd0
       clear hd0
       have hln := fun e => HD0.out ((num_len f4_9).1 e)
       have HLN := Lib.hid hln
       clear hln
       go_upto_region 7 with fail
       refine rg (n := 9) (t16 := 48) w.heap.size [] [.val (.agg #[.bool yw2, .slice yx2 yy2 yz2]), .val (.agg #[.bool yw3, .slice yx3 yy3 yz3]), .k (tup2 (.k (frq (Rat.divInt n d))) (vZ)), .k (tup2 (.k (frq (Rat.divInt n d))) (vZ)), .k (frq (Rat.divInt n d)), vZ, .any, .any, vZ] [(0, 97), (1, 98), (2, 99), (3, 96), (4, 100), (5, 101), (6, 11), (8, 12)] [⟨26, some 6, 0, pt, 4, [.c #[.bool false, .slice none 0 0, .bool false, .slice none 0 0]], [(7, 0, 4)]⟩] ?ok5 ?st5 ?al5 ?pu5 ?en5
       case ok5 => exact BxOK.fresh rfl hBt4.size
       case st5 =>
        intro zi zo ho hro a' u lc W hM
        match zi, ho, hro with
        | 0, ho, _ => cases ho; exact wn (kL24 rfl (hM.ol 7) (hM.o0 q4_1_2) rfl)
        | 1, ho, _ => cases ho; exact wn (kL24 rfl (hM.ol 8) (hM.o0 q4_1_3) rfl)
        | 2, ho, _ => cases ho; exact wn (kCall2 rfl may46 (hM.d 0 97 rfl) (hM.d 1 98 rfl) (c46q HD0.out ((fz_div BN.out BD.out HD0.out).fs (by decide)) (f4_8.kept hM.kept) (f4_9.kept hM.kept)))
        | 3, ho, _ => cases ho; exact wn (kMove rfl (hM.d 2 99 rfl))
        | 4, ho, _ => cases ho; exact wn (kEx20 rfl (hM.d 3 96 rfl))
        | 5, ho, _ => cases ho; exact wn (kEx21 rfl (hM.d 3 96 rfl))
        | 6, _, hro => exact nr1 hro (by kernel_rfl)
        | 7, _, hro => exact nr1 hro (by kernel_rfl)
        | 8, ho, _ => cases ho; exact wn (kAssign rfl (hM.d 5 101 rfl))
        | zk + 9, ho, _ => simp at ho
       case al5 =>
        intro zk zb zi zo hk ha ho a' u lc W hM
        match zk, hk with
        | 0, hk => cases hk; cases ha; cases ho; exact ⟨rfl, rfl, rfl, rfl, kAlloc26 rfl⟩
        | zk + 1, hk => simp at hk
       case pu5 =>
        intro zk zb zs zo hk hs ho a' u lc W zc hM hc hcs
        match zk, hk with
        | 0, hk =>
         cases hk
         simp only [List.mem_cons, List.not_mem_nil, or_false] at hs
         rcases hs with rfl
         · cases ho
           obtain ⟨sb, sp, sl, sc, sb2, sp2, sl2, sc2, e, _⟩ := (show Is (frq (Rat.divInt n d)) (u 4) W from (hM.kd 4))
           exact kPut rfl e ((hM.v 6 11 rfl).trans (hM.loc 0 _ 6 rfl rfl (by kernel_rfl))) (hM.v 4 100 rfl) hc hcs sz26
        | zk + 1, hk => simp at hk
       case en5 =>
        intro u5 lc5 W5 hK5 hB5 hO5 hV5 hX5 hA5
        have k5_4 := kk (hV5 4 100 rfl) rfl
        obtain ⟨qr, ho, hl⟩ := hX5 0 _ rfl
        have e5_6 : u5 6 = .pointer (some ⟨lc5 0, 0, none⟩) := (hl 6 rfl).1
        have g5_0 := (hl 6 rfl).2
        obtain ⟨x5_7, y5_7, z5_7, c5_7, x25_7, y25_7, z25_7, c25_7, es5_7, sa5_7, sb5_7⟩ := id k5_4
        have sk5_7 : Is (frq (Rat.divInt n d)) (.agg #[.bool x5_7, .slice y5_7 z5_7 c5_7, .bool x25_7, .slice y25_7 z25_7 c25_7]) W5 := by rw [← es5_7]; exact k5_4
        replace sa5_7 : Is (num (Rat.divInt n d).num) (.agg #[.bool x5_7, .slice y5_7 z5_7 c5_7]) W5 := sa5_7
        replace sb5_7 : Is (num (((Rat.divInt n d).den : Nat) : Int)) (.agg #[.bool x25_7, .slice y25_7 z25_7 c25_7]) W5 := sb5_7
        have q5_0 : W5.heap[(lc5 0)]? = some (.cells #[.bool x5_7, .slice y5_7 z5_7 c5_7, .bool x25_7, .slice y25_7 z25_7 c25_7] 26) := by
         rw [contAll_one rfl (cs := #[.bool x5_7, .slice y5_7 z5_7 c5_7, .bool x25_7, .slice y25_7 z25_7 c25_7]) (by rw [es5_7]; rfl) rfl] at qr; exact qr
        have q5_1_2 := oth0 hO5 q4_1_2
        have f5_8 := f4_8.kept hK5
        have q5_1_3 := oth0 hO5 q4_1_3
        have f5_9 := f4_9.kept hK5
        have q5_1_4 := oth0 hO5 q4_1_4
        have f5_10 := f4_10.kept hK5
        simp only [putK, fC, fN, kZ, kS, vV, vA, vK, sI, sZ, sS, e5_6]
        have hBt5 := hBt4.trans hB5
        clear hV5 hX5 hA5
        go_upto_region 8 with fail
        refine rg0 (n := 9) (t16 := 48) w.heap.size [.val (.pointer (some ⟨(lc1 3), 1, none⟩)), .val (.slice yx3 yy3 yz3), .val (.int .i64 ((yy3 : Nat) : Int)), vF] [(0, 102), (1, 103), (2, 104), (3, 105)] hBt5.size ?st6 ?en6
        case st6 =>
         intro zi zo ho hro a' u lc W hM
         match zi, ho, hro with
         | 0, ho, _ => cases ho; exact wn (kField24_1 rfl (hM.ol 8))
         | 1, ho, _ => cases ho; exact wn (kLoad1 Tryz.underlying22 rfl rfl (hM.d 0 102 rfl) (hM.o0 q5_1_3) rfl rfl)
         | 2, ho, _ => cases ho; exact wn (kLen rfl (hM.d 1 103 rfl))
         | 3, ho, _ => cases ho; exact wn (kEql3 rfl (hM.d 2 104 rfl) rfl (decide_eq_false (fun e => HLN.out (Int.ofNat.inj e))))
         | zk + 4, ho, _ => simp at ho
        case en6 =>
         intro u6 lc6 W6 hK6 hB6 hO6 hV6 hX6 hA6
         have q6_1_2 := oth0 hO6 q5_1_2
         have f6_8 := f5_8.kept hK6
         have q6_1_3 := oth0 hO6 q5_1_3
         have f6_9 := f5_9.kept hK6
         have q6_1_4 := oth0 hO6 q5_1_4
         have f6_10 := f5_10.kept hK6
         have q6_5_0 := oth0 hO6 q5_0
         have f6_11 := sk5_7.kept hK6
         have f6_12 := sa5_7.kept hK6
         have f6_13 := sb5_7.kept hK6
         simp only [putK, fC, fN, kZ, kS, vV, sI, sZ, sS]
         have hBt6 := hBt5.trans hB6
         clear hV6 hX6 hA6
         go_upto_region 10 with fail
         refine rg (n := 9) (t16 := 48) w.heap.size [] [.val (.agg #[.bool yw2, .slice yx2 yy2 yz2]), .k (num 1), .k (tup2 (.k (frq (n : Rat))) (vZ)), .k (tup2 (.k (frq (n : Rat))) (vZ)), .k (frq (n : Rat)), vZ, .any, .any, vZ] [(0, 114), (1, 115), (2, 116), (3, 113), (4, 117), (5, 118), (6, 13), (8, 14)] [⟨26, some 6, 0, pt, 4, [.c #[.bool false, .slice none 0 0, .bool false, .slice none 0 0]], [(7, 0, 4)]⟩] ?ok7 ?st7 ?al7 ?pu7 ?en7
         case ok7 => exact BxOK.fresh rfl hBt6.size
         case st7 =>
          intro zi zo ho hro a' u lc W hM
          match zi, ho, hro with
          | 0, ho, _ => cases ho; exact wn (kL24 rfl (hM.ol 7) (hM.o0 q6_1_2) rfl)
          | 1, ho, _ => cases ho; exact wn (kCall1 rfl may48 rfl (c48 (by decide) (by decide)))
          | 2, ho, _ => cases ho; exact wn (kCall2 rfl may46 (hM.d 0 114 rfl) (hM.v 1 115 rfl) (m46 ((fz_int BN.out (by decide)).fs (by decide)) (f6_8.kept hM.kept) (hM.kd 1)))
          | 3, ho, _ => cases ho; exact wn (kMove rfl (hM.d 2 116 rfl))
          | 4, ho, _ => cases ho; exact wn (kEx20 rfl (hM.d 3 113 rfl))
          | 5, ho, _ => cases ho; exact wn (kEx21 rfl (hM.d 3 113 rfl))
          | 6, _, hro => exact nr1 hro (by kernel_rfl)
          | 7, _, hro => exact nr1 hro (by kernel_rfl)
          | 8, ho, _ => cases ho; exact wn (kAssign rfl (hM.d 5 118 rfl))
          | zk + 9, ho, _ => simp at ho
         case al7 =>
          intro zk zb zi zo hk ha ho a' u lc W hM
          match zk, hk with
          | 0, hk => cases hk; cases ha; cases ho; exact ⟨rfl, rfl, rfl, rfl, kAlloc26 rfl⟩
          | zk + 1, hk => simp at hk
         case pu7 =>
          intro zk zb zs zo hk hs ho a' u lc W zc hM hc hcs
          match zk, hk with
          | 0, hk =>
           cases hk
           simp only [List.mem_cons, List.not_mem_nil, or_false] at hs
           rcases hs with rfl
           · cases ho
             obtain ⟨sb, sp, sl, sc, sb2, sp2, sl2, sc2, e, _⟩ := (show Is (frq (n : Rat)) (u 4) W from (hM.kd 4))
             exact kPut rfl e ((hM.v 6 13 rfl).trans (hM.loc 0 _ 6 rfl rfl (by kernel_rfl))) (hM.v 4 117 rfl) hc hcs sz26
          | zk + 1, hk => simp at hk
         case en7 =>
          intro u7 lc7 W7 hK7 hB7 hO7 hV7 hX7 hA7
          have k7_4 := kk (hV7 4 117 rfl) rfl
          obtain ⟨qr, ho, hl⟩ := hX7 0 _ rfl
          have e7_6 : u7 6 = .pointer (some ⟨lc7 0, 0, none⟩) := (hl 6 rfl).1
          have g7_0 := (hl 6 rfl).2
          obtain ⟨x7_7, y7_7, z7_7, c7_7, x27_7, y27_7, z27_7, c27_7, es7_7, sa7_7, sb7_7⟩ := id k7_4
          have sk7_7 : Is (frq (n : Rat)) (.agg #[.bool x7_7, .slice y7_7 z7_7 c7_7, .bool x27_7, .slice y27_7 z27_7 c27_7]) W7 := by rw [← es7_7]; exact k7_4
          have q7_0 : W7.heap[(lc7 0)]? = some (.cells #[.bool x7_7, .slice y7_7 z7_7 c7_7, .bool x27_7, .slice y27_7 z27_7 c27_7] 26) := by
           rw [contAll_one rfl (cs := #[.bool x7_7, .slice y7_7 z7_7 c7_7, .bool x27_7, .slice y27_7 z27_7 c27_7]) (by rw [es7_7]; rfl) rfl] at qr; exact qr
          have q7_1_2 := oth0 hO7 q6_1_2
          have f7_8 := f6_8.kept hK7
          have q7_1_3 := oth0 hO7 q6_1_3
          have f7_9 := f6_9.kept hK7
          have q7_1_4 := oth0 hO7 q6_1_4
          have f7_10 := f6_10.kept hK7
          have q7_5_0 := oth0 hO7 q6_5_0
          have f7_11 := f6_11.kept hK7
          have f7_12 := f6_12.kept hK7
          have f7_13 := f6_13.kept hK7
          simp only [putK, fC, fN, kZ, kS, vV, vA, vK, sI, sZ, sS, e7_6]
          have hBt7 := hBt6.trans hB7
          clear hV7 hX7 hA7
          go_upto_region 11 with fail
          refine rg (n := 9) (t16 := 48) w.heap.size [] [.val (.agg #[.bool yw3, .slice yx3 yy3 yz3]), .k (num 1), .k (tup2 (.k (frq (d : Rat))) (vZ)), .k (tup2 (.k (frq (d : Rat))) (vZ)), .k (frq (d : Rat)), vZ, .any, .any, vZ] [(0, 120), (1, 121), (2, 122), (3, 119), (4, 123), (5, 124), (6, 15), (8, 16)] [⟨26, some 6, 0, pt, 4, [.c #[.bool false, .slice none 0 0, .bool false, .slice none 0 0]], [(7, 0, 4)]⟩] ?ok8 ?st8 ?al8 ?pu8 ?en8
          case ok8 => exact BxOK.fresh rfl hBt7.size
          case st8 =>
           intro zi zo ho hro a' u lc W hM
           match zi, ho, hro with
           | 0, ho, _ => cases ho; exact wn (kL24 rfl (hM.ol 8) (hM.o0 q7_1_3) rfl)
           | 1, ho, _ => cases ho; exact wn (kCall1 rfl may48 rfl (c48 (by decide) (by decide)))
           | 2, ho, _ => cases ho; exact wn (kCall2 rfl may46 (hM.d 0 120 rfl) (hM.v 1 121 rfl) (m46 ((fz_int BD.out (by decide)).fs (by decide)) (f7_9.kept hM.kept) (hM.kd 1)))
           | 3, ho, _ => cases ho; exact wn (kMove rfl (hM.d 2 122 rfl))
           | 4, ho, _ => cases ho; exact wn (kEx20 rfl (hM.d 3 119 rfl))
           | 5, ho, _ => cases ho; exact wn (kEx21 rfl (hM.d 3 119 rfl))
           | 6, _, hro => exact nr1 hro (by kernel_rfl)
           | 7, _, hro => exact nr1 hro (by kernel_rfl)
           | 8, ho, _ => cases ho; exact wn (kAssign rfl (hM.d 5 124 rfl))
           | zk + 9, ho, _ => simp at ho
          case al8 =>
           intro zk zb zi zo hk ha ho a' u lc W hM
           match zk, hk with
           | 0, hk => cases hk; cases ha; cases ho; exact ⟨rfl, rfl, rfl, rfl, kAlloc26 rfl⟩
           | zk + 1, hk => simp at hk
          case pu8 =>
           intro zk zb zs zo hk hs ho a' u lc W zc hM hc hcs
           match zk, hk with
           | 0, hk =>
            cases hk
            simp only [List.mem_cons, List.not_mem_nil, or_false] at hs
            rcases hs with rfl
            · cases ho
              obtain ⟨sb, sp, sl, sc, sb2, sp2, sl2, sc2, e, _⟩ := (show Is (frq (d : Rat)) (u 4) W from (hM.kd 4))
              exact kPut rfl e ((hM.v 6 15 rfl).trans (hM.loc 0 _ 6 rfl rfl (by kernel_rfl))) (hM.v 4 123 rfl) hc hcs sz26
           | zk + 1, hk => simp at hk
          case en8 =>
           intro u8 lc8 W8 hK8 hB8 hO8 hV8 hX8 hA8
           have k8_4 := kk (hV8 4 123 rfl) rfl
           obtain ⟨qr, ho, hl⟩ := hX8 0 _ rfl
           have e8_6 : u8 6 = .pointer (some ⟨lc8 0, 0, none⟩) := (hl 6 rfl).1
           have g8_0 := (hl 6 rfl).2
           obtain ⟨x8_7, y8_7, z8_7, c8_7, x28_7, y28_7, z28_7, c28_7, es8_7, sa8_7, sb8_7⟩ := id k8_4
           have sk8_7 : Is (frq (d : Rat)) (.agg #[.bool x8_7, .slice y8_7 z8_7 c8_7, .bool x28_7, .slice y28_7 z28_7 c28_7]) W8 := by rw [← es8_7]; exact k8_4
           have q8_0 : W8.heap[(lc8 0)]? = some (.cells #[.bool x8_7, .slice y8_7 z8_7 c8_7, .bool x28_7, .slice y28_7 z28_7 c28_7] 26) := by
            rw [contAll_one rfl (cs := #[.bool x8_7, .slice y8_7 z8_7 c8_7, .bool x28_7, .slice y28_7 z28_7 c28_7]) (by rw [es8_7]; rfl) rfl] at qr; exact qr
           have q8_1_2 := oth0 hO8 q7_1_2
           have f8_8 := f7_8.kept hK8
           have q8_1_3 := oth0 hO8 q7_1_3
           have f8_9 := f7_9.kept hK8
           have q8_1_4 := oth0 hO8 q7_1_4
           have f8_10 := f7_10.kept hK8
           have q8_5_0 := oth0 hO8 q7_5_0
           have f8_11 := f7_11.kept hK8
           have f8_12 := f7_12.kept hK8
           have f8_13 := f7_13.kept hK8
           have q8_7_0 := oth0 hO8 q7_0
           have f8_14 := sk7_7.kept hK8
           simp only [putK, fC, fN, kZ, kS, vV, vA, vK, sI, sZ, sS, e8_6]
           have hBt8 := hBt7.trans hB8
           clear hV8 hX8 hA8
           go_upto_region 12 with fail
           refine rg0 (n := 9) (t16 := 48) w.heap.size [vZ, vF, vF, .val (.agg #[.bool x5_7, .slice y5_7 z5_7 c5_7, .bool x25_7, .slice y25_7 z25_7 c25_7]), .val (.agg #[.bool x7_7, .slice y7_7 z7_7 c7_7, .bool x27_7, .slice y27_7 z27_7 c27_7]), .val (.agg #[.bool x8_7, .slice y8_7 z8_7 c8_7, .bool x28_7, .slice y28_7 z28_7 c28_7]), .k (frq ((n : Rat) * (d : Rat)⁻¹)), vT, vF, vF] [(0, 125), (1, 126), (2, 127), (3, 128), (4, 129), (5, 130), (6, 131), (7, 132), (8, 133), (9, 134)] hBt8.size ?st9 ?en9
           case st9 =>
            intro zi zo ho hro a' u lc W hM
            match zi, ho, hro with
            | 0, ho, _ => cases ho; exact wn (kMove rfl (hM.ol 12))
            | 1, ho, _ => cases ho; exact wn (kNeq29 rfl (hM.d 0 125 rfl) rfl (by decide))
            | 2, ho, _ => cases ho; exact wn (kMove rfl (hM.d 1 126 rfl))
            | 3, ho, _ => cases ho; exact hM.wg (hM.d 2 127 rfl) (kL26 rfl (hM.ol 11) (hM.o0 q8_5_0))
            | 4, ho, _ => cases ho; exact hM.wg (hM.d 2 127 rfl) (kL26 rfl (hM.ol 13) (hM.o0 q8_7_0))
            | 5, ho, _ => cases ho; exact hM.wg (hM.d 2 127 rfl) (kL26 rfl (hM.ol 15) (hM.o0 q8_0))
            | 6, ho, _ => cases ho; exact hM.wg (hM.d 2 127 rfl) (kCall2 rfl may38 (hM.d 4 129 rfl) (hM.d 5 130 rfl) (c38 ((fz_int BN.out (by decide)).fs (by decide)) ((fz_int BD.out (by decide)).fs (by decide)) (rat_ne HD0.out) (decide_eq_false HD0.out) ((Fz.mul (fz_int BN.out (by decide)) (Fz.inv (fz_int BD.out (by decide)) (rat_ne HD0.out))).fs (by decide)) (f8_14.kept hM.kept) (sk8_7.kept hM.kept)))
            | 7, ho, _ => cases ho; exact hM.wg (hM.d 2 127 rfl) (kCall2 rfl may32 (hM.d 3 128 rfl) (hM.v 6 131 rfl) (c32 ((fz_div BN.out BD.out HD0.out).fs (by decide)) ((Fz.mul (fz_int BN.out (by decide)) (Fz.inv (fz_int BD.out (by decide)) (rat_ne HD0.out))).fs (by decide)) (decide_eq_true (div_mul n d)) (f8_11.kept hM.kept) (hM.kd 6)))
            | 8, ho, _ => cases ho; exact hM.wg (hM.d 2 127 rfl) (kNot rfl (hM.d 7 132 rfl) rfl)
            | 9, ho, _ => cases ho; exact wn (kPick rfl (hM.d 2 127 rfl) (hM.d 8 133 rfl))
            | zk + 10, ho, _ => simp at ho
           case en9 =>
            intro u9 lc9 W9 hK9 hB9 hO9 hV9 hX9 hA9
            have q9_1_2 := oth0 hO9 q8_1_2
            have f9_8 := f8_8.kept hK9
            have q9_1_3 := oth0 hO9 q8_1_3
            have f9_9 := f8_9.kept hK9
            have q9_1_4 := oth0 hO9 q8_1_4
            have f9_10 := f8_10.kept hK9
            have q9_5_0 := oth0 hO9 q8_5_0
            have f9_11 := f8_11.kept hK9
            have f9_12 := f8_12.kept hK9
            have f9_13 := f8_13.kept hK9
            simp only [putK, fC, fN, kZ, kS, vV, vK, sI, sZ, sS]
            have hBt9 := hBt8.trans hB9
            clear hV9 hX9 hA9
            by_cases hf0 : f = 0
            · have HF0 := Lib.hid hf0
              clear hf0
              have hlf := (num_len f9_10).2 HF0.out
              have HLF := Lib.hid hlf
              clear hlf
              go_upto_region 14 with fail
              refine rg0 (n := 9) (t16 := 48) w.heap.size [.val (.pointer (some ⟨(lc1 4), 1, none⟩)), .val (.slice yx4 yy4 yz4), .val (.int .i64 ((yy4 : Nat) : Int)), vT] [(0, 135), (1, 136), (2, 137), (3, 138)] hBt9.size ?st10 ?en10
              case st10 =>
               intro zi zo ho hro a' u lc W hM
               match zi, ho, hro with
               | 0, ho, _ => cases ho; exact wn (kField24_1 rfl (hM.ol 9))
               | 1, ho, _ => cases ho; exact wn (kLoad1 Tryz.underlying22 rfl rfl (hM.d 0 135 rfl) (hM.o0 q9_1_4) rfl rfl)
               | 2, ho, _ => cases ho; exact wn (kLen rfl (hM.d 1 136 rfl))
               | 3, ho, _ => cases ho; exact wn (kEql3 rfl (hM.d 2 137 rfl) rfl (decide_eq_true (by rw [HLF.out]; rfl)))
               | zk + 4, ho, _ => simp at ho
              case en10 =>
               intro u10 lc10 W10 hK10 hB10 hO10 hV10 hX10 hA10
               simp only [putK, fC, fN, kZ, kS, vV, sI, sZ, sS]
               have hBt10 := hBt9.trans hB10
               clear hV10 hX10 hA10
               go_upto_region 15 with fail
               refine rg0 (n := 9) (t16 := 48) w.heap.size [vT] [(0, 10)] hBt10.size ?st11 ?en11
               case st11 =>
                intro zi zo ho hro a' u lc W hM
                match zi, ho, hro with
                | 0, ho, _ => cases ho; exact wn (kAssign rfl rfl)
                | zk + 1, ho, _ => simp at ho
               case en11 =>
                intro u11 lc11 W11 hK11 hB11 hO11 hV11 hX11 hA11
                simp only [putK, fC, fN, kZ, vV, sI, sZ, sS]
                have hBt11 := hBt10.trans hB11
                clear hV11 hX11 hA11
                go_wp2
                exact bodyPost_ret (v := .bool true) (by simp [results, Tryz.results10, go_sem]) rfl ⟨_, rfl, rfl, hBt11⟩
            · have HF0 := Lib.hid hf0
              clear hf0
              have hlf := fun e => HF0.out ((num_len f9_10).1 e)
              have HLF := Lib.hid hlf
              clear hlf
              go_upto_region 14 with fail
              refine rg0 (n := 9) (t16 := 48) w.heap.size [.val (.pointer (some ⟨(lc1 4), 1, none⟩)), .val (.slice yx4 yy4 yz4), .val (.int .i64 ((yy4 : Nat) : Int)), vF] [(0, 135), (1, 136), (2, 137), (3, 138)] hBt9.size ?st10 ?en10
              case st10 =>
               intro zi zo ho hro a' u lc W hM
               match zi, ho, hro with
               | 0, ho, _ => cases ho; exact wn (kField24_1 rfl (hM.ol 9))
               | 1, ho, _ => cases ho; exact wn (kLoad1 Tryz.underlying22 rfl rfl (hM.d 0 135 rfl) (hM.o0 q9_1_4) rfl rfl)
               | 2, ho, _ => cases ho; exact wn (kLen rfl (hM.d 1 136 rfl))
               | 3, ho, _ => cases ho; exact wn (kEql3 rfl (hM.d 2 137 rfl) rfl (decide_eq_false (fun e => HLF.out (Int.ofNat.inj e))))
               | zk + 4, ho, _ => simp at ho
              case en10 =>
               intro u10 lc10 W10 hK10 hB10 hO10 hV10 hX10 hA10
               have q10_1_2 := oth0 hO10 q9_1_2
               have f10_8 := f9_8.kept hK10
               have q10_1_3 := oth0 hO10 q9_1_3
               have f10_9 := f9_9.kept hK10
               have q10_1_4 := oth0 hO10 q9_1_4
               have f10_10 := f9_10.kept hK10
               have q10_5_0 := oth0 hO10 q9_5_0
               have f10_11 := f9_11.kept hK10
               have f10_12 := f9_12.kept hK10
               have f10_13 := f9_13.kept hK10
               simp only [putK, fC, fN, kZ, kS, vV, sI, sZ, sS]
               have hBt10 := hBt9.trans hB10
               clear hV10 hX10 hA10
               go_upto_region 16 with fail
               refine rg (n := 9) (t16 := 48) w.heap.size [] [.val (.agg #[.bool yw2, .slice yx2 yy2 yz2]), .val (.agg #[.bool yw4, .slice yx4 yy4 yz4]), .k (tup2 (.k (num (n * f))) (vZ)), .k (tup2 (.k (num (n * f))) (vZ)), .k (num (n * f)), vZ, .any, .any, vZ] [(0, 140), (1, 141), (2, 142), (3, 139), (4, 143), (5, 144), (6, 17), (8, 18)] [⟨24, some 6, 0, pt, 2, [.c #[.bool false, .slice none 0 0]], [(7, 0, 4)]⟩] ?ok11 ?st11 ?al11 ?pu11 ?en11
               case ok11 => exact BxOK.fresh rfl hBt10.size
               case st11 =>
                intro zi zo ho hro a' u lc W hM
                match zi, ho, hro with
                | 0, ho, _ => cases ho; exact wn (kL24 rfl (hM.ol 7) (hM.o0 q10_1_2) rfl)
                | 1, ho, _ => cases ho; exact wn (kL24 rfl (hM.ol 9) (hM.o0 q10_1_4) rfl)
                | 2, ho, _ => cases ho; exact wn (kCall2 rfl may49 (hM.d 0 140 rfl) (hM.d 1 141 rfl) (c49 rfl (pw_cap (k := 40 + 40) (mul_pw BN.out BF.out) (by decide)) (f10_8.kept hM.kept) (f10_10.kept hM.kept)))
                | 3, ho, _ => cases ho; exact wn (kMove rfl (hM.d 2 142 rfl))
                | 4, ho, _ => cases ho; exact wn (kEx20 rfl (hM.d 3 139 rfl))
                | 5, ho, _ => cases ho; exact wn (kEx21 rfl (hM.d 3 139 rfl))
                | 6, _, hro => exact nr1 hro (by kernel_rfl)
                | 7, _, hro => exact nr1 hro (by kernel_rfl)
                | 8, ho, _ => cases ho; exact wn (kAssign rfl (hM.d 5 144 rfl))
                | zk + 9, ho, _ => simp at ho
               case al11 =>
                intro zk zb zi zo hk ha ho a' u lc W hM
                match zk, hk with
                | 0, hk => cases hk; cases ha; cases ho; exact ⟨rfl, rfl, rfl, rfl, kAlloc24 rfl⟩
                | zk + 1, hk => simp at hk
               case pu11 =>
                intro zk zb zs zo hk hs ho a' u lc W zc hM hc hcs
                match zk, hk with
                | 0, hk =>
                 cases hk
                 simp only [List.mem_cons, List.not_mem_nil, or_false] at hs
                 rcases hs with rfl
                 · cases ho
                   obtain ⟨sb, sp, sl, sc, e⟩ := (show Is (num (n * f)) (u 4) W from (hM.kd 4)).form
                   exact kPut rfl e ((hM.v 6 17 rfl).trans (hM.loc 0 _ 6 rfl rfl (by kernel_rfl))) (hM.v 4 143 rfl) hc hcs sz24
                | zk + 1, hk => simp at hk
               case en11 =>
                intro u11 lc11 W11 hK11 hB11 hO11 hV11 hX11 hA11
                have k11_4 := kk (hV11 4 143 rfl) rfl
                obtain ⟨qr, ho, hl⟩ := hX11 0 _ rfl
                have e11_6 : u11 6 = .pointer (some ⟨lc11 0, 0, none⟩) := (hl 6 rfl).1
                have g11_0 := (hl 6 rfl).2
                obtain ⟨x11_7, y11_7, z11_7, c11_7, es11_7⟩ := k11_4.form
                have sk11_7 : Is (num (n * f)) (.agg #[.bool x11_7, .slice y11_7 z11_7 c11_7]) W11 := by rw [← es11_7]; exact k11_4
                have q11_0 : W11.heap[(lc11 0)]? = some (.cells #[.bool x11_7, .slice y11_7 z11_7 c11_7] 24) := by
                 rw [contAll_one rfl (cs := #[.bool x11_7, .slice y11_7 z11_7 c11_7]) (by rw [es11_7]; rfl) rfl] at qr; exact qr
                have q11_1_2 := oth0 hO11 q10_1_2
                have f11_8 := f10_8.kept hK11
                have q11_1_3 := oth0 hO11 q10_1_3
                have f11_9 := f10_9.kept hK11
                have q11_1_4 := oth0 hO11 q10_1_4
                have f11_10 := f10_10.kept hK11
                have q11_5_0 := oth0 hO11 q10_5_0
                have f11_11 := f10_11.kept hK11
                have f11_12 := f10_12.kept hK11
                have f11_13 := f10_13.kept hK11
                simp only [putK, fC, fN, kZ, kS, vV, vA, vK, sI, sZ, sS, e11_6]
                have hBt11 := hBt10.trans hB11
                clear hV11 hX11 hA11
                go_upto_region 17 with fail
                refine rg (n := 9) (t16 := 48) w.heap.size [] [.val (.agg #[.bool yw3, .slice yx3 yy3 yz3]), .val (.agg #[.bool yw4, .slice yx4 yy4 yz4]), .k (tup2 (.k (num (d * f))) (vZ)), .k (tup2 (.k (num (d * f))) (vZ)), .k (num (d * f)), vZ, .any, .any, vZ] [(0, 146), (1, 147), (2, 148), (3, 145), (4, 149), (5, 150), (6, 19), (8, 20)] [⟨24, some 6, 0, pt, 2, [.c #[.bool false, .slice none 0 0]], [(7, 0, 4)]⟩] ?ok12 ?st12 ?al12 ?pu12 ?en12
                case ok12 => exact BxOK.fresh rfl hBt11.size
                case st12 =>
                 intro zi zo ho hro a' u lc W hM
                 match zi, ho, hro with
                 | 0, ho, _ => cases ho; exact wn (kL24 rfl (hM.ol 8) (hM.o0 q11_1_3) rfl)
                 | 1, ho, _ => cases ho; exact wn (kL24 rfl (hM.ol 9) (hM.o0 q11_1_4) rfl)
                 | 2, ho, _ => cases ho; exact wn (kCall2 rfl may49 (hM.d 0 146 rfl) (hM.d 1 147 rfl) (c49 rfl (pw_cap (k := 40 + 40) (mul_pw BD.out BF.out) (by decide)) (f11_9.kept hM.kept) (f11_10.kept hM.kept)))
                 | 3, ho, _ => cases ho; exact wn (kMove rfl (hM.d 2 148 rfl))
                 | 4, ho, _ => cases ho; exact wn (kEx20 rfl (hM.d 3 145 rfl))
                 | 5, ho, _ => cases ho; exact wn (kEx21 rfl (hM.d 3 145 rfl))
                 | 6, _, hro => exact nr1 hro (by kernel_rfl)
                 | 7, _, hro => exact nr1 hro (by kernel_rfl)
                 | 8, ho, _ => cases ho; exact wn (kAssign rfl (hM.d 5 150 rfl))
                 | zk + 9, ho, _ => simp at ho
                case al12 =>
                 intro zk zb zi zo hk ha ho a' u lc W hM
                 match zk, hk with
                 | 0, hk => cases hk; cases ha; cases ho; exact ⟨rfl, rfl, rfl, rfl, kAlloc24 rfl⟩
                 | zk + 1, hk => simp at hk
                case pu12 =>
                 intro zk zb zs zo hk hs ho a' u lc W zc hM hc hcs
                 match zk, hk with
                 | 0, hk =>
                  cases hk
                  simp only [List.mem_cons, List.not_mem_nil, or_false] at hs
                  rcases hs with rfl
                  · cases ho
                    obtain ⟨sb, sp, sl, sc, e⟩ := (show Is (num (d * f)) (u 4) W from (hM.kd 4)).form
                    exact kPut rfl e ((hM.v 6 19 rfl).trans (hM.loc 0 _ 6 rfl rfl (by kernel_rfl))) (hM.v 4 149 rfl) hc hcs sz24
                 | zk + 1, hk => simp at hk
                case en12 =>
                 intro u12 lc12 W12 hK12 hB12 hO12 hV12 hX12 hA12
                 have k12_4 := kk (hV12 4 149 rfl) rfl
                 obtain ⟨qr, ho, hl⟩ := hX12 0 _ rfl
                 have e12_6 : u12 6 = .pointer (some ⟨lc12 0, 0, none⟩) := (hl 6 rfl).1
                 have g12_0 := (hl 6 rfl).2
                 obtain ⟨x12_7, y12_7, z12_7, c12_7, es12_7⟩ := k12_4.form
                 have sk12_7 : Is (num (d * f)) (.agg #[.bool x12_7, .slice y12_7 z12_7 c12_7]) W12 := by rw [← es12_7]; exact k12_4
                 have q12_0 : W12.heap[(lc12 0)]? = some (.cells #[.bool x12_7, .slice y12_7 z12_7 c12_7] 24) := by
                  rw [contAll_one rfl (cs := #[.bool x12_7, .slice y12_7 z12_7 c12_7]) (by rw [es12_7]; rfl) rfl] at qr; exact qr
                 have q12_1_2 := oth0 hO12 q11_1_2
                 have f12_8 := f11_8.kept hK12
                 have q12_1_3 := oth0 hO12 q11_1_3
                 have f12_9 := f11_9.kept hK12
                 have q12_5_0 := oth0 hO12 q11_5_0
                 have f12_11 := f11_11.kept hK12
                 have f12_12 := f11_12.kept hK12
                 have f12_13 := f11_13.kept hK12
                 have q12_11_0 := oth0 hO12 q11_0
                 have f12_20 := sk11_7.kept hK12
                 simp only [putK, fC, fN, kZ, kS, vV, vA, vK, sI, sZ, sS, e12_6]
                 have hBt12 := hBt11.trans hB12
                 clear hV12 hX12 hA12
                 go_upto_region 18 with fail
                 refine rg (n := 9) (t16 := 48) w.heap.size [] [.val (.agg #[.bool x11_7, .slice y11_7 z11_7 c11_7]), .val (.agg #[.bool x12_7, .slice y12_7 z12_7 c12_7]), .k (tup2 (.k (frq (Rat.divInt (n * f) (d * f)))) (vZ)), .k (tup2 (.k (frq (Rat.divInt (n * f) (d * f)))) (vZ)), .k (frq (Rat.divInt (n * f) (d * f))), vZ, .any, .any, vZ] [(0, 152), (1, 153), (2, 154), (3, 151), (4, 155), (5, 156), (6, 21), (8, 22)] [⟨26, some 6, 0, pt, 4, [.c #[.bool false, .slice none 0 0, .bool false, .slice none 0 0]], [(7, 0, 4)]⟩] ?ok13 ?st13 ?al13 ?pu13 ?en13
                 case ok13 => exact BxOK.fresh rfl hBt12.size
                 case st13 =>
                  intro zi zo ho hro a' u lc W hM
                  match zi, ho, hro with
                  | 0, ho, _ => cases ho; exact wn (kL24 rfl (hM.ol 17) (hM.o0 q12_11_0) rfl)
                  | 1, ho, _ => cases ho; exact wn (kL24 rfl (hM.ol 19) (hM.o0 q12_0) rfl)
                  | 2, ho, _ => cases ho; exact wn (kCall2 rfl may46 (hM.d 0 152 rfl) (hM.d 1 153 rfl) (c46q (Int.mul_ne_zero HD0.out HF0.out) ((fz_div (k := 40 + 40) (mul_pw BN.out BF.out) (mul_pw BD.out BF.out) (Int.mul_ne_zero HD0.out HF0.out)).fs (by decide)) (f12_20.kept hM.kept) (sk12_7.kept hM.kept)))
                  | 3, ho, _ => cases ho; exact wn (kMove rfl (hM.d 2 154 rfl))
                  | 4, ho, _ => cases ho; exact wn (kEx20 rfl (hM.d 3 151 rfl))
                  | 5, ho, _ => cases ho; exact wn (kEx21 rfl (hM.d 3 151 rfl))
                  | 6, _, hro => exact nr1 hro (by kernel_rfl)
                  | 7, _, hro => exact nr1 hro (by kernel_rfl)
                  | 8, ho, _ => cases ho; exact wn (kAssign rfl (hM.d 5 156 rfl))
                  | zk + 9, ho, _ => simp at ho
                 case al13 =>
                  intro zk zb zi zo hk ha ho a' u lc W hM
                  match zk, hk with
                  | 0, hk => cases hk; cases ha; cases ho; exact ⟨rfl, rfl, rfl, rfl, kAlloc26 rfl⟩
                  | zk + 1, hk => simp at hk
                 case pu13 =>
                  intro zk zb zs zo hk hs ho a' u lc W zc hM hc hcs
                  match zk, hk with
                  | 0, hk =>
                   cases hk
                   simp only [List.mem_cons, List.not_mem_nil, or_false] at hs
                   rcases hs with rfl
                   · cases ho
                     obtain ⟨sb, sp, sl, sc, sb2, sp2, sl2, sc2, e, _⟩ := (show Is (frq (Rat.divInt (n * f) (d * f))) (u 4) W from (hM.kd 4))
                     exact kPut rfl e ((hM.v 6 21 rfl).trans (hM.loc 0 _ 6 rfl rfl (by kernel_rfl))) (hM.v 4 155 rfl) hc hcs sz26
                  | zk + 1, hk => simp at hk
                 case en13 =>
                  intro u13 lc13 W13 hK13 hB13 hO13 hV13 hX13 hA13
                  have k13_4 := kk (hV13 4 155 rfl) rfl
                  obtain ⟨qr, ho, hl⟩ := hX13 0 _ rfl
                  have e13_6 : u13 6 = .pointer (some ⟨lc13 0, 0, none⟩) := (hl 6 rfl).1
                  have g13_0 := (hl 6 rfl).2
                  obtain ⟨x13_7, y13_7, z13_7, c13_7, x213_7, y213_7, z213_7, c213_7, es13_7, sa13_7, sb13_7⟩ := id k13_4
                  have sk13_7 : Is (frq (Rat.divInt (n * f) (d * f))) (.agg #[.bool x13_7, .slice y13_7 z13_7 c13_7, .bool x213_7, .slice y213_7 z213_7 c213_7]) W13 := by rw [← es13_7]; exact k13_4
                  have q13_0 : W13.heap[(lc13 0)]? = some (.cells #[.bool x13_7, .slice y13_7 z13_7 c13_7, .bool x213_7, .slice y213_7 z213_7 c213_7] 26) := by
                   rw [contAll_one rfl (cs := #[.bool x13_7, .slice y13_7 z13_7 c13_7, .bool x213_7, .slice y213_7 z213_7 c213_7]) (by rw [es13_7]; rfl) rfl] at qr; exact qr
                  have q13_1_2 := oth0 hO13 q12_1_2
                  have f13_8 := f12_8.kept hK13
                  have q13_1_3 := oth0 hO13 q12_1_3
                  have f13_9 := f12_9.kept hK13
                  have q13_5_0 := oth0 hO13 q12_5_0
                  have f13_11 := f12_11.kept hK13
                  have f13_12 := f12_12.kept hK13
                  have f13_13 := f12_13.kept hK13
                  simp only [putK, fC, fN, kZ, kS, vV, vA, vK, sI, sZ, sS, e13_6]
                  have hBt13 := hBt12.trans hB13
                  clear hV13 hX13 hA13
                  go_upto_region 19 with fail
                  refine rg (n := 9) (t16 := 48) w.heap.size [] [.val (.pointer (some ⟨(lc5 0), 0, none⟩)), .val (.agg #[.bool x5_7, .slice y5_7 z5_7 c5_7]), .val (.agg #[.bool yw3, .slice yx3 yy3 yz3]), .k (tup2 (.k (num ((Rat.divInt n d).num * d))) (vZ)), .k (tup2 (.k (num ((Rat.divInt n d).num * d))) (vZ)), .k (num ((Rat.divInt n d).num * d)), vZ, .any, .any, vZ] [(0, 158), (1, 159), (2, 160), (3, 161), (4, 157), (5, 162), (6, 163), (7, 23), (9, 24)] [⟨24, some 7, 0, pt, 2, [.c #[.bool false, .slice none 0 0]], [(8, 0, 5)]⟩] ?ok14 ?st14 ?al14 ?pu14 ?en14
                  case ok14 => exact BxOK.fresh rfl hBt13.size
                  case st14 =>
                   intro zi zo ho hro a' u lc W hM
                   match zi, ho, hro with
                   | 0, ho, _ => cases ho; exact wn (kField26_0 rfl (hM.ol 11))
                   | 1, ho, _ => cases ho; exact wn (kL24 rfl (hM.d 0 158 rfl) (hM.o0 q13_5_0) rfl)
                   | 2, ho, _ => cases ho; exact wn (kL24 rfl (hM.ol 8) (hM.o0 q13_1_3) rfl)
                   | 3, ho, _ => cases ho; exact wn (kCall2 rfl may49 (hM.d 1 159 rfl) (hM.d 2 160 rfl) (c49 rfl (pw_cap (k := (40 + 40) + 40) (mul_pw (fz_div BN.out BD.out HD0.out).1 BD.out) (by decide)) (f13_12.kept hM.kept) (f13_9.kept hM.kept)))
                   | 4, ho, _ => cases ho; exact wn (kMove rfl (hM.d 3 161 rfl))
                   | 5, ho, _ => cases ho; exact wn (kEx20 rfl (hM.d 4 157 rfl))
                   | 6, ho, _ => cases ho; exact wn (kEx21 rfl (hM.d 4 157 rfl))
                   | 7, _, hro => exact nr1 hro (by kernel_rfl)
                   | 8, _, hro => exact nr1 hro (by kernel_rfl)
                   | 9, ho, _ => cases ho; exact wn (kAssign rfl (hM.d 6 163 rfl))
                   | zk + 10, ho, _ => simp at ho
                  case al14 =>
                   intro zk zb zi zo hk ha ho a' u lc W hM
                   match zk, hk with
                   | 0, hk => cases hk; cases ha; cases ho; exact ⟨rfl, rfl, rfl, rfl, kAlloc24 rfl⟩
                   | zk + 1, hk => simp at hk
                  case pu14 =>
                   intro zk zb zs zo hk hs ho a' u lc W zc hM hc hcs
                   match zk, hk with
                   | 0, hk =>
                    cases hk
                    simp only [List.mem_cons, List.not_mem_nil, or_false] at hs
                    rcases hs with rfl
                    · cases ho
                      obtain ⟨sb, sp, sl, sc, e⟩ := (show Is (num ((Rat.divInt n d).num * d)) (u 5) W from (hM.kd 5)).form
                      exact kPut rfl e ((hM.v 7 23 rfl).trans (hM.loc 0 _ 7 rfl rfl (by kernel_rfl))) (hM.v 5 162 rfl) hc hcs sz24
                   | zk + 1, hk => simp at hk
                  case en14 =>
                   intro u14 lc14 W14 hK14 hB14 hO14 hV14 hX14 hA14
                   have k14_5 := kk (hV14 5 162 rfl) rfl
                   obtain ⟨qr, ho, hl⟩ := hX14 0 _ rfl
                   have e14_7 : u14 7 = .pointer (some ⟨lc14 0, 0, none⟩) := (hl 7 rfl).1
                   have g14_0 := (hl 7 rfl).2
                   obtain ⟨x14_8, y14_8, z14_8, c14_8, es14_8⟩ := k14_5.form
                   have sk14_8 : Is (num ((Rat.divInt n d).num * d)) (.agg #[.bool x14_8, .slice y14_8 z14_8 c14_8]) W14 := by rw [← es14_8]; exact k14_5
                   have q14_0 : W14.heap[(lc14 0)]? = some (.cells #[.bool x14_8, .slice y14_8 z14_8 c14_8] 24) := by
                    rw [contAll_one rfl (cs := #[.bool x14_8, .slice y14_8 z14_8 c14_8]) (by rw [es14_8]; rfl) rfl] at qr; exact qr
                   have q14_1_2 := oth0 hO14 q13_1_2
                   have f14_8 := f13_8.kept hK14
                   have q14_5_0 := oth0 hO14 q13_5_0
                   have f14_11 := f13_11.kept hK14
                   have f14_13 := f13_13.kept hK14
                   have q14_13_0 := oth0 hO14 q13_0
                   have f14_22 := sk13_7.kept hK14
                   simp only [putK, fC, fN, kZ, kS, vV, vA, vK, sI, sZ, sS, e14_7]
                   have hBt14 := hBt13.trans hB14
                   clear hV14 hX14 hA14
                   go_upto_region 20 with fail
                   refine rg (n := 9) (t16 := 48) w.heap.size [] [.val (.agg #[.bool yw2, .slice yx2 yy2 yz2]), .val (.pointer (some ⟨(lc5 0), 2, none⟩)), .val (.agg #[.bool x25_7, .slice y25_7 z25_7 c25_7]), .k (tup2 (.k (num (n * (((Rat.divInt n d).den : Nat) : Int)))) (vZ)), .k (tup2 (.k (num (n * (((Rat.divInt n d).den : Nat) : Int)))) (vZ)), .k (num (n * (((Rat.divInt n d).den : Nat) : Int))), vZ, .any, .any, vZ] [(0, 165), (1, 166), (2, 167), (3, 168), (4, 164), (5, 169), (6, 170), (7, 25), (9, 26)] [⟨24, some 7, 0, pt, 2, [.c #[.bool false, .slice none 0 0]], [(8, 0, 5)]⟩] ?ok15 ?st15 ?al15 ?pu15 ?en15
                   case ok15 => exact BxOK.fresh rfl hBt14.size
                   case st15 =>
                    intro zi zo ho hro a' u lc W hM
                    match zi, ho, hro with
                    | 0, ho, _ => cases ho; exact wn (kL24 rfl (hM.ol 7) (hM.o0 q14_1_2) rfl)
                    | 1, ho, _ => cases ho; exact wn (kField26_1 rfl (hM.ol 11))
                    | 2, ho, _ => cases ho; exact wn (kL24 rfl (hM.d 1 166 rfl) (hM.o0 q14_5_0) rfl)
                    | 3, ho, _ => cases ho; exact wn (kCall2 rfl may49 (hM.d 0 165 rfl) (hM.d 2 167 rfl) (c49 rfl (pw_cap (k := 40 + (40 + 40)) (mul_pw BN.out (fz_div BN.out BD.out HD0.out).2) (by decide)) (f14_8.kept hM.kept) (f14_13.kept hM.kept)))
                    | 4, ho, _ => cases ho; exact wn (kMove rfl (hM.d 3 168 rfl))
                    | 5, ho, _ => cases ho; exact wn (kEx20 rfl (hM.d 4 164 rfl))
                    | 6, ho, _ => cases ho; exact wn (kEx21 rfl (hM.d 4 164 rfl))
                    | 7, _, hro => exact nr1 hro (by kernel_rfl)
                    | 8, _, hro => exact nr1 hro (by kernel_rfl)
                    | 9, ho, _ => cases ho; exact wn (kAssign rfl (hM.d 6 170 rfl))
                    | zk + 10, ho, _ => simp at ho
                   case al15 =>
                    intro zk zb zi zo hk ha ho a' u lc W hM
                    match zk, hk with
                    | 0, hk => cases hk; cases ha; cases ho; exact ⟨rfl, rfl, rfl, rfl, kAlloc24 rfl⟩
                    | zk + 1, hk => simp at hk
                   case pu15 =>
                    intro zk zb zs zo hk hs ho a' u lc W zc hM hc hcs
                    match zk, hk with
                    | 0, hk =>
                     cases hk
                     simp only [List.mem_cons, List.not_mem_nil, or_false] at hs
                     rcases hs with rfl
                     · cases ho
                       obtain ⟨sb, sp, sl, sc, e⟩ := (show Is (num (n * (((Rat.divInt n d).den : Nat) : Int))) (u 5) W from (hM.kd 5)).form
                       exact kPut rfl e ((hM.v 7 25 rfl).trans (hM.loc 0 _ 7 rfl rfl (by kernel_rfl))) (hM.v 5 169 rfl) hc hcs sz24
                    | zk + 1, hk => simp at hk
                   case en15 =>
                    intro u15 lc15 W15 hK15 hB15 hO15 hV15 hX15 hA15
                    have k15_5 := kk (hV15 5 169 rfl) rfl
                    obtain ⟨qr, ho, hl⟩ := hX15 0 _ rfl
                    have e15_7 : u15 7 = .pointer (some ⟨lc15 0, 0, none⟩) := (hl 7 rfl).1
                    have g15_0 := (hl 7 rfl).2
                    obtain ⟨x15_8, y15_8, z15_8, c15_8, es15_8⟩ := k15_5.form
                    have sk15_8 : Is (num (n * (((Rat.divInt n d).den : Nat) : Int))) (.agg #[.bool x15_8, .slice y15_8 z15_8 c15_8]) W15 := by rw [← es15_8]; exact k15_5
                    have q15_0 : W15.heap[(lc15 0)]? = some (.cells #[.bool x15_8, .slice y15_8 z15_8 c15_8] 24) := by
                     rw [contAll_one rfl (cs := #[.bool x15_8, .slice y15_8 z15_8 c15_8]) (by rw [es15_8]; rfl) rfl] at qr; exact qr
                    have q15_5_0 := oth0 hO15 q14_5_0
                    have f15_11 := f14_11.kept hK15
                    have q15_13_0 := oth0 hO15 q14_13_0
                    have f15_22 := f14_22.kept hK15
                    have q15_14_0 := oth0 hO15 q14_0
                    have f15_25 := sk14_8.kept hK15
                    simp only [putK, fC, fN, kZ, kS, vV, vA, vK, sI, sZ, sS, e15_7]
                    have hBt15 := hBt14.trans hB15
                    clear hV15 hX15 hA15
                    go_upto_region 21 with fail
                    refine rg0 (n := 9) (t16 := 48) w.heap.size [vZ, vT, vT, .val (.agg #[.bool x5_7, .slice y5_7 z5_7 c5_7, .bool x25_7, .slice y25_7 z25_7 c25_7]), .val (.agg #[.bool x13_7, .slice y13_7 z13_7 c13_7, .bool x213_7, .slice y213_7 z213_7 c213_7]), vT, vT, vT, vZ, vT, vT, vT, vZ, vT, vT, vT, .val (.agg #[.bool x14_8, .slice y14_8 z14_8 c14_8]), .val (.agg #[.bool x15_8, .slice y15_8 z15_8 c15_8]), vT, vT, vT] [(0, 171), (1, 172), (2, 173), (3, 174), (4, 175), (5, 176), (6, 177), (7, 178), (8, 179), (9, 180), (10, 181), (11, 182), (12, 183), (13, 184), (14, 185), (15, 186), (16, 187), (17, 188), (18, 189), (19, 190), (20, 10)] hBt15.size ?st16 ?en16
                    case st16 =>
                     intro zi zo ho hro a' u lc W hM
                     match zi, ho, hro with
                     | 0, ho, _ => cases ho; exact wn (kMove rfl (hM.ol 22))
                     | 1, ho, _ => cases ho; exact wn (kEql29 rfl (hM.d 0 171 rfl) rfl (by decide))
                     | 2, ho, _ => cases ho; exact wn (kMove rfl (hM.d 1 172 rfl))
                     | 3, ho, _ => cases ho; exact hM.wg (hM.d 2 173 rfl) (kL26 rfl (hM.ol 11) (hM.o0 q15_5_0))
                     | 4, ho, _ => cases ho; exact hM.wg (hM.d 2 173 rfl) (kL26 rfl (hM.ol 21) (hM.o0 q15_13_0))
                     | 5, ho, _ => cases ho; exact hM.wg (hM.d 2 173 rfl) (kCall2 rfl may32 (hM.d 3 174 rfl) (hM.d 4 175 rfl) (c32 ((fz_div BN.out BD.out HD0.out).fs (by decide)) ((fz_div (k := 40 + 40) (mul_pw BN.out BF.out) (mul_pw BD.out BF.out) (Int.mul_ne_zero HD0.out HF0.out)).fs (by decide)) (decide_eq_true (div_both n d HF0.out)) (f15_11.kept hM.kept) (f15_22.kept hM.kept)))
                     | 6, ho, _ => cases ho; exact wn (kPick rfl (hM.d 2 173 rfl) (hM.d 5 176 rfl))
                     | 7, ho, _ => cases ho; exact wn (kMove rfl (hM.d 6 177 rfl))
                     | 8, ho, _ => cases ho; exact hM.wg (hM.d 7 178 rfl) (kMove rfl (hM.ol 24))
                     | 9, ho, _ => cases ho; exact hM.wg (hM.d 7 178 rfl) (kEql29 rfl (hM.d 8 179 rfl) rfl (by decide))
                     | 10, ho, _ => cases ho; exact wn (kPick rfl (hM.d 7 178 rfl) (hM.d 9 180 rfl))
                     | 11, ho, _ => cases ho; exact wn (kMove rfl (hM.d 10 181 rfl))
                     | 12, ho, _ => cases ho; exact hM.wg (hM.d 11 182 rfl) (kMove rfl (hM.ol 26))
                     | 13, ho, _ => cases ho; exact hM.wg (hM.d 11 182 rfl) (kEql29 rfl (hM.d 12 183 rfl) rfl (by decide))
                     | 14, ho, _ => cases ho; exact wn (kPick rfl (hM.d 11 182 rfl) (hM.d 13 184 rfl))
                     | 15, ho, _ => cases ho; exact wn (kMove rfl (hM.d 14 185 rfl))
                     | 16, ho, _ => cases ho; exact hM.wg (hM.d 15 186 rfl) (kL24 rfl (hM.ol 23) (hM.o0 q15_14_0) rfl)
                     | 17, ho, _ => cases ho; exact hM.wg (hM.d 15 186 rfl) (kL24 rfl (hM.ol 25) (hM.o0 q15_0) rfl)
                     | 18, ho, _ => cases ho; exact hM.wg (hM.d 15 186 rfl) (kCall2 rfl may50 (hM.d 16 187 rfl) (hM.d 17 188 rfl) (c50 (decide_eq_true (div_cross HD0.out)) (f15_25.kept hM.kept) (sk15_8.kept hM.kept)))
                     | 19, ho, _ => cases ho; exact wn (kPick rfl (hM.d 15 186 rfl) (hM.d 18 189 rfl))
                     | 20, ho, _ => cases ho; exact wn (kAssign rfl (hM.d 19 190 rfl))
                     | zk + 21, ho, _ => simp at ho
                    case en16 =>
                     intro u16 lc16 W16 hK16 hB16 hO16 hV16 hX16 hA16
                     simp only [putK, fC, fN, kZ, kS, vV, sI, sZ, sS]
                     have hBt16 := hBt15.trans hB16
                     clear hV16 hX16 hA16
                     go_wp2
                     exact bodyPost_ret (v := .bool true) (by simp [results, Tryz.results10, go_sem]) rfl ⟨_, rfl, rfl, hBt16⟩
theorem lowest_no {na0 nb0 na1 nb1 : Bool} {Za0 Zb0 Za1 Zb1 : List Int} {nw2 nw3 nw4 : Bool} {Zw2 Zw3 Zw4 : List Int} {v0 v1 v2 v3 v4 : Value} {w : World} (no : ¬ ((Us na0 Za0 nb0 Zb0 ∧ Us na1 Za1 nb1 Zb1) ∧ Zw2.length ≤ 40 ∧ Zw3.length ≤ 40 ∧ Zw4.length ≤ 40 ∧ okB nw2 Zw2 = true ∧ okB nw3 Zw3 = true ∧ okB nw4 Zw4 = true)) (rl0 : RawL Za0 Zb0) (k0 : Is (frw na0 Za0 nb0 Zb0) v0 w) (rl1 : RawL Za1 Zb1) (k1 : Is (frw na1 Za1 nb1 Zb1) v1 w) (g2 : Zw2.length ≤ 140737488355328) (h2 : Is (raw nw2 Zw2) v2 w) (g3 : Zw3.length ≤ 140737488355328) (h3 : Is (raw nw3 Zw3) v3 w) (g4 : Zw4.length ≤ 140737488355328) (h4 : Is (raw nw4 Zw4) v4 w) : Calls Tryz.prog 10 #[v0, v1, v2, v3, v4] w (Ret (.val (.bool true)) w) := by
 obtain ⟨yp0, yl0, yd0, yq0, ym0, yr0, rfl, _, _⟩ := id k0
 obtain ⟨yp1, yl1, yd1, yq1, ym1, yr1, rfl, _, _⟩ := id k1
 obtain ⟨yx2, yy2, yz2, rfl, hl2⟩ := id h2
 have hc2 := hl2.cells.1
 have HC2 := Lib.hid hc2
 have HL2 := Lib.hid g2
 clear hl2 hc2 g2
 obtain ⟨yx3, yy3, yz3, rfl, hl3⟩ := id h3
 have hc3 := hl3.cells.1
 have HC3 := Lib.hid hc3
 have HL3 := Lib.hid g3
 clear hl3 hc3 g3
 obtain ⟨yx4, yy4, yz4, rfl, hl4⟩ := id h4
 have hc4 := hl4.cells.1
 have HC4 := Lib.hid hc4
 have HL4 := Lib.hid g4
 clear hl4 hc4 g4
 have HNO := Lib.hid no
 have HRL0 := Lib.hid rl0
 have HRL1 := Lib.hid rl1
 clear no rl0 rl1
 have hB0 := Below.refl w.heap.size w
 go_enter Tryz.func10, Tryz.ntmps10
 go_upto_region 0 with fail
 refine rg (n := 9) (t16 := 48) w.heap.size [] [.any, .any, .any, .any, .any, vF] [(0, 5), (1, 6), (2, 7), (3, 8), (4, 9), (5, 10)] [⟨26, some 0, 0, pt, 4, [.c #[.bool na0, .slice yp0 yl0 yd0, .bool nb0, .slice yq0 ym0 yr0]], []⟩, ⟨26, some 1, 0, pt, 4, [.c #[.bool na1, .slice yp1 yl1 yd1, .bool nb1, .slice yq1 ym1 yr1]], []⟩, ⟨24, some 2, 0, pt, 2, [.c #[.bool nw2, .slice yx2 yy2 yz2]], []⟩, ⟨24, some 3, 0, pt, 2, [.c #[.bool nw3, .slice yx3 yy3 yz3]], []⟩, ⟨24, some 4, 0, pt, 2, [.c #[.bool nw4, .slice yx4 yy4 yz4]], []⟩] ?ok1 ?st1 ?al1 ?pu1 ?en1
 case ok1 => exact BxOK.fresh rfl hB0.size
 case st1 =>
  intro zi zo ho hro a' u lc W hM
  match zi, ho, hro with
  | 0, _, hro => exact nr1 hro (by kernel_rfl)
  | 1, _, hro => exact nr1 hro (by kernel_rfl)
  | 2, _, hro => exact nr1 hro (by kernel_rfl)
  | 3, _, hro => exact nr1 hro (by kernel_rfl)
  | 4, _, hro => exact nr1 hro (by kernel_rfl)
  | 5, ho, _ => cases ho; exact wn (kAssign rfl rfl)
  | zk + 6, ho, _ => simp at ho
 case al1 =>
  intro zk zb zi zo hk ha ho a' u lc W hM
  match zk, hk with
  | 0, hk => cases hk; cases ha; cases ho; exact ⟨rfl, rfl, rfl, rfl, kBox rfl (hM.ol 0)⟩
  | 1, hk => cases hk; cases ha; cases ho; exact ⟨rfl, rfl, rfl, rfl, kBox rfl (hM.ol 1)⟩
  | 2, hk => cases hk; cases ha; cases ho; exact ⟨rfl, rfl, rfl, rfl, kBox rfl (hM.ol 2)⟩
  | 3, hk => cases hk; cases ha; cases ho; exact ⟨rfl, rfl, rfl, rfl, kBox rfl (hM.ol 3)⟩
  | 4, hk => cases hk; cases ha; cases ho; exact ⟨rfl, rfl, rfl, rfl, kBox rfl (hM.ol 4)⟩
  | zk + 5, hk => simp at hk
 case pu1 =>
  intro zk zb zs zo hk hs ho a' u lc W zc hM hc hcs
  match zk, hk with
  | 0, hk => cases hk; simp at hs
  | 1, hk => cases hk; simp at hs
  | 2, hk => cases hk; simp at hs
  | 3, hk => cases hk; simp at hs
  | 4, hk => cases hk; simp at hs
  | zk + 5, hk => simp at hk
 case en1 =>
  intro u1 lc1 W1 hK1 hB1 hO1 hV1 hX1 hA1
  obtain ⟨qr, ho, hl⟩ := hX1 0 _ rfl
  have e1_0 : u1 0 = .pointer (some ⟨lc1 0, 0, none⟩) := (hl 0 rfl).1
  have g1_0 := (hl 0 rfl).2
  have f1_0 := k0.kept hK1
  have q1_0 : W1.heap[(lc1 0)]? = some (.cells #[.bool na0, .slice yp0 yl0 yd0, .bool nb0, .slice yq0 ym0 yr0] 26) := by
   exact qr
  obtain ⟨qr, ho, hl⟩ := hX1 1 _ rfl
  have e1_1 : u1 1 = .pointer (some ⟨lc1 1, 0, none⟩) := (hl 1 rfl).1
  have g1_1 := (hl 1 rfl).2
  have f1_1 := k1.kept hK1
  have q1_1 : W1.heap[(lc1 1)]? = some (.cells #[.bool na1, .slice yp1 yl1 yd1, .bool nb1, .slice yq1 ym1 yr1] 26) := by
   exact qr
  obtain ⟨qr, ho, hl⟩ := hX1 2 _ rfl
  have e1_2 : u1 2 = .pointer (some ⟨lc1 2, 0, none⟩) := (hl 2 rfl).1
  have g1_2 := (hl 2 rfl).2
  have f1_2 := h2.kept hK1
  have q1_2 : W1.heap[(lc1 2)]? = some (.cells #[.bool nw2, .slice yx2 yy2 yz2] 24) := by
   exact qr
  obtain ⟨qr, ho, hl⟩ := hX1 3 _ rfl
  have e1_3 : u1 3 = .pointer (some ⟨lc1 3, 0, none⟩) := (hl 3 rfl).1
  have g1_3 := (hl 3 rfl).2
  have f1_3 := h3.kept hK1
  have q1_3 : W1.heap[(lc1 3)]? = some (.cells #[.bool nw3, .slice yx3 yy3 yz3] 24) := by
   exact qr
  obtain ⟨qr, ho, hl⟩ := hX1 4 _ rfl
  have e1_4 : u1 4 = .pointer (some ⟨lc1 4, 0, none⟩) := (hl 4 rfl).1
  have g1_4 := (hl 4 rfl).2
  have f1_4 := h4.kept hK1
  have q1_4 : W1.heap[(lc1 4)]? = some (.cells #[.bool nw4, .slice yx4 yy4 yz4] 24) := by
   exact qr
  simp only [putK, fC, fN, kZ, kS, vV, vA, sI, sZ, sS, e1_0, e1_1, e1_2, e1_3, e1_4]
  have hBt1 := hB0.trans hB1
  clear hV1 hX1 hA1
  go_upto_region 1 with fail
  refine rg0 (n := 9) (t16 := 48) w.heap.size [vT, vF] [(0, 27), (1, 28)] hBt1.size ?st2 ?en2
  case st2 =>
   intro zi zo ho hro a' u lc W hM
   match zi, ho, hro with
   | 0, ho, _ => cases ho; exact wn (kCall0 rfl may16 (c16))
   | 1, ho, _ => cases ho; exact wn (kNot rfl (hM.d 0 27 rfl) rfl)
   | zk + 2, ho, _ => simp at ho
  case en2 =>
   intro u2 lc2 W2 hK2 hB2 hO2 hV2 hX2 hA2
   have q2_1_0 := oth0 hO2 q1_0
   have f2_0 := f1_0.kept hK2
   have q2_1_1 := oth0 hO2 q1_1
   have f2_1 := f1_1.kept hK2
   have q2_1_2 := oth0 hO2 q1_2
   have f2_2 := f1_2.kept hK2
   have q2_1_3 := oth0 hO2 q1_3
   have f2_3 := f1_3.kept hK2
   have q2_1_4 := oth0 hO2 q1_4
   have f2_4 := f1_4.kept hK2
   simp only [putK, fC, fN, kZ, kS, vV, sI, sZ, sS]
   have hBt2 := hBt1.trans hB2
   clear hV2 hX2 hA2
   go_upto_region 3 with fail
   by_cases hu : Us na0 Za0 nb0 Zb0 ∧ Us na1 Za1 nb1 Zb1
   · have HU := Lib.hid hu
     clear hu
     by_cases hw2 : Zw2.length ≤ 40
     · have HW2 := Lib.hid hw2
       clear hw2
       by_cases hw3 : Zw3.length ≤ 40
       · have HW3 := Lib.hid hw3
         clear hw3
         by_cases hw4 : Zw4.length ≤ 40
         · have HW4 := Lib.hid hw4
           clear hw4
           by_cases hk2 : okB nw2 Zw2 = true
           · have HK2 := Lib.hid hk2
             clear hk2
             by_cases hk3 : okB nw3 Zw3 = true
             · have HK3 := Lib.hid hk3
               clear hk3
               by_cases hk4 : okB nw4 Zw4 = true
               · have HK4 := Lib.hid hk4
                 clear hk4
                 exact absurd ⟨HU.out, HW2.out, HW3.out, HW4.out, HK2.out, HK3.out, HK4.out⟩ HNO.out
               · have HK4 := Lib.hid hk4
                 clear hk4
                 refine rg (n := 9) (t16 := 48) w.heap.size [] [.val (.agg #[.bool na0, .slice yp0 yl0 yd0, .bool nb0, .slice yq0 ym0 yr0]), .val (.agg #[.bool na1, .slice yp1 yl1 yd1, .bool nb1, .slice yq1 ym1 yr1]), .any, vT, vF, vF, .val (.pointer (some ⟨(lc1 2), 1, none⟩)), .val (.slice yx2 yy2 yz2), .val (.int .i64 ((yy2 : Nat) : Int)), vF, vF, vF, .val (.pointer (some ⟨(lc1 3), 1, none⟩)), .val (.slice yx3 yy3 yz3), .val (.int .i64 ((yy3 : Nat) : Int)), vF, vF, vF, .val (.pointer (some ⟨(lc1 4), 1, none⟩)), .val (.slice yx4 yy4 yz4), .val (.int .i64 ((yy4 : Nat) : Int)), vF, vF, vF, .val (.agg #[.bool nw2, .slice yx2 yy2 yz2]), vT, vF, vF, vF, .val (.agg #[.bool nw3, .slice yx3 yy3 yz3]), vT, vF, vF, vF, .val (.agg #[.bool nw4, .slice yx4 yy4 yz4]), vF, vT, vT] [(0, 29), (1, 30), (2, 31), (3, 32), (4, 33), (5, 34), (6, 35), (7, 36), (8, 37), (9, 38), (10, 39), (11, 40), (12, 41), (13, 42), (14, 43), (15, 44), (16, 45), (17, 46), (18, 47), (19, 48), (20, 49), (21, 50), (22, 51), (23, 52), (24, 53), (25, 54), (26, 55), (27, 56), (28, 57), (29, 58), (30, 59), (31, 60), (32, 61), (33, 62), (34, 63), (35, 64), (36, 65), (37, 66)] [⟨26, some 2, 0, fun B => .slice (some ⟨B, 0, none⟩) 2 2, 8, [.c #[.bool na0, .slice yp0 yl0 yd0, .bool nb0, .slice yq0 ym0 yr0, .bool na1, .slice yp1 yl1 yd1, .bool nb1, .slice yq1 ym1 yr1]], []⟩] ?ok3 ?st3 ?al3 ?pu3 ?en3
                 case ok3 => exact BxOK.fresh rfl hBt2.size
                 case st3 =>
                  intro zi zo ho hro a' u lc W hM
                  match zi, ho, hro with
                  | 0, ho, _ => cases ho; exact wn (kL26 rfl (hM.ol 5) (hM.o0 q2_1_0))
                  | 1, ho, _ => cases ho; exact wn (kL26 rfl (hM.ol 6) (hM.o0 q2_1_1))
                  | 2, _, hro => exact nr1 hro (by kernel_rfl)
                  | 3, ho, _ => cases ho; exact wn (kCall1 rfl may31 ((hM.v 2 31 rfl).trans (hM.loc 0 _ 2 rfl rfl (by kernel_rfl))) (usable2 (hM.full 0 _ rfl (by kernel_rfl) rfl) (f2_0.kept hM.kept) (f2_1.kept hM.kept) HRL0.out HRL1.out ⟨fun _ => HU.out, fun _ => rfl⟩))
                  | 4, ho, _ => cases ho; exact wn (kNot rfl (hM.d 3 32 rfl) rfl)
                  | 5, ho, _ => cases ho; exact wn (kMove rfl (hM.d 4 33 rfl))
                  | 6, ho, _ => cases ho; exact hM.wg (hM.d 5 34 rfl) (kField24_1 rfl (hM.ol 7))
                  | 7, ho, _ => cases ho; exact hM.wg (hM.d 5 34 rfl) (kLoad1 Tryz.underlying22 rfl rfl (hM.d 6 35 rfl) (hM.o0 q2_1_2) rfl rfl)
                  | 8, ho, _ => cases ho; exact hM.wg (hM.d 5 34 rfl) (kLen rfl (hM.d 7 36 rfl))
                  | 9, ho, _ => cases ho; exact hM.wg (hM.d 5 34 rfl) (kGtr3 rfl (hM.d 8 37 rfl) rfl (decide_eq_false (by have := HC2.out; have := HW2.out; omega)))
                  | 10, ho, _ => cases ho; exact wn (kPick rfl (hM.d 5 34 rfl) (hM.d 9 38 rfl))
                  | 11, ho, _ => cases ho; exact wn (kMove rfl (hM.d 10 39 rfl))
                  | 12, ho, _ => cases ho; exact hM.wg (hM.d 11 40 rfl) (kField24_1 rfl (hM.ol 8))
                  | 13, ho, _ => cases ho; exact hM.wg (hM.d 11 40 rfl) (kLoad1 Tryz.underlying22 rfl rfl (hM.d 12 41 rfl) (hM.o0 q2_1_3) rfl rfl)
                  | 14, ho, _ => cases ho; exact hM.wg (hM.d 11 40 rfl) (kLen rfl (hM.d 13 42 rfl))
                  | 15, ho, _ => cases ho; exact hM.wg (hM.d 11 40 rfl) (kGtr3 rfl (hM.d 14 43 rfl) rfl (decide_eq_false (by have := HC3.out; have := HW3.out; omega)))
                  | 16, ho, _ => cases ho; exact wn (kPick rfl (hM.d 11 40 rfl) (hM.d 15 44 rfl))
                  | 17, ho, _ => cases ho; exact wn (kMove rfl (hM.d 16 45 rfl))
                  | 18, ho, _ => cases ho; exact hM.wg (hM.d 17 46 rfl) (kField24_1 rfl (hM.ol 9))
                  | 19, ho, _ => cases ho; exact hM.wg (hM.d 17 46 rfl) (kLoad1 Tryz.underlying22 rfl rfl (hM.d 18 47 rfl) (hM.o0 q2_1_4) rfl rfl)
                  | 20, ho, _ => cases ho; exact hM.wg (hM.d 17 46 rfl) (kLen rfl (hM.d 19 48 rfl))
                  | 21, ho, _ => cases ho; exact hM.wg (hM.d 17 46 rfl) (kGtr3 rfl (hM.d 20 49 rfl) rfl (decide_eq_false (by have := HC4.out; have := HW4.out; omega)))
                  | 22, ho, _ => cases ho; exact wn (kPick rfl (hM.d 17 46 rfl) (hM.d 21 50 rfl))
                  | 23, ho, _ => cases ho; exact wn (kMove rfl (hM.d 22 51 rfl))
                  | 24, ho, _ => cases ho; exact hM.wg (hM.d 23 52 rfl) (kL24 rfl (hM.ol 7) (hM.o0 q2_1_2) rfl)
                  | 25, ho, _ => cases ho; exact hM.wg (hM.d 23 52 rfl) (kCall1 rfl may43 (hM.d 24 53 rfl) (c43 HL2.out HK2.out (f2_2.kept hM.kept)))
                  | 26, ho, _ => cases ho; exact hM.wg (hM.d 23 52 rfl) (kNot rfl (hM.d 25 54 rfl) rfl)
                  | 27, ho, _ => cases ho; exact wn (kPick rfl (hM.d 23 52 rfl) (hM.d 26 55 rfl))
                  | 28, ho, _ => cases ho; exact wn (kMove rfl (hM.d 27 56 rfl))
                  | 29, ho, _ => cases ho; exact hM.wg (hM.d 28 57 rfl) (kL24 rfl (hM.ol 8) (hM.o0 q2_1_3) rfl)
                  | 30, ho, _ => cases ho; exact hM.wg (hM.d 28 57 rfl) (kCall1 rfl may43 (hM.d 29 58 rfl) (c43 HL3.out HK3.out (f2_3.kept hM.kept)))
                  | 31, ho, _ => cases ho; exact hM.wg (hM.d 28 57 rfl) (kNot rfl (hM.d 30 59 rfl) rfl)
                  | 32, ho, _ => cases ho; exact wn (kPick rfl (hM.d 28 57 rfl) (hM.d 31 60 rfl))
                  | 33, ho, _ => cases ho; exact wn (kMove rfl (hM.d 32 61 rfl))
                  | 34, ho, _ => cases ho; exact hM.wg (hM.d 33 62 rfl) (kL24 rfl (hM.ol 9) (hM.o0 q2_1_4) rfl)
                  | 35, ho, _ => cases ho; exact hM.wg (hM.d 33 62 rfl) (kCall1 rfl may43 (hM.d 34 63 rfl) (c43 HL4.out (Bool.eq_false_iff.2 HK4.out) (f2_4.kept hM.kept)))
                  | 36, ho, _ => cases ho; exact hM.wg (hM.d 33 62 rfl) (kNot rfl (hM.d 35 64 rfl) rfl)
                  | 37, ho, _ => cases ho; exact wn (kPick rfl (hM.d 33 62 rfl) (hM.d 36 65 rfl))
                  | zk + 38, ho, _ => simp at ho
                 case al3 =>
                  intro zk zb zi zo hk ha ho a' u lc W hM
                  match zk, hk with
                  | 0, hk => cases hk; cases ha; cases ho; exact ⟨rfl, rfl, rfl, rfl, kSlice2 rfl (hM.d 0 29 rfl) (hM.d 1 30 rfl)⟩
                  | zk + 1, hk => simp at hk
                 case pu3 =>
                  intro zk zb zs zo hk hs ho a' u lc W zc hM hc hcs
                  match zk, hk with
                  | 0, hk => cases hk; simp at hs
                  | zk + 1, hk => simp at hk
                 case en3 =>
                  intro u3 lc3 W3 hK3 hB3 hO3 hV3 hX3 hA3
                  obtain ⟨qr, ho, hl⟩ := hX3 0 _ rfl
                  have e3_2 : u3 2 = .slice (some ⟨lc3 0, 0, none⟩) 2 2 := (hl 2 rfl).1
                  have g3_0 := (hl 2 rfl).2
                  simp only [putK, fC, fN, kZ, kS, vV, vA, sI, sZ, sS, e3_2]
                  have hBt3 := hBt2.trans hB3
                  clear hV3 hX3 hA3
                  go_upto_region 4 with fail
                  refine rg0 (n := 9) (t16 := 48) w.heap.size [vT] [(0, 10)] hBt3.size ?st4 ?en4
                  case st4 =>
                   intro zi zo ho hro a' u lc W hM
                   match zi, ho, hro with
                   | 0, ho, _ => cases ho; exact wn (kAssign rfl rfl)
                   | zk + 1, ho, _ => simp at ho
                  case en4 =>
                   intro u4 lc4 W4 hK4 hB4 hO4 hV4 hX4 hA4
                   simp only [putK, fC, fN, kZ, vV, sI, sZ, sS]
                   have hBt4 := hBt3.trans hB4
                   clear hV4 hX4 hA4
                   go_wp2
                   exact bodyPost_ret (v := .bool true) (by simp [results, Tryz.results10, go_sem]) rfl ⟨_, rfl, rfl, hBt4⟩
             · have HK3 := Lib.hid hk3
               clear hk3
               refine rg (n := 9) (t16 := 48) w.heap.size [] [.val (.agg #[.bool na0, .slice yp0 yl0 yd0, .bool nb0, .slice yq0 ym0 yr0]), .val (.agg #[.bool na1, .slice yp1 yl1 yd1, .bool nb1, .slice yq1 ym1 yr1]), .any, vT, vF, vF, .val (.pointer (some ⟨(lc1 2), 1, none⟩)), .val (.slice yx2 yy2 yz2), .val (.int .i64 ((yy2 : Nat) : Int)), vF, vF, vF, .val (.pointer (some ⟨(lc1 3), 1, none⟩)), .val (.slice yx3 yy3 yz3), .val (.int .i64 ((yy3 : Nat) : Int)), vF, vF, vF, .val (.pointer (some ⟨(lc1 4), 1, none⟩)), .val (.slice yx4 yy4 yz4), .val (.int .i64 ((yy4 : Nat) : Int)), vF, vF, vF, .val (.agg #[.bool nw2, .slice yx2 yy2 yz2]), vT, vF, vF, vF, .val (.agg #[.bool nw3, .slice yx3 yy3 yz3]), vF, vT, vT, vT, .any, .any, .any, vT] [(0, 29), (1, 30), (2, 31), (3, 32), (4, 33), (5, 34), (6, 35), (7, 36), (8, 37), (9, 38), (10, 39), (11, 40), (12, 41), (13, 42), (14, 43), (15, 44), (16, 45), (17, 46), (18, 47), (19, 48), (20, 49), (21, 50), (22, 51), (23, 52), (24, 53), (25, 54), (26, 55), (27, 56), (28, 57), (29, 58), (30, 59), (31, 60), (32, 61), (33, 62), (34, 63), (35, 64), (36, 65), (37, 66)] [⟨26, some 2, 0, fun B => .slice (some ⟨B, 0, none⟩) 2 2, 8, [.c #[.bool na0, .slice yp0 yl0 yd0, .bool nb0, .slice yq0 ym0 yr0, .bool na1, .slice yp1 yl1 yd1, .bool nb1, .slice yq1 ym1 yr1]], []⟩] ?ok3 ?st3 ?al3 ?pu3 ?en3
               case ok3 => exact BxOK.fresh rfl hBt2.size
               case st3 =>
                intro zi zo ho hro a' u lc W hM
                match zi, ho, hro with
                | 0, ho, _ => cases ho; exact wn (kL26 rfl (hM.ol 5) (hM.o0 q2_1_0))
                | 1, ho, _ => cases ho; exact wn (kL26 rfl (hM.ol 6) (hM.o0 q2_1_1))
                | 2, _, hro => exact nr1 hro (by kernel_rfl)
                | 3, ho, _ => cases ho; exact wn (kCall1 rfl may31 ((hM.v 2 31 rfl).trans (hM.loc 0 _ 2 rfl rfl (by kernel_rfl))) (usable2 (hM.full 0 _ rfl (by kernel_rfl) rfl) (f2_0.kept hM.kept) (f2_1.kept hM.kept) HRL0.out HRL1.out ⟨fun _ => HU.out, fun _ => rfl⟩))
                | 4, ho, _ => cases ho; exact wn (kNot rfl (hM.d 3 32 rfl) rfl)
                | 5, ho, _ => cases ho; exact wn (kMove rfl (hM.d 4 33 rfl))
                | 6, ho, _ => cases ho; exact hM.wg (hM.d 5 34 rfl) (kField24_1 rfl (hM.ol 7))
                | 7, ho, _ => cases ho; exact hM.wg (hM.d 5 34 rfl) (kLoad1 Tryz.underlying22 rfl rfl (hM.d 6 35 rfl) (hM.o0 q2_1_2) rfl rfl)
                | 8, ho, _ => cases ho; exact hM.wg (hM.d 5 34 rfl) (kLen rfl (hM.d 7 36 rfl))
                | 9, ho, _ => cases ho; exact hM.wg (hM.d 5 34 rfl) (kGtr3 rfl (hM.d 8 37 rfl) rfl (decide_eq_false (by have := HC2.out; have := HW2.out; omega)))
                | 10, ho, _ => cases ho; exact wn (kPick rfl (hM.d 5 34 rfl) (hM.d 9 38 rfl))
                | 11, ho, _ => cases ho; exact wn (kMove rfl (hM.d 10 39 rfl))
                | 12, ho, _ => cases ho; exact hM.wg (hM.d 11 40 rfl) (kField24_1 rfl (hM.ol 8))
                | 13, ho, _ => cases ho; exact hM.wg (hM.d 11 40 rfl) (kLoad1 Tryz.underlying22 rfl rfl (hM.d 12 41 rfl) (hM.o0 q2_1_3) rfl rfl)
                | 14, ho, _ => cases ho; exact hM.wg (hM.d 11 40 rfl) (kLen rfl (hM.d 13 42 rfl))
                | 15, ho, _ => cases ho; exact hM.wg (hM.d 11 40 rfl) (kGtr3 rfl (hM.d 14 43 rfl) rfl (decide_eq_false (by have := HC3.out; have := HW3.out; omega)))
                | 16, ho, _ => cases ho; exact wn (kPick rfl (hM.d 11 40 rfl) (hM.d 15 44 rfl))
                | 17, ho, _ => cases ho; exact wn (kMove rfl (hM.d 16 45 rfl))
                | 18, ho, _ => cases ho; exact hM.wg (hM.d 17 46 rfl) (kField24_1 rfl (hM.ol 9))
                | 19, ho, _ => cases ho; exact hM.wg (hM.d 17 46 rfl) (kLoad1 Tryz.underlying22 rfl rfl (hM.d 18 47 rfl) (hM.o0 q2_1_4) rfl rfl)
                | 20, ho, _ => cases ho; exact hM.wg (hM.d 17 46 rfl) (kLen rfl (hM.d 19 48 rfl))
                | 21, ho, _ => cases ho; exact hM.wg (hM.d 17 46 rfl) (kGtr3 rfl (hM.d 20 49 rfl) rfl (decide_eq_false (by have := HC4.out; have := HW4.out; omega)))
                | 22, ho, _ => cases ho; exact wn (kPick rfl (hM.d 17 46 rfl) (hM.d 21 50 rfl))
                | 23, ho, _ => cases ho; exact wn (kMove rfl (hM.d 22 51 rfl))
                | 24, ho, _ => cases ho; exact hM.wg (hM.d 23 52 rfl) (kL24 rfl (hM.ol 7) (hM.o0 q2_1_2) rfl)
                | 25, ho, _ => cases ho; exact hM.wg (hM.d 23 52 rfl) (kCall1 rfl may43 (hM.d 24 53 rfl) (c43 HL2.out HK2.out (f2_2.kept hM.kept)))
                | 26, ho, _ => cases ho; exact hM.wg (hM.d 23 52 rfl) (kNot rfl (hM.d 25 54 rfl) rfl)
                | 27, ho, _ => cases ho; exact wn (kPick rfl (hM.d 23 52 rfl) (hM.d 26 55 rfl))
                | 28, ho, _ => cases ho; exact wn (kMove rfl (hM.d 27 56 rfl))
                | 29, ho, _ => cases ho; exact hM.wg (hM.d 28 57 rfl) (kL24 rfl (hM.ol 8) (hM.o0 q2_1_3) rfl)
                | 30, ho, _ => cases ho; exact hM.wg (hM.d 28 57 rfl) (kCall1 rfl may43 (hM.d 29 58 rfl) (c43 HL3.out (Bool.eq_false_iff.2 HK3.out) (f2_3.kept hM.kept)))
                | 31, ho, _ => cases ho; exact hM.wg (hM.d 28 57 rfl) (kNot rfl (hM.d 30 59 rfl) rfl)
                | 32, ho, _ => cases ho; exact wn (kPick rfl (hM.d 28 57 rfl) (hM.d 31 60 rfl))
                | 33, ho, _ => cases ho; exact wn (kMove rfl (hM.d 32 61 rfl))
                | 34, ho, _ => cases ho; exact hM.wz (hM.d 33 62 rfl)
                | 35, ho, _ => cases ho; exact hM.wz (hM.d 33 62 rfl)
                | 36, ho, _ => cases ho; exact hM.wz (hM.d 33 62 rfl)
                | 37, ho, _ => cases ho; exact wn (kPick rfl (hM.d 33 62 rfl) rfl)
                | zk + 38, ho, _ => simp at ho
               case al3 =>
                intro zk zb zi zo hk ha ho a' u lc W hM
                match zk, hk with
                | 0, hk => cases hk; cases ha; cases ho; exact ⟨rfl, rfl, rfl, rfl, kSlice2 rfl (hM.d 0 29 rfl) (hM.d 1 30 rfl)⟩
                | zk + 1, hk => simp at hk
               case pu3 =>
                intro zk zb zs zo hk hs ho a' u lc W zc hM hc hcs
                match zk, hk with
                | 0, hk => cases hk; simp at hs
                | zk + 1, hk => simp at hk
               case en3 =>
                intro u3 lc3 W3 hK3 hB3 hO3 hV3 hX3 hA3
                obtain ⟨qr, ho, hl⟩ := hX3 0 _ rfl
                have e3_2 : u3 2 = .slice (some ⟨lc3 0, 0, none⟩) 2 2 := (hl 2 rfl).1
                have g3_0 := (hl 2 rfl).2
                simp only [putK, fC, fN, kZ, kS, vV, vA, sI, sZ, sS, e3_2]
                have hBt3 := hBt2.trans hB3
                clear hV3 hX3 hA3
                go_upto_region 4 with fail
                refine rg0 (n := 9) (t16 := 48) w.heap.size [vT] [(0, 10)] hBt3.size ?st4 ?en4
                case st4 =>
                 intro zi zo ho hro a' u lc W hM
                 match zi, ho, hro with
                 | 0, ho, _ => cases ho; exact wn (kAssign rfl rfl)
                 | zk + 1, ho, _ => simp at ho
                case en4 =>
                 intro u4 lc4 W4 hK4 hB4 hO4 hV4 hX4 hA4
                 simp only [putK, fC, fN, kZ, vV, sI, sZ, sS]
                 have hBt4 := hBt3.trans hB4
                 clear hV4 hX4 hA4
                 go_wp2
                 exact bodyPost_ret (v := .bool true) (by simp [results, Tryz.results10, go_sem]) rfl ⟨_, rfl, rfl, hBt4⟩
           · have HK2 := Lib.hid hk2
             clear hk2
             refine rg (n := 9) (t16 := 48) w.heap.size [] [.val (.agg #[.bool na0, .slice yp0 yl0 yd0, .bool nb0, .slice yq0 ym0 yr0]), .val (.agg #[.bool na1, .slice yp1 yl1 yd1, .bool nb1, .slice yq1 ym1 yr1]), .any, vT, vF, vF, .val (.pointer (some ⟨(lc1 2), 1, none⟩)), .val (.slice yx2 yy2 yz2), .val (.int .i64 ((yy2 : Nat) : Int)), vF, vF, vF, .val (.pointer (some ⟨(lc1 3), 1, none⟩)), .val (.slice yx3 yy3 yz3), .val (.int .i64 ((yy3 : Nat) : Int)), vF, vF, vF, .val (.pointer (some ⟨(lc1 4), 1, none⟩)), .val (.slice yx4 yy4 yz4), .val (.int .i64 ((yy4 : Nat) : Int)), vF, vF, vF, .val (.agg #[.bool nw2, .slice yx2 yy2 yz2]), vF, vT, vT, vT, .any, .any, .any, vT, vT, .any, .any, .any, vT] [(0, 29), (1, 30), (2, 31), (3, 32), (4, 33), (5, 34), (6, 35), (7, 36), (8, 37), (9, 38), (10, 39), (11, 40), (12, 41), (13, 42), (14, 43), (15, 44), (16, 45), (17, 46), (18, 47), (19, 48), (20, 49), (21, 50), (22, 51), (23, 52), (24, 53), (25, 54), (26, 55), (27, 56), (28, 57), (29, 58), (30, 59), (31, 60), (32, 61), (33, 62), (34, 63), (35, 64), (36, 65), (37, 66)] [⟨26, some 2, 0, fun B => .slice (some ⟨B, 0, none⟩) 2 2, 8, [.c #[.bool na0, .slice yp0 yl0 yd0, .bool nb0, .slice yq0 ym0 yr0, .bool na1, .slice yp1 yl1 yd1, .bool nb1, .slice yq1 ym1 yr1]], []⟩] ?ok3 ?st3 ?al3 ?pu3 ?en3
             case ok3 => exact BxOK.fresh rfl hBt2.size
             case st3 =>
              intro zi zo ho hro a' u lc W hM
              match zi, ho, hro with
              | 0, ho, _ => cases ho; exact wn (kL26 rfl (hM.ol 5) (hM.o0 q2_1_0))
              | 1, ho, _ => cases ho; exact wn (kL26 rfl (hM.ol 6) (hM.o0 q2_1_1))
              | 2, _, hro => exact nr1 hro (by kernel_rfl)
              | 3, ho, _ => cases ho; exact wn (kCall1 rfl may31 ((hM.v 2 31 rfl).trans (hM.loc 0 _ 2 rfl rfl (by kernel_rfl))) (usable2 (hM.full 0 _ rfl (by kernel_rfl) rfl) (f2_0.kept hM.kept) (f2_1.kept hM.kept) HRL0.out HRL1.out ⟨fun _ => HU.out, fun _ => rfl⟩))
              | 4, ho, _ => cases ho; exact wn (kNot rfl (hM.d 3 32 rfl) rfl)
              | 5, ho, _ => cases ho; exact wn (kMove rfl (hM.d 4 33 rfl))
              | 6, ho, _ => cases ho; exact hM.wg (hM.d 5 34 rfl) (kField24_1 rfl (hM.ol 7))
              | 7, ho, _ => cases ho; exact hM.wg (hM.d 5 34 rfl) (kLoad1 Tryz.underlying22 rfl rfl (hM.d 6 35 rfl) (hM.o0 q2_1_2) rfl rfl)
              | 8, ho, _ => cases ho; exact hM.wg (hM.d 5 34 rfl) (kLen rfl (hM.d 7 36 rfl))
              | 9, ho, _ => cases ho; exact hM.wg (hM.d 5 34 rfl) (kGtr3 rfl (hM.d 8 37 rfl) rfl (decide_eq_false (by have := HC2.out; have := HW2.out; omega)))
              | 10, ho, _ => cases ho; exact wn (kPick rfl (hM.d 5 34 rfl) (hM.d 9 38 rfl))
              | 11, ho, _ => cases ho; exact wn (kMove rfl (hM.d 10 39 rfl))
              | 12, ho, _ => cases ho; exact hM.wg (hM.d 11 40 rfl) (kField24_1 rfl (hM.ol 8))
              | 13, ho, _ => cases ho; exact hM.wg (hM.d 11 40 rfl) (kLoad1 Tryz.underlying22 rfl rfl (hM.d 12 41 rfl) (hM.o0 q2_1_3) rfl rfl)
              | 14, ho, _ => cases ho; exact hM.wg (hM.d 11 40 rfl) (kLen rfl (hM.d 13 42 rfl))
              | 15, ho, _ => cases ho; exact hM.wg (hM.d 11 40 rfl) (kGtr3 rfl (hM.d 14 43 rfl) rfl (decide_eq_false (by have := HC3.out; have := HW3.out; omega)))
              | 16, ho, _ => cases ho; exact wn (kPick rfl (hM.d 11 40 rfl) (hM.d 15 44 rfl))
              | 17, ho, _ => cases ho; exact wn (kMove rfl (hM.d 16 45 rfl))
              | 18, ho, _ => cases ho; exact hM.wg (hM.d 17 46 rfl) (kField24_1 rfl (hM.ol 9))
              | 19, ho, _ => cases ho; exact hM.wg (hM.d 17 46 rfl) (kLoad1 Tryz.underlying22 rfl rfl (hM.d 18 47 rfl) (hM.o0 q2_1_4) rfl rfl)
              | 20, ho, _ => cases ho; exact hM.wg (hM.d 17 46 rfl) (kLen rfl (hM.d 19 48 rfl))
              | 21, ho, _ => cases ho; exact hM.wg (hM.d 17 46 rfl) (kGtr3 rfl (hM.d 20 49 rfl) rfl (decide_eq_false (by have := HC4.out; have := HW4.out; omega)))
              | 22, ho, _ => cases ho; exact wn (kPick rfl (hM.d 17 46 rfl) (hM.d 21 50 rfl))
              | 23, ho, _ => cases ho; exact wn (kMove rfl (hM.d 22 51 rfl))
              | 24, ho, _ => cases ho; exact hM.wg (hM.d 23 52 rfl) (kL24 rfl (hM.ol 7) (hM.o0 q2_1_2) rfl)
              | 25, ho, _ => cases ho; exact hM.wg (hM.d 23 52 rfl) (kCall1 rfl may43 (hM.d 24 53 rfl) (c43 HL2.out (Bool.eq_false_iff.2 HK2.out) (f2_2.kept hM.kept)))
              | 26, ho, _ => cases ho; exact hM.wg (hM.d 23 52 rfl) (kNot rfl (hM.d 25 54 rfl) rfl)
              | 27, ho, _ => cases ho; exact wn (kPick rfl (hM.d 23 52 rfl) (hM.d 26 55 rfl))
              | 28, ho, _ => cases ho; exact wn (kMove rfl (hM.d 27 56 rfl))
              | 29, ho, _ => cases ho; exact hM.wz (hM.d 28 57 rfl)
              | 30, ho, _ => cases ho; exact hM.wz (hM.d 28 57 rfl)
              | 31, ho, _ => cases ho; exact hM.wz (hM.d 28 57 rfl)
              | 32, ho, _ => cases ho; exact wn (kPick rfl (hM.d 28 57 rfl) rfl)
              | 33, ho, _ => cases ho; exact wn (kMove rfl (hM.d 32 61 rfl))
              | 34, ho, _ => cases ho; exact hM.wz (hM.d 33 62 rfl)
              | 35, ho, _ => cases ho; exact hM.wz (hM.d 33 62 rfl)
              | 36, ho, _ => cases ho; exact hM.wz (hM.d 33 62 rfl)
              | 37, ho, _ => cases ho; exact wn (kPick rfl (hM.d 33 62 rfl) rfl)
              | zk + 38, ho, _ => simp at ho
             case al3 =>
              intro zk zb zi zo hk ha ho a' u lc W hM
              match zk, hk with
              | 0, hk => cases hk; cases ha; cases ho; exact ⟨rfl, rfl, rfl, rfl, kSlice2 rfl (hM.d 0 29 rfl) (hM.d 1 30 rfl)⟩
              | zk + 1, hk => simp at hk
             case pu3 =>
              intro zk zb zs zo hk hs ho a' u lc W zc hM hc hcs
              match zk, hk with
              | 0, hk => cases hk; simp at hs
              | zk + 1, hk => simp at hk
             case en3 =>
              intro u3 lc3 W3 hK3 hB3 hO3 hV3 hX3 hA3
              obtain ⟨qr, ho, hl⟩ := hX3 0 _ rfl
              have e3_2 : u3 2 = .slice (some ⟨lc3 0, 0, none⟩) 2 2 := (hl 2 rfl).1
              have g3_0 := (hl 2 rfl).2
              simp only [putK, fC, fN, kZ, kS, vV, vA, sI, sZ, sS, e3_2]
              have hBt3 := hBt2.trans hB3
              clear hV3 hX3 hA3
              go_upto_region 4 with fail
              refine rg0 (n := 9) (t16 := 48) w.heap.size [vT] [(0, 10)] hBt3.size ?st4 ?en4
              case st4 =>
               intro zi zo ho hro a' u lc W hM
               match zi, ho, hro with
               | 0, ho, _ => cases ho; exact wn (kAssign rfl rfl)
               | zk + 1, ho, _ => simp at ho
              case en4 =>
               intro u4 lc4 W4 hK4 hB4 hO4 hV4 hX4 hA4
               simp only [putK, fC, fN, kZ, vV, sI, sZ, sS]
               have hBt4 := hBt3.trans hB4
               clear hV4 hX4 hA4
               go_wp2
               exact bodyPost_ret (v := .bool true) (by simp [results, Tryz.results10, go_sem]) rfl ⟨_, rfl, rfl, hBt4⟩
         · have HW4 := Lib.hid hw4
           clear hw4
           refine rg (n := 9) (t16 := 48) w.heap.size [] [.val (.agg #[.bool na0, .slice yp0 yl0 yd0, .bool nb0, .slice yq0 ym0 yr0]), .val (.agg #[.bool na1, .slice yp1 yl1 yd1, .bool nb1, .slice yq1 ym1 yr1]), .any, vT, vF, vF, .val (.pointer (some ⟨(lc1 2), 1, none⟩)), .val (.slice yx2 yy2 yz2), .val (.int .i64 ((yy2 : Nat) : Int)), vF, vF, vF, .val (.pointer (some ⟨(lc1 3), 1, none⟩)), .val (.slice yx3 yy3 yz3), .val (.int .i64 ((yy3 : Nat) : Int)), vF, vF, vF, .val (.pointer (some ⟨(lc1 4), 1, none⟩)), .val (.slice yx4 yy4 yz4), .val (.int .i64 ((yy4 : Nat) : Int)), vT, vT, vT, .any, .any, .any, vT, vT, .any, .any, .any, vT, vT, .any, .any, .any, vT] [(0, 29), (1, 30), (2, 31), (3, 32), (4, 33), (5, 34), (6, 35), (7, 36), (8, 37), (9, 38), (10, 39), (11, 40), (12, 41), (13, 42), (14, 43), (15, 44), (16, 45), (17, 46), (18, 47), (19, 48), (20, 49), (21, 50), (22, 51), (23, 52), (24, 53), (25, 54), (26, 55), (27, 56), (28, 57), (29, 58), (30, 59), (31, 60), (32, 61), (33, 62), (34, 63), (35, 64), (36, 65), (37, 66)] [⟨26, some 2, 0, fun B => .slice (some ⟨B, 0, none⟩) 2 2, 8, [.c #[.bool na0, .slice yp0 yl0 yd0, .bool nb0, .slice yq0 ym0 yr0, .bool na1, .slice yp1 yl1 yd1, .bool nb1, .slice yq1 ym1 yr1]], []⟩] ?ok3 ?st3 ?al3 ?pu3 ?en3
           case ok3 => exact BxOK.fresh rfl hBt2.size
           case st3 =>
            intro zi zo ho hro a' u lc W hM
            match zi, ho, hro with
            | 0, ho, _ => cases ho; exact wn (kL26 rfl (hM.ol 5) (hM.o0 q2_1_0))
            | 1, ho, _ => cases ho; exact wn (kL26 rfl (hM.ol 6) (hM.o0 q2_1_1))
            | 2, _, hro => exact nr1 hro (by kernel_rfl)
            | 3, ho, _ => cases ho; exact wn (kCall1 rfl may31 ((hM.v 2 31 rfl).trans (hM.loc 0 _ 2 rfl rfl (by kernel_rfl))) (usable2 (hM.full 0 _ rfl (by kernel_rfl) rfl) (f2_0.kept hM.kept) (f2_1.kept hM.kept) HRL0.out HRL1.out ⟨fun _ => HU.out, fun _ => rfl⟩))
            | 4, ho, _ => cases ho; exact wn (kNot rfl (hM.d 3 32 rfl) rfl)
            | 5, ho, _ => cases ho; exact wn (kMove rfl (hM.d 4 33 rfl))
            | 6, ho, _ => cases ho; exact hM.wg (hM.d 5 34 rfl) (kField24_1 rfl (hM.ol 7))
            | 7, ho, _ => cases ho; exact hM.wg (hM.d 5 34 rfl) (kLoad1 Tryz.underlying22 rfl rfl (hM.d 6 35 rfl) (hM.o0 q2_1_2) rfl rfl)
            | 8, ho, _ => cases ho; exact hM.wg (hM.d 5 34 rfl) (kLen rfl (hM.d 7 36 rfl))
            | 9, ho, _ => cases ho; exact hM.wg (hM.d 5 34 rfl) (kGtr3 rfl (hM.d 8 37 rfl) rfl (decide_eq_false (by have := HC2.out; have := HW2.out; omega)))
            | 10, ho, _ => cases ho; exact wn (kPick rfl (hM.d 5 34 rfl) (hM.d 9 38 rfl))
            | 11, ho, _ => cases ho; exact wn (kMove rfl (hM.d 10 39 rfl))
            | 12, ho, _ => cases ho; exact hM.wg (hM.d 11 40 rfl) (kField24_1 rfl (hM.ol 8))
            | 13, ho, _ => cases ho; exact hM.wg (hM.d 11 40 rfl) (kLoad1 Tryz.underlying22 rfl rfl (hM.d 12 41 rfl) (hM.o0 q2_1_3) rfl rfl)
            | 14, ho, _ => cases ho; exact hM.wg (hM.d 11 40 rfl) (kLen rfl (hM.d 13 42 rfl))
            | 15, ho, _ => cases ho; exact hM.wg (hM.d 11 40 rfl) (kGtr3 rfl (hM.d 14 43 rfl) rfl (decide_eq_false (by have := HC3.out; have := HW3.out; omega)))
            | 16, ho, _ => cases ho; exact wn (kPick rfl (hM.d 11 40 rfl) (hM.d 15 44 rfl))
            | 17, ho, _ => cases ho; exact wn (kMove rfl (hM.d 16 45 rfl))
            | 18, ho, _ => cases ho; exact hM.wg (hM.d 17 46 rfl) (kField24_1 rfl (hM.ol 9))
            | 19, ho, _ => cases ho; exact hM.wg (hM.d 17 46 rfl) (kLoad1 Tryz.underlying22 rfl rfl (hM.d 18 47 rfl) (hM.o0 q2_1_4) rfl rfl)
            | 20, ho, _ => cases ho; exact hM.wg (hM.d 17 46 rfl) (kLen rfl (hM.d 19 48 rfl))
            | 21, ho, _ => cases ho; exact hM.wg (hM.d 17 46 rfl) (kGtr3 rfl (hM.d 20 49 rfl) rfl (decide_eq_true (by have := HC4.out; have := HW4.out; omega)))
            | 22, ho, _ => cases ho; exact wn (kPick rfl (hM.d 17 46 rfl) (hM.d 21 50 rfl))
            | 23, ho, _ => cases ho; exact wn (kMove rfl (hM.d 22 51 rfl))
            | 24, ho, _ => cases ho; exact hM.wz (hM.d 23 52 rfl)
            | 25, ho, _ => cases ho; exact hM.wz (hM.d 23 52 rfl)
            | 26, ho, _ => cases ho; exact hM.wz (hM.d 23 52 rfl)
            | 27, ho, _ => cases ho; exact wn (kPick rfl (hM.d 23 52 rfl) rfl)
            | 28, ho, _ => cases ho; exact wn (kMove rfl (hM.d 27 56 rfl))
            | 29, ho, _ => cases ho; exact hM.wz (hM.d 28 57 rfl)
            | 30, ho, _ => cases ho; exact hM.wz (hM.d 28 57 rfl)
            | 31, ho, _ => cases ho; exact hM.wz (hM.d 28 57 rfl)
            | 32, ho, _ => cases ho; exact wn (kPick rfl (hM.d 28 57 rfl) rfl)
            | 33, ho, _ => cases ho; exact wn (kMove rfl (hM.d 32 61 rfl))
            | 34, ho, _ => cases ho; exact hM.wz (hM.d 33 62 rfl)
            | 35, ho, _ => cases ho; exact hM.wz (hM.d 33 62 rfl)
            | 36, ho, _ => cases ho; exact hM.wz (hM.d 33 62 rfl)
            | 37, ho, _ => cases ho; exact wn (kPick rfl (hM.d 33 62 rfl) rfl)
            | zk + 38, ho, _ => simp at ho
           case al3 =>
            intro zk zb zi zo hk ha ho a' u lc W hM
            match zk, hk with
            | 0, hk => cases hk; cases ha; cases ho; exact ⟨rfl, rfl, rfl, rfl, kSlice2 rfl (hM.d 0 29 rfl) (hM.d 1 30 rfl)⟩
            | zk + 1, hk => simp at hk
           case pu3 =>
            intro zk zb zs zo hk hs ho a' u lc W zc hM hc hcs
            match zk, hk with
            | 0, hk => cases hk; simp at hs
            | zk + 1, hk => simp at hk
           case en3 =>
            intro u3 lc3 W3 hK3 hB3 hO3 hV3 hX3 hA3
            obtain ⟨qr, ho, hl⟩ := hX3 0 _ rfl
            have e3_2 : u3 2 = .slice (some ⟨lc3 0, 0, none⟩) 2 2 := (hl 2 rfl).1
            have g3_0 := (hl 2 rfl).2
            simp only [putK, fC, fN, kZ, kS, vV, vA, sI, sZ, sS, e3_2]
            have hBt3 := hBt2.trans hB3
            clear hV3 hX3 hA3
            go_upto_region 4 with fail
            refine rg0 (n := 9) (t16 := 48) w.heap.size [vT] [(0, 10)] hBt3.size ?st4 ?en4
            case st4 =>
             intro zi zo ho hro a' u lc W hM
             match zi, ho, hro with
             | 0, ho, _ => cases ho; exact wn (kAssign rfl rfl)
             | zk + 1, ho, _ => simp at ho
            case en4 =>
             intro u4 lc4 W4 hK4 hB4 hO4 hV4 hX4 hA4
             simp only [putK, fC, fN, kZ, vV, sI, sZ, sS]
             have hBt4 := hBt3.trans hB4
             clear hV4 hX4 hA4
             go_wp2
             exact bodyPost_ret (v := .bool true) (by simp [results, Tryz.results10, go_sem]) rfl ⟨_, rfl, rfl, hBt4⟩
       · have HW3 := Lib.hid hw3
         clear hw3
         refine rg (n := 9) (t16 := 48) w.heap.size [] [.val (.agg #[.bool na0, .slice yp0 yl0 yd0, .bool nb0, .slice yq0 ym0 yr0]), .val (.agg #[.bool na1, .slice yp1 yl1 yd1, .bool nb1, .slice yq1 ym1 yr1]), .any, vT, vF, vF, .val (.pointer (some ⟨(lc1 2), 1, none⟩)), .val (.slice yx2 yy2 yz2), .val (.int .i64 ((yy2 : Nat) : Int)), vF, vF, vF, .val (.pointer (some ⟨(lc1 3), 1, none⟩)), .val (.slice yx3 yy3 yz3), .val (.int .i64 ((yy3 : Nat) : Int)), vT, vT, vT, .any, .any, .any, .any, vT, vT, .any, .any, .any, vT, vT, .any, .any, .any, vT, vT, .any, .any, .any, vT] [(0, 29), (1, 30), (2, 31), (3, 32), (4, 33), (5, 34), (6, 35), (7, 36), (8, 37), (9, 38), (10, 39), (11, 40), (12, 41), (13, 42), (14, 43), (15, 44), (16, 45), (17, 46), (18, 47), (19, 48), (20, 49), (21, 50), (22, 51), (23, 52), (24, 53), (25, 54), (26, 55), (27, 56), (28, 57), (29, 58), (30, 59), (31, 60), (32, 61), (33, 62), (34, 63), (35, 64), (36, 65), (37, 66)] [⟨26, some 2, 0, fun B => .slice (some ⟨B, 0, none⟩) 2 2, 8, [.c #[.bool na0, .slice yp0 yl0 yd0, .bool nb0, .slice yq0 ym0 yr0, .bool na1, .slice yp1 yl1 yd1, .bool nb1, .slice yq1 ym1 yr1]], []⟩] ?ok3 ?st3 ?al3 ?pu3 ?en3
         case ok3 => exact BxOK.fresh rfl hBt2.size
         case st3 =>
          intro zi zo ho hro a' u lc W hM
          match zi, ho, hro with
          | 0, ho, _ => cases ho; exact wn (kL26 rfl (hM.ol 5) (hM.o0 q2_1_0))
          | 1, ho, _ => cases ho; exact wn (kL26 rfl (hM.ol 6) (hM.o0 q2_1_1))
          | 2, _, hro => exact nr1 hro (by kernel_rfl)
          | 3, ho, _ => cases ho; exact wn (kCall1 rfl may31 ((hM.v 2 31 rfl).trans (hM.loc 0 _ 2 rfl rfl (by kernel_rfl))) (usable2 (hM.full 0 _ rfl (by kernel_rfl) rfl) (f2_0.kept hM.kept) (f2_1.kept hM.kept) HRL0.out HRL1.out ⟨fun _ => HU.out, fun _ => rfl⟩))
          | 4, ho, _ => cases ho; exact wn (kNot rfl (hM.d 3 32 rfl) rfl)
          | 5, ho, _ => cases ho; exact wn (kMove rfl (hM.d 4 33 rfl))
          | 6, ho, _ => cases ho; exact hM.wg (hM.d 5 34 rfl) (kField24_1 rfl (hM.ol 7))
          | 7, ho, _ => cases ho; exact hM.wg (hM.d 5 34 rfl) (kLoad1 Tryz.underlying22 rfl rfl (hM.d 6 35 rfl) (hM.o0 q2_1_2) rfl rfl)
          | 8, ho, _ => cases ho; exact hM.wg (hM.d 5 34 rfl) (kLen rfl (hM.d 7 36 rfl))
          | 9, ho, _ => cases ho; exact hM.wg (hM.d 5 34 rfl) (kGtr3 rfl (hM.d 8 37 rfl) rfl (decide_eq_false (by have := HC2.out; have := HW2.out; omega)))
          | 10, ho, _ => cases ho; exact wn (kPick rfl (hM.d 5 34 rfl) (hM.d 9 38 rfl))
          | 11, ho, _ => cases ho; exact wn (kMove rfl (hM.d 10 39 rfl))
          | 12, ho, _ => cases ho; exact hM.wg (hM.d 11 40 rfl) (kField24_1 rfl (hM.ol 8))
          | 13, ho, _ => cases ho; exact hM.wg (hM.d 11 40 rfl) (kLoad1 Tryz.underlying22 rfl rfl (hM.d 12 41 rfl) (hM.o0 q2_1_3) rfl rfl)
          | 14, ho, _ => cases ho; exact hM.wg (hM.d 11 40 rfl) (kLen rfl (hM.d 13 42 rfl))
          | 15, ho, _ => cases ho; exact hM.wg (hM.d 11 40 rfl) (kGtr3 rfl (hM.d 14 43 rfl) rfl (decide_eq_true (by have := HC3.out; have := HW3.out; omega)))
          | 16, ho, _ => cases ho; exact wn (kPick rfl (hM.d 11 40 rfl) (hM.d 15 44 rfl))
          | 17, ho, _ => cases ho; exact wn (kMove rfl (hM.d 16 45 rfl))
          | 18, ho, _ => cases ho; exact hM.wz (hM.d 17 46 rfl)
          | 19, ho, _ => cases ho; exact hM.wz (hM.d 17 46 rfl)
          | 20, ho, _ => cases ho; exact hM.wz (hM.d 17 46 rfl)
          | 21, ho, _ => cases ho; exact hM.wz (hM.d 17 46 rfl)
          | 22, ho, _ => cases ho; exact wn (kPick rfl (hM.d 17 46 rfl) rfl)
          | 23, ho, _ => cases ho; exact wn (kMove rfl (hM.d 22 51 rfl))
          | 24, ho, _ => cases ho; exact hM.wz (hM.d 23 52 rfl)
          | 25, ho, _ => cases ho; exact hM.wz (hM.d 23 52 rfl)
          | 26, ho, _ => cases ho; exact hM.wz (hM.d 23 52 rfl)
          | 27, ho, _ => cases ho; exact wn (kPick rfl (hM.d 23 52 rfl) rfl)
          | 28, ho, _ => cases ho; exact wn (kMove rfl (hM.d 27 56 rfl))
          | 29, ho, _ => cases ho; exact hM.wz (hM.d 28 57 rfl)
          | 30, ho, _ => cases ho; exact hM.wz (hM.d 28 57 rfl)
          | 31, ho, _ => cases ho; exact hM.wz (hM.d 28 57 rfl)
          | 32, ho, _ => cases ho; exact wn (kPick rfl (hM.d 28 57 rfl) rfl)
          | 33, ho, _ => cases ho; exact wn (kMove rfl (hM.d 32 61 rfl))
          | 34, ho, _ => cases ho; exact hM.wz (hM.d 33 62 rfl)
          | 35, ho, _ => cases ho; exact hM.wz (hM.d 33 62 rfl)
          | 36, ho, _ => cases ho; exact hM.wz (hM.d 33 62 rfl)
          | 37, ho, _ => cases ho; exact wn (kPick rfl (hM.d 33 62 rfl) rfl)
          | zk + 38, ho, _ => simp at ho
         case al3 =>
          intro zk zb zi zo hk ha ho a' u lc W hM
          match zk, hk with
          | 0, hk => cases hk; cases ha; cases ho; exact ⟨rfl, rfl, rfl, rfl, kSlice2 rfl (hM.d 0 29 rfl) (hM.d 1 30 rfl)⟩
          | zk + 1, hk => simp at hk
         case pu3 =>
          intro zk zb zs zo hk hs ho a' u lc W zc hM hc hcs
          match zk, hk with
          | 0, hk => cases hk; simp at hs
          | zk + 1, hk => simp at hk
         case en3 =>
          intro u3 lc3 W3 hK3 hB3 hO3 hV3 hX3 hA3
          obtain ⟨qr, ho, hl⟩ := hX3 0 _ rfl
          have e3_2 : u3 2 = .slice (some ⟨lc3 0, 0, none⟩) 2 2 := (hl 2 rfl).1
          have g3_0 := (hl 2 rfl).2
          simp only [putK, fC, fN, kZ, kS, vV, vA, sI, sZ, sS, e3_2]
          have hBt3 := hBt2.trans hB3
          clear hV3 hX3 hA3
          go_upto_region 4 with fail
          refine rg0 (n := 9) (t16 := 48) w.heap.size [vT] [(0, 10)] hBt3.size ?st4 ?en4
          case st4 =>
           intro zi zo ho hro a' u lc W hM
           match zi, ho, hro with
           | 0, ho, _ => cases ho; exact wn (kAssign rfl rfl)
           | zk + 1, ho, _ => simp at ho
          case en4 =>
           intro u4 lc4 W4 hK4 hB4 hO4 hV4 hX4 hA4
           simp only [putK, fC, fN, kZ, vV, sI, sZ, sS]
           have hBt4 := hBt3.trans hB4
           clear hV4 hX4 hA4
           go_wp2
           exact bodyPost_ret (v := .bool true) (by simp [results, Tryz.results10, go_sem]) rfl ⟨_, rfl, rfl, hBt4⟩
     · have HW2 := Lib.hid hw2
       clear hw2
       refine rg (n := 9) (t16 := 48) w.heap.size [] [.val (.agg #[.bool na0, .slice yp0 yl0 yd0, .bool nb0, .slice yq0 ym0 yr0]), .val (.agg #[.bool na1, .slice yp1 yl1 yd1, .bool nb1, .slice yq1 ym1 yr1]), .any, vT, vF, vF, .val (.pointer (some ⟨(lc1 2), 1, none⟩)), .val (.slice yx2 yy2 yz2), .val (.int .i64 ((yy2 : Nat) : Int)), vT, vT, vT, .any, .any, .any, .any, vT, vT, .any, .any, .any, .any, vT, vT, .any, .any, .any, vT, vT, .any, .any, .any, vT, vT, .any, .any, .any, vT] [(0, 29), (1, 30), (2, 31), (3, 32), (4, 33), (5, 34), (6, 35), (7, 36), (8, 37), (9, 38), (10, 39), (11, 40), (12, 41), (13, 42), (14, 43), (15, 44), (16, 45), (17, 46), (18, 47), (19, 48), (20, 49), (21, 50), (22, 51), (23, 52), (24, 53), (25, 54), (26, 55), (27, 56), (28, 57), (29, 58), (30, 59), (31, 60), (32, 61), (33, 62), (34, 63), (35, 64), (36, 65), (37, 66)] [⟨26, some 2, 0, fun B => .slice (some ⟨B, 0, none⟩) 2 2, 8, [.c #[.bool na0, .slice yp0 yl0 yd0, .bool nb0, .slice yq0 ym0 yr0, .bool na1, .slice yp1 yl1 yd1, .bool nb1, .slice yq1 ym1 yr1]], []⟩] ?ok3 ?st3 ?al3 ?pu3 ?en3
       case ok3 => exact BxOK.fresh rfl hBt2.size
       case st3 =>
        intro zi zo ho hro a' u lc W hM
        match zi, ho, hro with
        | 0, ho, _ => cases ho; exact wn (kL26 rfl (hM.ol 5) (hM.o0 q2_1_0))
        | 1, ho, _ => cases ho; exact wn (kL26 rfl (hM.ol 6) (hM.o0 q2_1_1))
        | 2, _, hro => exact nr1 hro (by kernel_rfl)
        | 3, ho, _ => cases ho; exact wn (kCall1 rfl may31 ((hM.v 2 31 rfl).trans (hM.loc 0 _ 2 rfl rfl (by kernel_rfl))) (usable2 (hM.full 0 _ rfl (by kernel_rfl) rfl) (f2_0.kept hM.kept) (f2_1.kept hM.kept) HRL0.out HRL1.out ⟨fun _ => HU.out, fun _ => rfl⟩))
        | 4, ho, _ => cases ho; exact wn (kNot rfl (hM.d 3 32 rfl) rfl)
        | 5, ho, _ => cases ho; exact wn (kMove rfl (hM.d 4 33 rfl))
        | 6, ho, _ => cases ho; exact hM.wg (hM.d 5 34 rfl) (kField24_1 rfl (hM.ol 7))
        | 7, ho, _ => cases ho; exact hM.wg (hM.d 5 34 rfl) (kLoad1 Tryz.underlying22 rfl rfl (hM.d 6 35 rfl) (hM.o0 q2_1_2) rfl rfl)
        | 8, ho, _ => cases ho; exact hM.wg (hM.d 5 34 rfl) (kLen rfl (hM.d 7 36 rfl))
        | 9, ho, _ => cases ho; exact hM.wg (hM.d 5 34 rfl) (kGtr3 rfl (hM.d 8 37 rfl) rfl (decide_eq_true (by have := HC2.out; have := HW2.out; omega)))
        | 10, ho, _ => cases ho; exact wn (kPick rfl (hM.d 5 34 rfl) (hM.d 9 38 rfl))
        | 11, ho, _ => cases ho; exact wn (kMove rfl (hM.d 10 39 rfl))
        | 12, ho, _ => cases ho; exact hM.wz (hM.d 11 40 rfl)
        | 13, ho, _ => cases ho; exact hM.wz (hM.d 11 40 rfl)
        | 14, ho, _ => cases ho; exact hM.wz (hM.d 11 40 rfl)
        | 15, ho, _ => cases ho; exact hM.wz (hM.d 11 40 rfl)
        | 16, ho, _ => cases ho; exact wn (kPick rfl (hM.d 11 40 rfl) rfl)
        | 17, ho, _ => cases ho; exact wn (kMove rfl (hM.d 16 45 rfl))
        | 18, ho, _ => cases ho; exact hM.wz (hM.d 17 46 rfl)
        | 19, ho, _ => cases ho; exact hM.wz (hM.d 17 46 rfl)
        | 20, ho, _ => cases ho; exact hM.wz (hM.d 17 46 rfl)
        | 21, ho, _ => cases ho; exact hM.wz (hM.d 17 46 rfl)
        | 22, ho, _ => cases ho; exact wn (kPick rfl (hM.d 17 46 rfl) rfl)
        | 23, ho, _ => cases ho; exact wn (kMove rfl (hM.d 22 51 rfl))
        | 24, ho, _ => cases ho; exact hM.wz (hM.d 23 52 rfl)
        | 25, ho, _ => cases ho; exact hM.wz (hM.d 23 52 rfl)
        | 26, ho, _ => cases ho; exact hM.wz (hM.d 23 52 rfl)
        | 27, ho, _ => cases ho; exact wn (kPick rfl (hM.d 23 52 rfl) rfl)
        | 28, ho, _ => cases ho; exact wn (kMove rfl (hM.d 27 56 rfl))
        | 29, ho, _ => cases ho; exact hM.wz (hM.d 28 57 rfl)
        | 30, ho, _ => cases ho; exact hM.wz (hM.d 28 57 rfl)
        | 31, ho, _ => cases ho; exact hM.wz (hM.d 28 57 rfl)
        | 32, ho, _ => cases ho; exact wn (kPick rfl (hM.d 28 57 rfl) rfl)
        | 33, ho, _ => cases ho; exact wn (kMove rfl (hM.d 32 61 rfl))
        | 34, ho, _ => cases ho; exact hM.wz (hM.d 33 62 rfl)
        | 35, ho, _ => cases ho; exact hM.wz (hM.d 33 62 rfl)
        | 36, ho, _ => cases ho; exact hM.wz (hM.d 33 62 rfl)
        | 37, ho, _ => cases ho; exact wn (kPick rfl (hM.d 33 62 rfl) rfl)
        | zk + 38, ho, _ => simp at ho
       case al3 =>
        intro zk zb zi zo hk ha ho a' u lc W hM
        match zk, hk with
        | 0, hk => cases hk; cases ha; cases ho; exact ⟨rfl, rfl, rfl, rfl, kSlice2 rfl (hM.d 0 29 rfl) (hM.d 1 30 rfl)⟩
        | zk + 1, hk => simp at hk
       case pu3 =>
        intro zk zb zs zo hk hs ho a' u lc W zc hM hc hcs
        match zk, hk with
        | 0, hk => cases hk; simp at hs
        | zk + 1, hk => simp at hk
       case en3 =>
        intro u3 lc3 W3 hK3 hB3 hO3 hV3 hX3 hA3
        obtain ⟨qr, ho, hl⟩ := hX3 0 _ rfl
        have e3_2 : u3 2 = .slice (some ⟨lc3 0, 0, none⟩) 2 2 := (hl 2 rfl).1
        have g3_0 := (hl 2 rfl).2
        simp only [putK, fC, fN, kZ, kS, vV, vA, sI, sZ, sS, e3_2]
        have hBt3 := hBt2.trans hB3
        clear hV3 hX3 hA3
        go_upto_region 4 with fail
        refine rg0 (n := 9) (t16 := 48) w.heap.size [vT] [(0, 10)] hBt3.size ?st4 ?en4
        case st4 =>
         intro zi zo ho hro a' u lc W hM
         match zi, ho, hro with
         | 0, ho, _ => cases ho; exact wn (kAssign rfl rfl)
         | zk + 1, ho, _ => simp at ho
        case en4 =>
         intro u4 lc4 W4 hK4 hB4 hO4 hV4 hX4 hA4
         simp only [putK, fC, fN, kZ, vV, sI, sZ, sS]
         have hBt4 := hBt3.trans hB4
         clear hV4 hX4 hA4
         go_wp2
         exact bodyPost_ret (v := .bool true) (by simp [results, Tryz.results10, go_sem]) rfl ⟨_, rfl, rfl, hBt4⟩
   · have HU := Lib.hid hu
     clear hu
     refine rg (n := 9) (t16 := 48) w.heap.size [] [.val (.agg #[.bool na0, .slice yp0 yl0 yd0, .bool nb0, .slice yq0 ym0 yr0]), .val (.agg #[.bool na1, .slice yp1 yl1 yd1, .bool nb1, .slice yq1 ym1 yr1]), .any, vF, vT, vT, .any, .any, .any, .any, vT, vT, .any, .any, .any, .any, vT, vT, .any, .any, .any, .any, vT, vT, .any, .any, .any, vT, vT, .any, .any, .any, vT, vT, .any, .any, .any, vT] [(0, 29), (1, 30), (2, 31), (3, 32), (4, 33), (5, 34), (6, 35), (7, 36), (8, 37), (9, 38), (10, 39), (11, 40), (12, 41), (13, 42), (14, 43), (15, 44), (16, 45), (17, 46), (18, 47), (19, 48), (20, 49), (21, 50), (22, 51), (23, 52), (24, 53), (25, 54), (26, 55), (27, 56), (28, 57), (29, 58), (30, 59), (31, 60), (32, 61), (33, 62), (34, 63), (35, 64), (36, 65), (37, 66)] [⟨26, some 2, 0, fun B => .slice (some ⟨B, 0, none⟩) 2 2, 8, [.c #[.bool na0, .slice yp0 yl0 yd0, .bool nb0, .slice yq0 ym0 yr0, .bool na1, .slice yp1 yl1 yd1, .bool nb1, .slice yq1 ym1 yr1]], []⟩] ?ok3 ?st3 ?al3 ?pu3 ?en3
     case ok3 => exact BxOK.fresh rfl hBt2.size
     case st3 =>
      intro zi zo ho hro a' u lc W hM
      match zi, ho, hro with
      | 0, ho, _ => cases ho; exact wn (kL26 rfl (hM.ol 5) (hM.o0 q2_1_0))
      | 1, ho, _ => cases ho; exact wn (kL26 rfl (hM.ol 6) (hM.o0 q2_1_1))
      | 2, _, hro => exact nr1 hro (by kernel_rfl)
      | 3, ho, _ => cases ho; exact wn (kCall1 rfl may31 ((hM.v 2 31 rfl).trans (hM.loc 0 _ 2 rfl rfl (by kernel_rfl))) (usable2 (hM.full 0 _ rfl (by kernel_rfl) rfl) (f2_0.kept hM.kept) (f2_1.kept hM.kept) HRL0.out HRL1.out ⟨fun h => (by cases h), fun h => absurd h HU.out⟩))
      | 4, ho, _ => cases ho; exact wn (kNot rfl (hM.d 3 32 rfl) rfl)
      | 5, ho, _ => cases ho; exact wn (kMove rfl (hM.d 4 33 rfl))
      | 6, ho, _ => cases ho; exact hM.wz (hM.d 5 34 rfl)
      | 7, ho, _ => cases ho; exact hM.wz (hM.d 5 34 rfl)
      | 8, ho, _ => cases ho; exact hM.wz (hM.d 5 34 rfl)
      | 9, ho, _ => cases ho; exact hM.wz (hM.d 5 34 rfl)
      | 10, ho, _ => cases ho; exact wn (kPick rfl (hM.d 5 34 rfl) rfl)
      | 11, ho, _ => cases ho; exact wn (kMove rfl (hM.d 10 39 rfl))
      | 12, ho, _ => cases ho; exact hM.wz (hM.d 11 40 rfl)
      | 13, ho, _ => cases ho; exact hM.wz (hM.d 11 40 rfl)
      | 14, ho, _ => cases ho; exact hM.wz (hM.d 11 40 rfl)
      | 15, ho, _ => cases ho; exact hM.wz (hM.d 11 40 rfl)
      | 16, ho, _ => cases ho; exact wn (kPick rfl (hM.d 11 40 rfl) rfl)
      | 17, ho, _ => cases ho; exact wn (kMove rfl (hM.d 16 45 rfl))
      | 18, ho, _ => cases ho; exact hM.wz (hM.d 17 46 rfl)
      | 19, ho, _ => cases ho; exact hM.wz (hM.d 17 46 rfl)
      | 20, ho, _ => cases ho; exact hM.wz (hM.d 17 46 rfl)
      | 21, ho, _ => cases ho; exact hM.wz (hM.d 17 46 rfl)
      | 22, ho, _ => cases ho; exact wn (kPick rfl (hM.d 17 46 rfl) rfl)
      | 23, ho, _ => cases ho; exact wn (kMove rfl (hM.d 22 51 rfl))
      | 24, ho, _ => cases ho; exact hM.wz (hM.d 23 52 rfl)
      | 25, ho, _ => cases ho; exact hM.wz (hM.d 23 52 rfl)
      | 26, ho, _ => cases ho; exact hM.wz (hM.d 23 52 rfl)
      | 27, ho, _ => cases ho; exact wn (kPick rfl (hM.d 23 52 rfl) rfl)
      | 28, ho, _ => cases ho; exact wn (kMove rfl (hM.d 27 56 rfl))
      | 29, ho, _ => cases ho; exact hM.wz (hM.d 28 57 rfl)
      | 30, ho, _ => cases ho; exact hM.wz (hM.d 28 57 rfl)
      | 31, ho, _ => cases ho; exact hM.wz (hM.d 28 57 rfl)
      | 32, ho, _ => cases ho; exact wn (kPick rfl (hM.d 28 57 rfl) rfl)
      | 33, ho, _ => cases ho; exact wn (kMove rfl (hM.d 32 61 rfl))
      | 34, ho, _ => cases ho; exact hM.wz (hM.d 33 62 rfl)
      | 35, ho, _ => cases ho; exact hM.wz (hM.d 33 62 rfl)
      | 36, ho, _ => cases ho; exact hM.wz (hM.d 33 62 rfl)
      | 37, ho, _ => cases ho; exact wn (kPick rfl (hM.d 33 62 rfl) rfl)
      | zk + 38, ho, _ => simp at ho
     case al3 =>
      intro zk zb zi zo hk ha ho a' u lc W hM
      match zk, hk with
      | 0, hk => cases hk; cases ha; cases ho; exact ⟨rfl, rfl, rfl, rfl, kSlice2 rfl (hM.d 0 29 rfl) (hM.d 1 30 rfl)⟩
      | zk + 1, hk => simp at hk
     case pu3 =>
      intro zk zb zs zo hk hs ho a' u lc W zc hM hc hcs
      match zk, hk with
      | 0, hk => cases hk; simp at hs
      | zk + 1, hk => simp at hk
     case en3 =>
      intro u3 lc3 W3 hK3 hB3 hO3 hV3 hX3 hA3
      obtain ⟨qr, ho, hl⟩ := hX3 0 _ rfl
      have e3_2 : u3 2 = .slice (some ⟨lc3 0, 0, none⟩) 2 2 := (hl 2 rfl).1
      have g3_0 := (hl 2 rfl).2
      simp only [putK, fC, fN, kZ, kS, vV, vA, sI, sZ, sS, e3_2]
      have hBt3 := hBt2.trans hB3
      clear hV3 hX3 hA3
      go_upto_region 4 with fail
      refine rg0 (n := 9) (t16 := 48) w.heap.size [vT] [(0, 10)] hBt3.size ?st4 ?en4
      case st4 =>
       intro zi zo ho hro a' u lc W hM
       match zi, ho, hro with
       | 0, ho, _ => cases ho; exact wn (kAssign rfl rfl)
       | zk + 1, ho, _ => simp at ho
      case en4 =>
       intro u4 lc4 W4 hK4 hB4 hO4 hV4 hX4 hA4
       simp only [putK, fC, fN, kZ, vV, sI, sZ, sS]
       have hBt4 := hBt3.trans hB4
       clear hV4 hX4 hA4
       go_wp2
       exact bodyPost_ret (v := .bool true) (by simp [results, Tryz.results10, go_sem]) rfl ⟨_, rfl, rfl, hBt4⟩
theorem Lowest_any {na0 nb0 na1 nb1 : Bool} {Za0 Zb0 Za1 Zb1 : List Int} {nw2 nw3 nw4 : Bool} {Zw2 Zw3 Zw4 : List Int} {v0 v1 v2 v3 v4 : Value} {w : World} (rl0 : RawL Za0 Zb0) (k0 : Is (frw na0 Za0 nb0 Zb0) v0 w) (rl1 : RawL Za1 Zb1) (k1 : Is (frw na1 Za1 nb1 Zb1) v1 w) (g2 : Zw2.length ≤ 140737488355328) (m2 : Lm Zw2) (h2 : Is (raw nw2 Zw2) v2 w) (g3 : Zw3.length ≤ 140737488355328) (m3 : Lm Zw3) (h3 : Is (raw nw3 Zw3) v3 w) (g4 : Zw4.length ≤ 140737488355328) (m4 : Lm Zw4) (h4 : Is (raw nw4 Zw4) v4 w) : Calls Tryz.prog 10 #[v0, v1, v2, v3, v4] w (Ret (.val (.bool true)) w) := by
 by_cases hu : (Us na0 Za0 nb0 Zb0 ∧ Us na1 Za1 nb1 Zb1) ∧ Zw2.length ≤ 40 ∧ Zw3.length ≤ 40 ∧ Zw4.length ≤ 40 ∧ okB nw2 Zw2 = true ∧ okB nw3 Zw3 = true ∧ okB nw4 Zw4 = true
 · obtain ⟨⟨ua, ub⟩, u2, u3, u4, o2, o3, o4⟩ := hu
   obtain ⟨a, q0, f0⟩ := us_frq k0 ua rl0
   obtain ⟨b, q1, f1⟩ := us_frq k1 ub rl1
   obtain ⟨x2, r2⟩ := num_raw h2 o2 m2
   obtain ⟨x3, r3⟩ := num_raw h3 o3 m3
   obtain ⟨x4, r4⟩ := num_raw h4 o4 m4
   exact lowest_yes ⟨fun _ => ⟨ua, ub⟩, fun _ => rfl⟩ rl0 k0 rl1 k1 f0 f1 q0 q1 ((r2.len_le_iff 40).1 u2) ((r3.len_le_iff 40).1 u3) ((r4.len_le_iff 40).1 u4) x2 x3 x4
 · exact lowest_no hu rl0 k0 rl1 k1 g2 h2 g3 h3 g4 h4
end Go.Proofs.YtihdbjilolmfiaaGreatDoor
