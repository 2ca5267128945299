import Derived.Test.YtihdbjilolmfiaaGreatDoorD28
import Derived.Test.YtihdbjilolmfiaaGreatDoorD01
set_option maxRecDepth 100000
set_option maxHeartbeats 4000000
namespace Go.Proofs.YtihdbjilolmfiaaGreatDoor
open Go.RowKit Go.WM Go.WR
attribute [local go_sem] Oper.semAt_some
def roundK (m : Int) (n : Bool) (y k z : Int) : Int :=
 if z = 0 then k else if upsB m n (cmpI (z + z) y) (decide (k.natAbs % 2 = 1)) = true then k + 1 else k
theorem c17e {r s q : Rat} {m x y k z g i : Int} {K : Int} {o : Bool} {v0 v1 : Value} {w : World} (hr : Fs r) (hs : Fs s) (hs0 : 0 < s.num) (hz : decide (s.num = 0) = false) (hm1 : decide (m < 1) = false) (hm6 : decide (6 < m) = false) (hn : r.num * ((s.den : Nat) : Int) = x) (hd : ((r.den : Nat) : Int) * s.num = y) (cn : x.natAbs < Cap) (cd : y.natAbs < Cap) (hd0 : y ≠ 0) (hfl : Floor x y k z) (hzp : z ≠ 0) (hzc : (z + z).natAbs < Cap) (hkc : (k + 1).natAbs < Cap) (ho : decide (k.natAbs % 2 = 1) = o) (hk0 : k ≠ 0) (hk2 : upsB m (decide (r.num < 0)) (cmpI (z + z) y) o = true → K = k + 1) (hk3 : ¬ upsB m (decide (r.num < 0)) (cmpI (z + z) y) o = true → K = k) (hg : ((Int.gcd K ((s.den : Nat) : Int) : Nat) : Int) = g) (g0 : g ≠ 0) (f1 : Floor K g i 0) (f2 : Floor ((s.den : Nat) : Int) g ((q.den : Nat) : Int) 0) (e1 : i * s.num = q.num) (ce : q.num.natAbs < Cap) (hq : Fs q) (h0 : Is (frq r) v0 w) (h1 : Is (frq s) v1 w) : Calls Tryz.prog 17 #[v0, v1, .int .u8 m] w (Ret (.k (tup2 (.k (frq q)) (.val (.int .i64 0)))) w) := by
 obtain ⟨ya0, yp0, yl0, yd0, ye0, yq0, ym0, yr0, rfl, yg0, yk0⟩ := id h0
 obtain ⟨ya1, yp1, yl1, yd1, ye1, yq1, ym1, yr1, rfl, yg1, yk1⟩ := id h1
 obtain rfl : ya1 = false := (num_sign (W := w) yg1).trans (decide_eq_false (by omega))
 obtain rfl : ya0 = decide (r.num < 0) := num_sign (W := w) yg0
 replace yg0 : Is (num r.num) (.agg #[.bool (decide (r.num < 0)), .slice yp0 yl0 yd0]) w := yg0
 replace yk0 : Is (num ((r.den : Nat) : Int)) (.agg #[.bool ye0, .slice yq0 ym0 yr0]) w := yk0
 replace yg1 : Is (num s.num) (.agg #[.bool false, .slice yp1 yl1 yd1]) w := yg1
 replace yk1 : Is (num ((s.den : Nat) : Int)) (.agg #[.bool ye1, .slice yq1 ym1 yr1]) w := yk1
 have HR := Lib.hid hr
 have HS := Lib.hid hs
 have HZ := Lib.hid hz
 have HM1 := Lib.hid hm1
 have HM6 := Lib.hid hm6
 have HN := Lib.hid hn
 have HD := Lib.hid hd
 have CN := Lib.hid cn
 have CD := Lib.hid cd
 have HD0 := Lib.hid hd0
 have HFL := Lib.hid hfl
 have HZP := Lib.hid hzp
 have HZC := Lib.hid hzc
 have HKC := Lib.hid hkc
 have HO := Lib.hid ho
 have HK0 := Lib.hid hk0
 have HK2 := Lib.hid hk2
 have HK3 := Lib.hid hk3
 have HG := Lib.hid hg
 have G0 := Lib.hid g0
 have F1 := Lib.hid f1
 have F2 := Lib.hid f2
 have E1 := Lib.hid e1
 have CE := Lib.hid ce
 have HQ := Lib.hid hq
 clear hr hs hz hm1 hm6 hn hd cn cd hd0 hfl hzp hzc hkc ho hk0 hk2 hk3 hg g0 f1 f2 e1 ce hq hs0
 have hB0 := Below.refl w.heap.size w
 go_enter Tryz.func17, Tryz.ntmps17
 go_upto_region 0 with fail
 refine rg (n := 9) (t16 := 48) w.heap.size [] [.any, .any, .any, vZ] [(0, 3), (1, 4), (2, 6), (3, 7)] [⟨26, some 0, 0, pt, 4, [.c #[.bool (decide (r.num < 0)), .slice yp0 yl0 yd0, .bool ye0, .slice yq0 ym0 yr0]], []⟩, ⟨26, some 1, 0, pt, 4, [.c #[.bool false, .slice yp1 yl1 yd1, .bool ye1, .slice yq1 ym1 yr1]], []⟩, ⟨26, some 2, 0, pt, 4, [.c #[.bool false, .slice none 0 0, .bool false, .slice none 0 0]], []⟩] ?ok1 ?st1 ?al1 ?pu1 ?en1
 case ok1 => exact BxOK.fresh rfl hB0.size
 case st1 =>
  intro zi zo ho hro a' u lc W hM
  match zi, ho, hro with
  | 0, _, hro => exact nr1 hro (by kernel_rfl)
  | 1, _, hro => exact nr1 hro (by kernel_rfl)
  | 2, _, hro => exact nr1 hro (by kernel_rfl)
  | 3, ho, _ => cases ho; exact wn (kAssign rfl rfl)
  | zk + 4, ho, _ => simp at ho
 case al1 =>
  intro zk zb zi zo hk ha ho a' u lc W hM
  match zk, hk with
  | 0, hk => cases hk; cases ha; cases ho; exact ⟨rfl, rfl, rfl, rfl, kBox rfl (hM.ol 0)⟩
  | 1, hk => cases hk; cases ha; cases ho; exact ⟨rfl, rfl, rfl, rfl, kBox rfl (hM.ol 1)⟩
  | 2, hk => cases hk; cases ha; cases ho; exact ⟨rfl, rfl, rfl, rfl, kAlloc26 rfl⟩
  | zk + 3, hk => simp at hk
 case pu1 =>
  intro zk zb zs zo hk hs ho a' u lc W zc hM hc hcs
  match zk, hk with
  | 0, hk => cases hk; simp at hs
  | 1, hk => cases hk; simp at hs
  | 2, hk => cases hk; simp at hs
  | zk + 3, hk => simp at hk
 case en1 =>
  intro u1 lc1 W1 hK1 hB1 hO1 hV1 hX1 hA1
  obtain ⟨qr, ho, hl⟩ := hX1 0 _ rfl
  have e1_0 : u1 0 = .pointer (some ⟨lc1 0, 0, none⟩) := (hl 0 rfl).1
  have g1_0 := (hl 0 rfl).2
  have f1_0 := h0.kept hK1
  have f1_1 := yg0.kept hK1
  have f1_2 := yk0.kept hK1
  have q1_0 : W1.heap[(lc1 0)]? = some (.cells #[.bool (decide (r.num < 0)), .slice yp0 yl0 yd0, .bool ye0, .slice yq0 ym0 yr0] 26) := by
   exact qr
  obtain ⟨qr, ho, hl⟩ := hX1 1 _ rfl
  have e1_1 : u1 1 = .pointer (some ⟨lc1 1, 0, none⟩) := (hl 1 rfl).1
  have g1_1 := (hl 1 rfl).2
  have f1_3 := h1.kept hK1
  have f1_4 := yg1.kept hK1
  have f1_5 := yk1.kept hK1
  have q1_1 : W1.heap[(lc1 1)]? = some (.cells #[.bool false, .slice yp1 yl1 yd1, .bool ye1, .slice yq1 ym1 yr1] 26) := by
   exact qr
  obtain ⟨qr, ho, hl⟩ := hX1 2 _ rfl
  have e1_2 : u1 2 = .pointer (some ⟨lc1 2, 0, none⟩) := (hl 2 rfl).1
  have g1_2 := (hl 2 rfl).2
  have q1_2 : W1.heap[(lc1 2)]? = some (.cells #[.bool false, .slice none 0 0, .bool false, .slice none 0 0] 26) := by
   exact qr
  have ne1_0_2 := hA1 0 2 _ _ rfl rfl (by decide)
  have ne1_1_2 := hA1 1 2 _ _ rfl rfl (by decide)
  simp only [putK, fC, fN, kZ, kS, vV, vA, sI, sZ, sS, e1_0, e1_1, e1_2]
  have hBt1 := hB0.trans hB1
  clear hV1 hX1 hA1
  go_upto_region 1 with fail
  refine rg (n := 9) (t16 := 48) w.heap.size [] [.val (.agg #[.bool (decide (r.num < 0)), .slice yp0 yl0 yd0, .bool ye0, .slice yq0 ym0 yr0]), .val (.agg #[.bool false, .slice yp1 yl1 yd1, .bool ye1, .slice yq1 ym1 yr1]), .any, vT, vF, vF, .val (.int .u8 m), vF, vF, vF, .val (.int .u8 m), vF, vF, vF] [(0, 17), (1, 18), (2, 19), (3, 20), (4, 21), (5, 22), (6, 23), (7, 24), (8, 25), (9, 26), (10, 27), (11, 28), (12, 29), (13, 16)] [⟨26, some 2, 0, fun B => .slice (some ⟨B, 0, none⟩) 2 2, 8, [.c #[.bool (decide (r.num < 0)), .slice yp0 yl0 yd0, .bool ye0, .slice yq0 ym0 yr0, .bool false, .slice yp1 yl1 yd1, .bool ye1, .slice yq1 ym1 yr1]], []⟩] ?ok2 ?st2 ?al2 ?pu2 ?en2
  case ok2 => exact BxOK.fresh rfl hBt1.size
  case st2 =>
   intro zi zo ho hro a' u lc W hM
   match zi, ho, hro with
   | 0, ho, _ => cases ho; exact wn (kL26 rfl (hM.ol 3) (hM.o0 q1_0))
   | 1, ho, _ => cases ho; exact wn (kL26 rfl (hM.ol 4) (hM.o0 q1_1))
   | 2, _, hro => exact nr1 hro (by kernel_rfl)
   | 3, ho, _ => cases ho; exact wn (kCall1 rfl may65 ((hM.v 2 19 rfl).trans (hM.loc 0 _ 2 rfl rfl (by kernel_rfl))) (c65q (hM.full 0 _ rfl (by kernel_rfl) rfl) HR.out HS.out (f1_0.kept hM.kept) (f1_3.kept hM.kept)))
   | 4, ho, _ => cases ho; exact wn (kNot rfl (hM.d 3 20 rfl) rfl)
   | 5, ho, _ => cases ho; exact wn (kMove rfl (hM.d 4 21 rfl))
   | 6, ho, _ => cases ho; exact hM.wg (hM.d 5 22 rfl) (kMove rfl (hM.ol 2))
   | 7, ho, _ => cases ho; exact hM.wg (hM.d 5 22 rfl) (kLss5 rfl (hM.d 6 23 rfl) rfl HM1.out)
   | 8, ho, _ => cases ho; exact wn (kPick rfl (hM.d 5 22 rfl) (hM.d 7 24 rfl))
   | 9, ho, _ => cases ho; exact wn (kMove rfl (hM.d 8 25 rfl))
   | 10, ho, _ => cases ho; exact hM.wg (hM.d 9 26 rfl) (kMove rfl (hM.ol 2))
   | 11, ho, _ => cases ho; exact hM.wg (hM.d 9 26 rfl) (kGtr5 rfl (hM.d 10 27 rfl) rfl HM6.out)
   | 12, ho, _ => cases ho; exact wn (kPick rfl (hM.d 9 26 rfl) (hM.d 11 28 rfl))
   | 13, ho, _ => cases ho; exact wn (kAssign rfl (hM.d 12 29 rfl))
   | zk + 14, ho, _ => simp at ho
  case al2 =>
   intro zk zb zi zo hk ha ho a' u lc W hM
   match zk, hk with
   | 0, hk => cases hk; cases ha; cases ho; exact ⟨rfl, rfl, rfl, rfl, kSlice2 rfl (hM.d 0 17 rfl) (hM.d 1 18 rfl)⟩
   | zk + 1, hk => simp at hk
  case pu2 =>
   intro zk zb zs zo hk hs ho a' u lc W zc hM hc hcs
   match zk, hk with
   | 0, hk => cases hk; simp at hs
   | zk + 1, hk => simp at hk
  case en2 =>
   intro u2 lc2 W2 hK2 hB2 hO2 hV2 hX2 hA2
   have e2_0 := kv (hV2 0 17 rfl) rfl
   obtain ⟨qr, ho, hl⟩ := hX2 0 _ rfl
   have e2_2 : u2 2 = .slice (some ⟨lc2 0, 0, none⟩) 2 2 := (hl 2 rfl).1
   have g2_0 := (hl 2 rfl).2
   have f2_0 := f1_0.kept hK2
   have f2_1 := f1_1.kept hK2
   have f2_2 := f1_2.kept hK2
   have f2_3 := f1_3.kept hK2
   have f2_4 := f1_4.kept hK2
   have f2_5 := f1_5.kept hK2
   have q2_0 : W2.heap[(lc2 0)]? = some (.cells #[.bool (decide (r.num < 0)), .slice yp0 yl0 yd0, .bool ye0, .slice yq0 ym0 yr0, .bool false, .slice yp1 yl1 yd1, .bool ye1, .slice yq1 ym1 yr1] 26) := by
    exact qr
   have ne2_0_1_2 := Nat.ne_of_lt (Nat.lt_of_lt_of_le (Array.getElem?_eq_some_iff.1 q1_2).1 g2_0)
   have q2_1_0 := oth0 hO2 q1_0
   have q2_1_1 := oth0 hO2 q1_1
   have q2_1_2 := oth0 hO2 q1_2
   simp only [putK, fC, fN, kZ, kS, vV, vA, sI, sZ, sS, e2_2]
   have hBt2 := hBt1.trans hB2
   clear hV2 hX2 hA2
   go_upto_region 3 with fail
   refine rg0 (n := 9) (t16 := 48) w.heap.size [.val (.pointer (some ⟨(lc1 1), 0, none⟩)), .val (.pointer (some ⟨(lc1 1), 0, none⟩)), vF, vF, .val (.agg #[.bool false, .slice yp1 yl1 yd1, .bool ye1, .slice yq1 ym1 yr1]), .val (.agg #[.bool false, .slice yp1 yl1 yd1, .bool ye1, .slice yq1 ym1 yr1]), vF, vF, vF] [(0, 32), (1, 33), (2, 34), (3, 35), (4, 36), (5, 37), (6, 38), (7, 39), (8, 31)] hBt2.size ?st3 ?en3
   case st3 =>
    intro zi zo ho hro a' u lc W hM
    match zi, ho, hro with
    | 0, ho, _ => cases ho; exact wn (kField26_0 rfl (hM.ol 4))
    | 1, ho, _ => cases ho; exact wn (kField24_0 rfl (hM.d 0 32 rfl))
    | 2, ho, _ => cases ho; exact wn (kLoad1 Tryz.underlying4 rfl rfl (hM.d 1 33 rfl) (hM.o0 q2_1_1) rfl rfl)
    | 3, ho, _ => cases ho; exact wn (kMove rfl (hM.d 2 34 rfl))
    | 4, ho, _ => cases ho; exact hM.wg (hM.d 3 35 rfl) (kL26 rfl (hM.ol 4) (hM.o0 q2_1_1))
    | 5, ho, _ => cases ho; exact hM.wg (hM.d 3 35 rfl) (kBuild73 rfl (hM.d 4 36 rfl) rfl)
    | 6, ho, _ => cases ho; exact hM.wg (hM.d 3 35 rfl) (kCall1 rfl may66 (hM.d 5 37 rfl) (c66 HZ.out (f2_3.kept hM.kept)))
    | 7, ho, _ => cases ho; exact wn (kPick rfl (hM.d 3 35 rfl) (hM.d 6 38 rfl))
    | 8, ho, _ => cases ho; exact wn (kAssign rfl (hM.d 7 39 rfl))
    | zk + 9, ho, _ => simp at ho
   case en3 =>
    intro u3 lc3 W3 hK3 hB3 hO3 hV3 hX3 hA3
    have q3_1_0 := oth0 hO3 q2_1_0
    have f3_0 := f2_0.kept hK3
    have f3_1 := f2_1.kept hK3
    have f3_2 := f2_2.kept hK3
    have q3_1_1 := oth0 hO3 q2_1_1
    have f3_3 := f2_3.kept hK3
    have f3_4 := f2_4.kept hK3
    have f3_5 := f2_5.kept hK3
    have q3_1_2 := oth0 hO3 q2_1_2
    have q3_2_0 := oth0 hO3 q2_0
    simp only [putK, fC, fN, kZ, kS, vV, sI, sZ, sS]
    have hBt3 := hBt2.trans hB3
    clear hV3 hX3 hA3
    go_upto_region 5 with fail
    refine rg (n := 9) (t16 := 48) w.heap.size [] [.val (.pointer (some ⟨(lc1 0), 0, none⟩)), .val (.agg #[.bool (decide (r.num < 0)), .slice yp0 yl0 yd0]), .val (.pointer (some ⟨(lc1 1), 2, none⟩)), .val (.agg #[.bool ye1, .slice yq1 ym1 yr1]), .k (num x), .val (.pointer (some ⟨(lc1 0), 2, none⟩)), .val (.agg #[.bool ye0, .slice yq0 ym0 yr0]), .val (.pointer (some ⟨(lc1 1), 0, none⟩)), .val (.agg #[.bool false, .slice yp1 yl1 yd1]), .k (num y), .any, .any, .any, .any] [(0, 41), (1, 42), (2, 43), (3, 44), (4, 45), (5, 46), (6, 47), (7, 48), (8, 49), (9, 50), (10, 8), (11, 9)] [⟨24, some 10, 0, pt, 2, [.c #[.bool false, .slice none 0 0]], [(12, 0, 4)]⟩, ⟨24, some 11, 0, pt, 2, [.c #[.bool false, .slice none 0 0]], [(13, 0, 9)]⟩] ?ok4 ?st4 ?al4 ?pu4 ?en4
    case ok4 => exact BxOK.fresh rfl hBt3.size
    case st4 =>
     intro zi zo ho hro a' u lc W hM
     match zi, ho, hro with
     | 0, ho, _ => cases ho; exact wn (kField26_0 rfl (hM.ol 3))
     | 1, ho, _ => cases ho; exact wn (kL24 rfl (hM.d 0 41 rfl) (hM.o0 q3_1_0) rfl)
     | 2, ho, _ => cases ho; exact wn (kField26_1 rfl (hM.ol 4))
     | 3, ho, _ => cases ho; exact wn (kL24 rfl (hM.d 2 43 rfl) (hM.o0 q3_1_1) rfl)
     | 4, ho, _ => cases ho; exact wn (kCall2 rfl may67 (hM.d 1 42 rfl) (hM.d 3 44 rfl) (c67 HN.out CN.out (f3_1.kept hM.kept) (f3_5.kept hM.kept)))
     | 5, ho, _ => cases ho; exact wn (kField26_1 rfl (hM.ol 3))
     | 6, ho, _ => cases ho; exact wn (kL24 rfl (hM.d 5 46 rfl) (hM.o0 q3_1_0) rfl)
     | 7, ho, _ => cases ho; exact wn (kField26_0 rfl (hM.ol 4))
     | 8, ho, _ => cases ho; exact wn (kL24 rfl (hM.d 7 48 rfl) (hM.o0 q3_1_1) rfl)
     | 9, ho, _ => cases ho; exact wn (kCall2 rfl may67 (hM.d 6 47 rfl) (hM.d 8 49 rfl) (c67 HD.out CD.out (f3_2.kept hM.kept) (f3_4.kept hM.kept)))
     | 10, _, hro => exact nr1 hro (by kernel_rfl)
     | 11, _, hro => exact nr1 hro (by kernel_rfl)
     | 12, _, hro => exact nr1 hro (by kernel_rfl)
     | 13, _, hro => exact nr1 hro (by kernel_rfl)
     | zk + 14, ho, _ => simp at ho
    case al4 =>
     intro zk zb zi zo hk ha ho a' u lc W hM
     match zk, hk with
     | 0, hk => cases hk; cases ha; cases ho; exact ⟨rfl, rfl, rfl, rfl, kAlloc24 rfl⟩
     | 1, hk => cases hk; cases ha; cases ho; exact ⟨rfl, rfl, rfl, rfl, kAlloc24 rfl⟩
     | zk + 2, hk => simp at hk
    case pu4 =>
     intro zk zb zs zo hk hs ho a' u lc W zc hM hc hcs
     match zk, hk with
     | 0, hk =>
      cases hk
      simp only [List.mem_cons, List.not_mem_nil, or_false] at hs
      rcases hs with rfl
      · cases ho
        obtain ⟨sb, sp, sl, sc, e⟩ := (show Is (num x) (u 4) W from (hM.kd 4)).form
        exact kPut rfl e ((hM.v 10 8 rfl).trans (hM.loc 0 _ 10 rfl rfl (by kernel_rfl))) (hM.v 4 45 rfl) hc hcs sz24
     | 1, hk =>
      cases hk
      simp only [List.mem_cons, List.not_mem_nil, or_false] at hs
      rcases hs with rfl
      · cases ho
        obtain ⟨sb, sp, sl, sc, e⟩ := (show Is (num y) (u 9) W from (hM.kd 9)).form
        exact kPut rfl e ((hM.v 11 9 rfl).trans (hM.loc 1 _ 11 rfl rfl (by kernel_rfl))) (hM.v 9 50 rfl) hc hcs sz24
     | zk + 2, hk => simp at hk
    case en4 =>
     intro u4 lc4 W4 hK4 hB4 hO4 hV4 hX4 hA4
     have e4_0 := kv (hV4 0 41 rfl) rfl
     have e4_1 := kv (hV4 1 42 rfl) rfl
     have k4_4 := kk (hV4 4 45 rfl) rfl
     have k4_9 := kk (hV4 9 50 rfl) rfl
     obtain ⟨qr, ho, hl⟩ := hX4 0 _ rfl
     have e4_10 : u4 10 = .pointer (some ⟨lc4 0, 0, none⟩) := (hl 10 rfl).1
     have g4_0 := (hl 10 rfl).2
     obtain ⟨x4_12, y4_12, z4_12, c4_12, es4_12⟩ := k4_4.form
     have sk4_12 : Is (num x) (.agg #[.bool x4_12, .slice y4_12 z4_12 c4_12]) W4 := by rw [← es4_12]; exact k4_4
     have q4_0 : W4.heap[(lc4 0)]? = some (.cells #[.bool x4_12, .slice y4_12 z4_12 c4_12] 24) := by
      rw [contAll_one rfl (cs := #[.bool x4_12, .slice y4_12 z4_12 c4_12]) (by rw [es4_12]; rfl) rfl] at qr; exact qr
     obtain ⟨qr, ho, hl⟩ := hX4 1 _ rfl
     have e4_11 : u4 11 = .pointer (some ⟨lc4 1, 0, none⟩) := (hl 11 rfl).1
     have g4_1 := (hl 11 rfl).2
     obtain ⟨x4_13, y4_13, z4_13, c4_13, es4_13⟩ := k4_9.form
     have sk4_13 : Is (num y) (.agg #[.bool x4_13, .slice y4_13 z4_13 c4_13]) W4 := by rw [← es4_13]; exact k4_9
     have q4_1 : W4.heap[(lc4 1)]? = some (.cells #[.bool x4_13, .slice y4_13 z4_13 c4_13] 24) := by
      rw [contAll_one rfl (cs := #[.bool x4_13, .slice y4_13 z4_13 c4_13]) (by rw [es4_13]; rfl) rfl] at qr; exact qr
     have ne4_0_1_2 := Nat.ne_of_lt (Nat.lt_of_lt_of_le (Array.getElem?_eq_some_iff.1 q3_1_2).1 g4_0)
     have ne4_1_1_2 := Nat.ne_of_lt (Nat.lt_of_lt_of_le (Array.getElem?_eq_some_iff.1 q3_1_2).1 g4_1)
     have q4_1_0 := oth0 hO4 q3_1_0
     have f4_0 := f3_0.kept hK4
     have f4_1 := f3_1.kept hK4
     have f4_2 := f3_2.kept hK4
     have q4_1_1 := oth0 hO4 q3_1_1
     have f4_3 := f3_3.kept hK4
     have f4_4 := f3_4.kept hK4
     have f4_5 := f3_5.kept hK4
     have q4_1_2 := oth0 hO4 q3_1_2
     have q4_2_0 := oth0 hO4 q3_2_0
     simp only [putK, fC, fN, kZ, kS, vV, vA, vK, sI, sZ, sS, e4_10, e4_11]
     have hBt4 := hBt3.trans hB4
     clear hV4 hX4 hA4
     go_upto_region 6 with fail
     refine rg (n := 9) (t16 := 48) w.heap.size [] [.val (.agg #[.bool x4_12, .slice y4_12 z4_12 c4_12]), .val (.agg #[.bool x4_13, .slice y4_13 z4_13 c4_13]), .k (tup3 (.k (num k)) (.k (num z)) (vZ)), .k (tup3 (.k (num k)) (.k (num z)) (vZ)), .k (num k), .k (num z), vZ, .any, .any, .any, .any, vZ] [(0, 52), (1, 53), (2, 54), (3, 51), (4, 55), (5, 56), (6, 57), (7, 10), (8, 11), (11, 12)] [⟨24, some 7, 0, pt, 2, [.c #[.bool false, .slice none 0 0]], [(9, 0, 4)]⟩, ⟨24, some 8, 0, pt, 2, [.c #[.bool false, .slice none 0 0]], [(10, 0, 5)]⟩] ?ok5 ?st5 ?al5 ?pu5 ?en5
     case ok5 => exact BxOK.fresh rfl hBt4.size
     case st5 =>
      intro zi zo ho hro a' u lc W hM
      match zi, ho, hro with
      | 0, ho, _ => cases ho; exact wn (kL24 rfl (hM.ol 8) (hM.o0 q4_0) rfl)
      | 1, ho, _ => cases ho; exact wn (kL24 rfl (hM.ol 9) (hM.o0 q4_1) rfl)
      | 2, ho, _ => cases ho; exact wn (kCall2 rfl may68 (hM.d 0 52 rfl) (hM.d 1 53 rfl) (c68 HD0.out HFL.out (sk4_12.kept hM.kept) (sk4_13.kept hM.kept)))
      | 3, ho, _ => cases ho; exact wn (kMove rfl (hM.d 2 54 rfl))
      | 4, ho, _ => cases ho; exact wn (kEx30 rfl (hM.d 3 51 rfl))
      | 5, ho, _ => cases ho; exact wn (kEx31 rfl (hM.d 3 51 rfl))
      | 6, ho, _ => cases ho; exact wn (kEx32 rfl (hM.d 3 51 rfl))
      | 7, _, hro => exact nr1 hro (by kernel_rfl)
      | 8, _, hro => exact nr1 hro (by kernel_rfl)
      | 9, _, hro => exact nr1 hro (by kernel_rfl)
      | 10, _, hro => exact nr1 hro (by kernel_rfl)
      | 11, ho, _ => cases ho; exact wn (kAssign rfl (hM.d 6 57 rfl))
      | zk + 12, ho, _ => simp at ho
     case al5 =>
      intro zk zb zi zo hk ha ho a' u lc W hM
      match zk, hk with
      | 0, hk => cases hk; cases ha; cases ho; exact ⟨rfl, rfl, rfl, rfl, kAlloc24 rfl⟩
      | 1, hk => cases hk; cases ha; cases ho; exact ⟨rfl, rfl, rfl, rfl, kAlloc24 rfl⟩
      | zk + 2, hk => simp at hk
     case pu5 =>
      intro zk zb zs zo hk hs ho a' u lc W zc hM hc hcs
      match zk, hk with
      | 0, hk =>
       cases hk
       simp only [List.mem_cons, List.not_mem_nil, or_false] at hs
       rcases hs with rfl
       · cases ho
         obtain ⟨sb, sp, sl, sc, e⟩ := (show Is (num k) (u 4) W from (hM.kd 4)).form
         exact kPut rfl e ((hM.v 7 10 rfl).trans (hM.loc 0 _ 7 rfl rfl (by kernel_rfl))) (hM.v 4 55 rfl) hc hcs sz24
      | 1, hk =>
       cases hk
       simp only [List.mem_cons, List.not_mem_nil, or_false] at hs
       rcases hs with rfl
       · cases ho
         obtain ⟨sb, sp, sl, sc, e⟩ := (show Is (num z) (u 5) W from (hM.kd 5)).form
         exact kPut rfl e ((hM.v 8 11 rfl).trans (hM.loc 1 _ 8 rfl rfl (by kernel_rfl))) (hM.v 5 56 rfl) hc hcs sz24
      | zk + 2, hk => simp at hk
     case en5 =>
      intro u5 lc5 W5 hK5 hB5 hO5 hV5 hX5 hA5
      have e5_0 := kv (hV5 0 52 rfl) rfl
      have e5_1 := kv (hV5 1 53 rfl) rfl
      have k5_2 := kk (hV5 2 54 rfl) rfl
      have k5_3 := kk (hV5 3 51 rfl) rfl
      have k5_4 := kk (hV5 4 55 rfl) rfl
      have k5_5 := kk (hV5 5 56 rfl) rfl
      obtain ⟨qr, ho, hl⟩ := hX5 0 _ rfl
      have e5_7 : u5 7 = .pointer (some ⟨lc5 0, 0, none⟩) := (hl 7 rfl).1
      have g5_0 := (hl 7 rfl).2
      obtain ⟨x5_9, y5_9, z5_9, c5_9, es5_9⟩ := k5_4.form
      have sk5_9 : Is (num k) (.agg #[.bool x5_9, .slice y5_9 z5_9 c5_9]) W5 := by rw [← es5_9]; exact k5_4
      have q5_0 : W5.heap[(lc5 0)]? = some (.cells #[.bool x5_9, .slice y5_9 z5_9 c5_9] 24) := by
       rw [contAll_one rfl (cs := #[.bool x5_9, .slice y5_9 z5_9 c5_9]) (by rw [es5_9]; rfl) rfl] at qr; exact qr
      obtain ⟨qr, ho, hl⟩ := hX5 1 _ rfl
      have e5_8 : u5 8 = .pointer (some ⟨lc5 1, 0, none⟩) := (hl 8 rfl).1
      have g5_1 := (hl 8 rfl).2
      obtain ⟨x5_10, y5_10, z5_10, c5_10, es5_10⟩ := k5_5.form
      have sk5_10 : Is (num z) (.agg #[.bool x5_10, .slice y5_10 z5_10 c5_10]) W5 := by rw [← es5_10]; exact k5_5
      have q5_1 : W5.heap[(lc5 1)]? = some (.cells #[.bool x5_10, .slice y5_10 z5_10 c5_10] 24) := by
       rw [contAll_one rfl (cs := #[.bool x5_10, .slice y5_10 z5_10 c5_10]) (by rw [es5_10]; rfl) rfl] at qr; exact qr
      have ne5_0_1 := hA5 0 1 _ _ rfl rfl (by decide)
      have ne5_0_1_0 := Nat.ne_of_lt (Nat.lt_of_lt_of_le (Array.getElem?_eq_some_iff.1 q4_1_0).1 g5_0)
      have ne5_0_1_1 := Nat.ne_of_lt (Nat.lt_of_lt_of_le (Array.getElem?_eq_some_iff.1 q4_1_1).1 g5_0)
      have ne5_0_1_2 := Nat.ne_of_lt (Nat.lt_of_lt_of_le (Array.getElem?_eq_some_iff.1 q4_1_2).1 g5_0)
      have ne5_0_2_0 := Nat.ne_of_lt (Nat.lt_of_lt_of_le (Array.getElem?_eq_some_iff.1 q4_2_0).1 g5_0)
      have ne5_0_4_0 := Nat.ne_of_lt (Nat.lt_of_lt_of_le (Array.getElem?_eq_some_iff.1 q4_0).1 g5_0)
      have ne5_0_4_1 := Nat.ne_of_lt (Nat.lt_of_lt_of_le (Array.getElem?_eq_some_iff.1 q4_1).1 g5_0)
      have ne5_1_1_2 := Nat.ne_of_lt (Nat.lt_of_lt_of_le (Array.getElem?_eq_some_iff.1 q4_1_2).1 g5_1)
      have q5_1_0 := oth0 hO5 q4_1_0
      have f5_0 := f4_0.kept hK5
      have f5_1 := f4_1.kept hK5
      have f5_2 := f4_2.kept hK5
      have q5_1_1 := oth0 hO5 q4_1_1
      have f5_3 := f4_3.kept hK5
      have f5_4 := f4_4.kept hK5
      have f5_5 := f4_5.kept hK5
      have q5_1_2 := oth0 hO5 q4_1_2
      have q5_2_0 := oth0 hO5 q4_2_0
      have q5_4_0 := oth0 hO5 q4_0
      have f5_6 := sk4_12.kept hK5
      have q5_4_1 := oth0 hO5 q4_1
      have f5_7 := sk4_13.kept hK5
      have f5_8 := k4_4.kept hK5
      have f5_9 := k4_9.kept hK5
      simp only [putK, fC, fN, kZ, kS, vV, vA, vK, sI, sZ, sS, e5_7, e5_8]
      have hBt5 := hBt4.trans hB5
      clear hV5 hX5 hA5
      have hl0 := num_len sk5_10
      have hll : decide (0 < ((z5_10 : Nat) : Int)) = true := decide_eq_true (by have := HZP.out; omega)
      have HLL := Lib.hid hll
      clear hll hl0
      go_upto_region 7 with fail
      refine rg0 (n := 9) (t16 := 48) w.heap.size [.val (.pointer (some ⟨(lc5 1), 1, none⟩)), .val (.slice y5_10 z5_10 c5_10), .val (.int .i64 ((z5_10 : Nat) : Int)), vT] [(0, 58), (1, 59), (2, 60), (3, 61)] hBt5.size ?st6 ?en6
      case st6 =>
       intro zi zo ho hro a' u lc W hM
       match zi, ho, hro with
       | 0, ho, _ => cases ho; exact wn (kField24_1 rfl (hM.ol 11))
       | 1, ho, _ => cases ho; exact wn (kLoad1 Tryz.underlying22 rfl rfl (hM.d 0 58 rfl) (hM.o0 q5_1) rfl rfl)
       | 2, ho, _ => cases ho; exact wn (kLen rfl (hM.d 1 59 rfl))
       | 3, ho, _ => cases ho; exact wn (kGtr3 rfl (hM.d 2 60 rfl) rfl HLL.out)
       | zk + 4, ho, _ => simp at ho
      case en6 =>
       intro u6 lc6 W6 hK6 hB6 hO6 hV6 hX6 hA6
       have q6_1_0 := oth0 hO6 q5_1_0
       have f6_0 := f5_0.kept hK6
       have f6_1 := f5_1.kept hK6
       have f6_2 := f5_2.kept hK6
       have q6_1_1 := oth0 hO6 q5_1_1
       have f6_3 := f5_3.kept hK6
       have f6_4 := f5_4.kept hK6
       have f6_5 := f5_5.kept hK6
       have q6_1_2 := oth0 hO6 q5_1_2
       have q6_2_0 := oth0 hO6 q5_2_0
       have q6_4_0 := oth0 hO6 q5_4_0
       have f6_6 := f5_6.kept hK6
       have q6_4_1 := oth0 hO6 q5_4_1
       have f6_7 := f5_7.kept hK6
       have q6_5_0 := oth0 hO6 q5_0
       have f6_8 := sk5_9.kept hK6
       have q6_5_1 := oth0 hO6 q5_1
       have f6_9 := sk5_10.kept hK6
       have f6_10 := f5_8.kept hK6
       have f6_11 := f5_9.kept hK6
       have f6_12 := k5_2.kept hK6
       have f6_13 := k5_3.kept hK6
       have f6_14 := k5_4.kept hK6
       have f6_15 := k5_5.kept hK6
       simp only [putK, fC, fN, kZ, kS, vV, sI, sZ, sS]
       have hBt6 := hBt5.trans hB6
       clear hV6 hX6 hA6
       go_upto_region 8 with fail
       refine rg0 (n := 9) (t16 := 48) w.heap.size [.val (.agg #[.bool x5_10, .slice y5_10 z5_10 c5_10]), .val (.agg #[.bool x5_10, .slice y5_10 z5_10 c5_10]), .k (num (z + z)), .val (.agg #[.bool x4_13, .slice y4_13 z4_13 c4_13]), .val (.int .i64 (cmpI (z + z) y)), .val (.int .i64 (cmpI (z + z) y))] [(0, 62), (1, 63), (2, 64), (3, 65), (4, 66), (5, 13)] hBt6.size ?st7 ?en7
       case st7 =>
        intro zi zo ho hro a' u lc W hM
        match zi, ho, hro with
        | 0, ho, _ => cases ho; exact wn (kL24 rfl (hM.ol 11) (hM.o0 q6_5_1) rfl)
        | 1, ho, _ => cases ho; exact wn (kL24 rfl (hM.ol 11) (hM.o0 q6_5_1) rfl)
        | 2, ho, _ => cases ho; exact wn (kCall2 rfl may70 (hM.d 0 62 rfl) (hM.d 1 63 rfl) (c70 rfl HZC.out (f6_9.kept hM.kept) (f6_9.kept hM.kept)))
        | 3, ho, _ => cases ho; exact wn (kL24 rfl (hM.ol 9) (hM.o0 q6_4_1) rfl)
        | 4, ho, _ => cases ho; exact wn (kCall2 rfl may69 (hM.v 2 64 rfl) (hM.d 3 65 rfl) (c69 (hM.kd 2) (f6_7.kept hM.kept)))
        | 5, ho, _ => cases ho; exact wn (kAssign rfl (hM.d 4 66 rfl))
        | zk + 6, ho, _ => simp at ho
       case en7 =>
        intro u7 lc7 W7 hK7 hB7 hO7 hV7 hX7 hA7
        have k7_2 := kk (hV7 2 64 rfl) rfl
        have q7_1_0 := oth0 hO7 q6_1_0
        have f7_0 := f6_0.kept hK7
        have f7_1 := f6_1.kept hK7
        have f7_2 := f6_2.kept hK7
        have q7_1_1 := oth0 hO7 q6_1_1
        have f7_3 := f6_3.kept hK7
        have f7_4 := f6_4.kept hK7
        have f7_5 := f6_5.kept hK7
        have q7_1_2 := oth0 hO7 q6_1_2
        have q7_2_0 := oth0 hO7 q6_2_0
        have q7_4_0 := oth0 hO7 q6_4_0
        have f7_6 := f6_6.kept hK7
        have q7_4_1 := oth0 hO7 q6_4_1
        have f7_7 := f6_7.kept hK7
        have q7_5_0 := oth0 hO7 q6_5_0
        have f7_8 := f6_8.kept hK7
        have q7_5_1 := oth0 hO7 q6_5_1
        have f7_9 := f6_9.kept hK7
        have f7_10 := f6_10.kept hK7
        have f7_11 := f6_11.kept hK7
        have f7_12 := f6_12.kept hK7
        have f7_13 := f6_13.kept hK7
        have f7_14 := f6_14.kept hK7
        have f7_15 := f6_15.kept hK7
        simp only [putK, fC, fN, kZ, kS, vV, vK, sI, sZ, sS]
        have hBt7 := hBt6.trans hB7
        clear hV7 hX7 hA7
        obtain ⟨lb, lo, zs, p0, hpf, hlp, flim, hp0, hp1, hp2⟩ := lim_first f7_8 HK0.out
        subst hpf
        have hod : decide (((p0 % 2 : Nat) : Int) = 1) = o := by rw [← HO.out]; exact decide_eq_decide.2 (by omega)
        have hkl : decide (0 < ((z5_9 : Nat) : Int)) = true := decide_eq_true (by omega)
        have HLP := Lib.hid hlp
        have HP0 := Lib.hid hp0
        have HP1 := Lib.hid hp1
        have HOD := Lib.hid hod
        have HKL := Lib.hid hkl
        clear hlp hp0 hp1 hp2 hod hkl
        go_upto_region 9 with fail
        refine rg0 (n := 9) (t16 := 48) w.heap.size [.val (.pointer (some ⟨(lc5 0), 1, none⟩)), .val (.slice (some ⟨lb, lo, none⟩) z5_9 c5_9), .val (.int .i64 ((z5_9 : Nat) : Int)), vT, vT, .val (.pointer (some ⟨(lc5 0), 1, none⟩)), .val (.slice (some ⟨lb, lo, none⟩) z5_9 c5_9), .val (.pointer (some ⟨lb, lo, none⟩)), .val (.int .u16 ((p0 : Nat) : Int)), .val (.int .u16 ((p0 % 2 : Nat) : Int)), .val (.bool o), .val (.bool o), .val (.bool o)] [(0, 67), (1, 68), (2, 69), (3, 70), (4, 71), (5, 72), (6, 73), (7, 74), (8, 75), (9, 76), (10, 77), (11, 78), (12, 14)] hBt7.size ?st8 ?en8
        case st8 =>
         intro zi zo ho hro a' u lc W hM
         match zi, ho, hro with
         | 0, ho, _ => cases ho; exact wn (kField24_1 rfl (hM.ol 10))
         | 1, ho, _ => cases ho; exact wn (kLoad1 Tryz.underlying22 rfl rfl (hM.d 0 67 rfl) (hM.o0 q7_5_0) rfl rfl)
         | 2, ho, _ => cases ho; exact wn (kLen rfl (hM.d 1 68 rfl))
         | 3, ho, _ => cases ho; exact wn (kGtr3 rfl (hM.d 2 69 rfl) rfl HKL.out)
         | 4, ho, _ => cases ho; exact wn (kMove rfl (hM.d 3 70 rfl))
         | 5, ho, _ => cases ho; exact hM.wg (hM.d 4 71 rfl) (kField24_1 rfl (hM.ol 10))
         | 6, ho, _ => cases ho; exact hM.wg (hM.d 4 71 rfl) (kLoad1 Tryz.underlying22 rfl rfl (hM.d 5 72 rfl) (hM.o0 q7_5_0) rfl rfl)
         | 7, ho, _ => cases ho; exact hM.wg (hM.d 4 71 rfl) (kIndex22 rfl (hM.d 6 73 rfl) rfl HLP.out)
         | 8, ho, _ => cases ho; exact hM.wg (hM.d 4 71 rfl) (kLoadLim rfl (hM.d 7 74 rfl) (lim_cell0 (flim.kept hM.kept) HLP.out HP0.out))
         | 9, ho, _ => cases ho; exact hM.wg (hM.d 4 71 rfl) (kAnd48 rfl HP1.out (hM.d 8 75 rfl) rfl rfl)
         | 10, ho, _ => cases ho; exact hM.wg (hM.d 4 71 rfl) (kEql48 rfl (hM.d 9 76 rfl) rfl HOD.out)
         | 11, ho, _ => cases ho; exact wn (kPick rfl (hM.d 4 71 rfl) (hM.d 10 77 rfl))
         | 12, ho, _ => cases ho; exact wn (kAssign rfl (hM.d 11 78 rfl))
         | zk + 13, ho, _ => simp at ho
        case en8 =>
         intro u8 lc8 W8 hK8 hB8 hO8 hV8 hX8 hA8
         have q8_1_0 := oth0 hO8 q7_1_0
         have f8_0 := f7_0.kept hK8
         have f8_1 := f7_1.kept hK8
         have f8_2 := f7_2.kept hK8
         have q8_1_1 := oth0 hO8 q7_1_1
         have f8_3 := f7_3.kept hK8
         have f8_4 := f7_4.kept hK8
         have f8_5 := f7_5.kept hK8
         have q8_1_2 := oth0 hO8 q7_1_2
         have q8_2_0 := oth0 hO8 q7_2_0
         have q8_4_0 := oth0 hO8 q7_4_0
         have f8_6 := f7_6.kept hK8
         have q8_4_1 := oth0 hO8 q7_4_1
         have f8_7 := f7_7.kept hK8
         have q8_5_0 := oth0 hO8 q7_5_0
         have f8_8 := f7_8.kept hK8
         have f8_9 := flim.kept hK8
         have q8_5_1 := oth0 hO8 q7_5_1
         have f8_10 := f7_9.kept hK8
         have f8_11 := f7_10.kept hK8
         have f8_12 := f7_11.kept hK8
         have f8_13 := f7_12.kept hK8
         have f8_14 := f7_13.kept hK8
         have f8_15 := f7_14.kept hK8
         have f8_16 := f7_15.kept hK8
         have f8_17 := k7_2.kept hK8
         simp only [putK, fC, fN, kZ, kS, vV, sI, sZ, sS]
         have hBt8 := hBt7.trans hB8
         clear hV8 hX8 hA8
         by_cases huq : upsB m (decide (r.num < 0)) (cmpI (z + z) y) o = true
         · have HUQ := Lib.hid huq
           clear huq
           have HUP := HUQ
           have cr0 := cell_of q8_1_0 0 rfl
           have hm1 := HM1.out
           have hm6 := HM6.out
           obtain ⟨F, caps, hidx, hent, hcl⟩ := ups_at (m := m) (h := cmpI (z + z) y) (n := decide (r.num < 0)) (o := o) (W := W8) (of_decide_eq_false hm1) (of_decide_eq_false hm6)
           clear hm1 hm6
           rw [HUP.out] at hcl
           go_wp2_with (first | (go_at_call 71; refine c71.mono ?_; rintro e w' ⟨rfl, rfl⟩) | (refine hcl.mono ?_; rintro e w' ⟨rfl, rfl⟩))
           obtain ⟨wu, hwu⟩ : ∃ x, x = upsW (decide (r.num < 0)) (cmpI (z + z) y) o W8 := ⟨_, rfl⟩
           have hbl : Below W8.heap.size W8 wu := by rw [hwu]; exact upsW_below _ _ _ _
           rw [← hwu]
           clear hwu
           have qu0 := (hbl.block _ (Array.getElem?_eq_some_iff.1 q8_1_0).1).trans q8_1_0
           have fu0 := f8_0.kept (kept_below hbl 48)
           have fu1 := f8_1.kept (kept_below hbl 48)
           have fu2 := f8_2.kept (kept_below hbl 48)
           have qu1 := (hbl.block _ (Array.getElem?_eq_some_iff.1 q8_1_1).1).trans q8_1_1
           have fu3 := f8_3.kept (kept_below hbl 48)
           have fu4 := f8_4.kept (kept_below hbl 48)
           have fu5 := f8_5.kept (kept_below hbl 48)
           have qu2 := (hbl.block _ (Array.getElem?_eq_some_iff.1 q8_1_2).1).trans q8_1_2
           have qu3 := (hbl.block _ (Array.getElem?_eq_some_iff.1 q8_2_0).1).trans q8_2_0
           have qu4 := (hbl.block _ (Array.getElem?_eq_some_iff.1 q8_4_0).1).trans q8_4_0
           have fu6 := f8_6.kept (kept_below hbl 48)
           have qu5 := (hbl.block _ (Array.getElem?_eq_some_iff.1 q8_4_1).1).trans q8_4_1
           have fu7 := f8_7.kept (kept_below hbl 48)
           have qu6 := (hbl.block _ (Array.getElem?_eq_some_iff.1 q8_5_0).1).trans q8_5_0
           have fu8 := f8_8.kept (kept_below hbl 48)
           have fu9 := f8_9.kept (kept_below hbl 48)
           have qu7 := (hbl.block _ (Array.getElem?_eq_some_iff.1 q8_5_1).1).trans q8_5_1
           have fu10 := f8_10.kept (kept_below hbl 48)
           have fu11 := f8_11.kept (kept_below hbl 48)
           have fu12 := f8_12.kept (kept_below hbl 48)
           have fu13 := f8_13.kept (kept_below hbl 48)
           have fu14 := f8_14.kept (kept_below hbl 48)
           have fu15 := f8_15.kept (kept_below hbl 48)
           have fu16 := f8_16.kept (kept_below hbl 48)
           have fu17 := f8_17.kept (kept_below hbl 48)
           have hBu := hBt8.trans (hbl.mono hBt8.size)
           go_upto_region 11 with fail
           refine rg (n := 9) (t16 := 48) w.heap.size [(lc5 0)] [.val (.agg #[.bool x5_9, .slice (some ⟨lb, lo, none⟩) z5_9 c5_9]), .k (num 1), .k (num (k + 1)), .any] [(0, 88), (1, 89), (2, 90)] [⟨24, none, (lc5 0), pt, 2, [.c #[.bool x5_9, .slice (some ⟨lb, lo, none⟩) z5_9 c5_9]], [(3, 0, 2)]⟩] ?ok9 ?st9 ?al9 ?pu9 ?en9
           case ok9 => exact BxOK.one ⟨(Nat.le_trans hBt4.size g5_0), ⟨_, qu6, rfl, rfl, rfl⟩, by simp, (by decide : (24 : Nat) ≠ 48)⟩ rfl hBu.size
           case st9 =>
            intro zi zo ho hro a' u lc W hM
            match zi, ho, hro with
            | 0, ho, _ => cases ho; exact wn (kL24 rfl (hM.ol 10) (show W.heap[(lc5 0)]? = some (.cells #[.bool x5_9, .slice (some ⟨lb, lo, none⟩) z5_9 c5_9] 24) from by rw [← (show lc 0 = (lc5 0) from hM.locO 0 _ rfl rfl)]; exact hM.fresh 0 _ rfl (by kernel_rfl) (by kernel_rfl)) rfl)
            | 1, ho, _ => cases ho; exact wn (kCall1 rfl may72 rfl (c72 (by decide) (by decide)))
            | 2, ho, _ => cases ho; exact wn (kCall2 rfl may70 (hM.d 0 88 rfl) (hM.v 1 89 rfl) (c70 rfl HKC.out (fu8.kept hM.kept) (hM.kd 1)))
            | 3, _, hro => exact nr1 hro (by kernel_rfl)
            | zk + 4, ho, _ => simp at ho
           case al9 =>
            intro zk zb zi zo hk ha ho a' u lc W hM
            match zk, hk with
            | 0, hk => cases hk; cases ha
            | zk + 1, hk => simp at hk
           case pu9 =>
            intro zk zb zs zo hk hs ho a' u lc W zc hM hc hcs
            match zk, hk with
            | 0, hk =>
             cases hk
             simp only [List.mem_cons, List.not_mem_nil, or_false] at hs
             rcases hs with rfl
             · cases ho
               obtain ⟨sb, sp, sl, sc, e⟩ := (show Is (num (k + 1)) (u 2) W from (hM.kd 2)).form
               exact kPut rfl e ((hM.ol 10).trans (show _ = Value.pointer (some ⟨lc 0, 0, none⟩) from by rw [show lc 0 = (lc5 0) from hM.locO 0 _ rfl rfl] <;> rfl)) (hM.v 2 90 rfl) hc hcs sz24
            | zk + 1, hk => simp at hk
           case en9 =>
            intro u9 lc9 W9 hK9 hB9 hO9 hV9 hX9 hA9
            have k9_2 := kk (hV9 2 90 rfl) rfl
            obtain ⟨qr, ho, hl⟩ := hX9 0 _ rfl
            have elc : lc9 0 = (lc5 0) := ho rfl
            rw [elc] at qr
            obtain ⟨x9_3, y9_3, z9_3, c9_3, es9_3⟩ := k9_2.form
            have sk9_3 : Is (num (k + 1)) (.agg #[.bool x9_3, .slice y9_3 z9_3 c9_3]) W9 := by rw [← es9_3]; exact k9_2
            have q9_0 : W9.heap[(lc5 0)]? = some (.cells #[.bool x9_3, .slice y9_3 z9_3 c9_3] 24) := by
             rw [contAll_one rfl (cs := #[.bool x9_3, .slice y9_3 z9_3 c9_3]) (by rw [es9_3]; rfl) rfl] at qr; exact qr
            have q9_1_1 := oth1 hO9 qu1 (by omega)
            have f9_6 := fu4.kept hK9
            have f9_7 := fu5.kept hK9
            have q9_1_2 := oth1 hO9 qu2 (by omega)
            simp only [putK, fC, fN, kZ, kS, vV, vK, sI, sZ, sS]
            have hBt9 := hBu.trans hB9
            clear hV9 hX9 hA9
            have hkk := HK2.out HUQ.out
            subst hkk
            go_upto_region 12 with fail
            refine rg (n := 9) (t16 := 48) w.heap.size [] [.val (.agg #[.bool x9_3, .slice y9_3 z9_3 c9_3]), .val (.pointer (some ⟨(lc1 1), 2, none⟩)), .val (.agg #[.bool ye1, .slice yq1 ym1 yr1]), .k (num g), .any, .any] [(0, 91), (1, 92), (2, 93), (3, 94), (4, 15)] [⟨24, some 4, 0, pt, 2, [.c #[.bool false, .slice none 0 0]], [(5, 0, 3)]⟩] ?ok10 ?st10 ?al10 ?pu10 ?en10
            case ok10 => exact BxOK.fresh rfl hBt9.size
            case st10 =>
             intro zi zo ho hro a' u lc W hM
             match zi, ho, hro with
             | 0, ho, _ => cases ho; exact wn (kL24 rfl (hM.ol 10) (hM.o0 q9_0) rfl)
             | 1, ho, _ => cases ho; exact wn (kField26_1 rfl (hM.ol 4))
             | 2, ho, _ => cases ho; exact wn (kL24 rfl (hM.d 1 92 rfl) (hM.o0 q9_1_1) rfl)
             | 3, ho, _ => cases ho; exact wn (kCall2 rfl may73 (hM.d 0 91 rfl) (hM.d 2 93 rfl) (c73 HG.out (sk9_3.kept hM.kept) (f9_7.kept hM.kept)))
             | 4, _, hro => exact nr1 hro (by kernel_rfl)
             | 5, _, hro => exact nr1 hro (by kernel_rfl)
             | zk + 6, ho, _ => simp at ho
            case al10 =>
             intro zk zb zi zo hk ha ho a' u lc W hM
             match zk, hk with
             | 0, hk => cases hk; cases ha; cases ho; exact ⟨rfl, rfl, rfl, rfl, kAlloc24 rfl⟩
             | zk + 1, hk => simp at hk
            case pu10 =>
             intro zk zb zs zo hk hs ho a' u lc W zc hM hc hcs
             match zk, hk with
             | 0, hk =>
              cases hk
              simp only [List.mem_cons, List.not_mem_nil, or_false] at hs
              rcases hs with rfl
              · cases ho
                obtain ⟨sb, sp, sl, sc, e⟩ := (show Is (num g) (u 3) W from (hM.kd 3)).form
                exact kPut rfl e ((hM.v 4 15 rfl).trans (hM.loc 0 _ 4 rfl rfl (by kernel_rfl))) (hM.v 3 94 rfl) hc hcs sz24
             | zk + 1, hk => simp at hk
            case en10 =>
             intro u10 lc10 W10 hK10 hB10 hO10 hV10 hX10 hA10
             have e10_0 := kv (hV10 0 91 rfl) rfl
             have k10_3 := kk (hV10 3 94 rfl) rfl
             obtain ⟨qr, ho, hl⟩ := hX10 0 _ rfl
             have e10_4 : u10 4 = .pointer (some ⟨lc10 0, 0, none⟩) := (hl 4 rfl).1
             have g10_0 := (hl 4 rfl).2
             obtain ⟨x10_5, y10_5, z10_5, c10_5, es10_5⟩ := k10_3.form
             have sk10_5 : Is (num g) (.agg #[.bool x10_5, .slice y10_5 z10_5 c10_5]) W10 := by rw [← es10_5]; exact k10_3
             have q10_0 : W10.heap[(lc10 0)]? = some (.cells #[.bool x10_5, .slice y10_5 z10_5 c10_5] 24) := by
              rw [contAll_one rfl (cs := #[.bool x10_5, .slice y10_5 z10_5 c10_5]) (by rw [es10_5]; rfl) rfl] at qr; exact qr
             have ne10_0_1_2 := Nat.ne_of_lt (Nat.lt_of_lt_of_le (Array.getElem?_eq_some_iff.1 q9_1_2).1 g10_0)
             have q10_1_1 := oth0 hO10 q9_1_1
             have f10_4 := f9_6.kept hK10
             have f10_5 := f9_7.kept hK10
             have q10_1_2 := oth0 hO10 q9_1_2
             have q10_5_0 := oth0 hO10 q9_0
             have f10_8 := sk9_3.kept hK10
             simp only [putK, fC, fN, kZ, kS, vV, vA, vK, sI, sZ, sS, e10_4]
             have hBt10 := hBt9.trans hB10
             clear hV10 hX10 hA10
             go_upto_region 13 with fail
             refine rg (n := 9) (t16 := 48) w.heap.size [(lc1 2)] [.val (.agg #[.bool x9_3, .slice y9_3 z9_3 c9_3]), .val (.agg #[.bool x10_5, .slice y10_5 z10_5 c10_5]), .k (num i), .val (.pointer (some ⟨(lc1 1), 0, none⟩)), .val (.agg #[.bool false, .slice yp1 yl1 yd1]), .k (num q.num), .val (.pointer (some ⟨(lc1 1), 2, none⟩)), .val (.agg #[.bool ye1, .slice yq1 ym1 yr1]), .val (.agg #[.bool x10_5, .slice y10_5 z10_5 c10_5]), .k (num ((q.den : Nat) : Int)), .k (frq q), .k (frq q), .k (tup2 (.k (frq q)) (vZ)), .k (frq q), vZ, .any, vZ] [(0, 95), (1, 96), (2, 97), (3, 98), (4, 99), (5, 100), (6, 101), (7, 102), (8, 103), (9, 104), (10, 105), (11, 106), (12, 107), (13, 108), (14, 109), (16, 7)] [⟨26, none, (lc1 2), pt, 4, [.c #[.bool false, .slice none 0 0, .bool false, .slice none 0 0]], [(15, 0, 13)]⟩] ?ok11 ?st11 ?al11 ?pu11 ?en11
             case ok11 => exact BxOK.one ⟨(Nat.le_trans hB0.size g1_2), ⟨_, q10_1_2, rfl, rfl, rfl⟩, by simp, (by decide : (26 : Nat) ≠ 48)⟩ rfl hBt10.size
             case st11 =>
              intro zi zo ho hro a' u lc W hM
              match zi, ho, hro with
              | 0, ho, _ => cases ho; exact wn (kL24 rfl (hM.ol 10) (hM.o1 q10_5_0 (by omega)) rfl)
              | 1, ho, _ => cases ho; exact wn (kL24 rfl (hM.ol 15) (hM.o1 q10_0 (by omega)) rfl)
              | 2, ho, _ => cases ho; exact wn (kCall2 rfl may74 (hM.d 0 95 rfl) (hM.d 1 96 rfl) (c74 G0.out F1.out (f10_8.kept hM.kept) (sk10_5.kept hM.kept)))
              | 3, ho, _ => cases ho; exact wn (kField26_0 rfl (hM.ol 4))
              | 4, ho, _ => cases ho; exact wn (kL24 rfl (hM.d 3 98 rfl) (hM.o1 q10_1_1 (by omega)) rfl)
              | 5, ho, _ => cases ho; exact wn (kCall2 rfl may67 (hM.v 2 97 rfl) (hM.d 4 99 rfl) (c67 E1.out CE.out (hM.kd 2) (f10_4.kept hM.kept)))
              | 6, ho, _ => cases ho; exact wn (kField26_1 rfl (hM.ol 4))
              | 7, ho, _ => cases ho; exact wn (kL24 rfl (hM.d 6 101 rfl) (hM.o1 q10_1_1 (by omega)) rfl)
              | 8, ho, _ => cases ho; exact wn (kL24 rfl (hM.ol 15) (hM.o1 q10_0 (by omega)) rfl)
              | 9, ho, _ => cases ho; exact wn (kCall2 rfl may74 (hM.d 7 102 rfl) (hM.d 8 103 rfl) (c74 G0.out F2.out (f10_5.kept hM.kept) (sk10_5.kept hM.kept)))
              | 10, ho, _ =>
               cases ho
               refine .inl ⟨wanted_none rfl, ?_⟩
               obtain ⟨sbx, spx, slx, scx, ex⟩ := (show Is (num q.num) _ W from (hM.kd 5)).form
               obtain ⟨sby, spy, sly, scy, ey⟩ := (show Is (num ((q.den : Nat) : Int)) _ W from (hM.kd 9)).form
               exact kBuild26 rfl ((hM.v 5 100 rfl).trans ex) ((hM.v 9 104 rfl).trans ey) ⟨_, _, _, _, _, _, _, _, rfl, (by rw [← ex]; exact (hM.kd 5)), (by rw [← ey]; exact (hM.kd 9))⟩
              | 11, ho, _ =>
               cases ho
               refine .inl ⟨wanted_none rfl, ?_⟩
               obtain ⟨sb1, sp1, sl1, sc1, sb2, sp2, sl2, sc2, e, sh1, sh2⟩ := (show Is (frq q) _ W from (hM.kd 10))
               exact kBuild73 rfl ((hM.v 10 105 rfl).trans e) ⟨_, _, _, _, _, _, _, _, rfl, sh1, sh2⟩
              | 12, ho, _ => cases ho; exact wn (kCall1 rfl may75 (hM.v 11 106 rfl) (c75q HQ.out (hM.kd 11)))
              | 13, ho, _ => cases ho; exact wn (kEx20 rfl (hM.d 12 107 rfl))
              | 14, ho, _ => cases ho; exact wn (kEx21 rfl (hM.d 12 107 rfl))
              | 15, _, hro => exact nr1 hro (by kernel_rfl)
              | 16, ho, _ => cases ho; exact wn (kAssign rfl (hM.d 14 109 rfl))
              | zk + 17, ho, _ => simp at ho
             case al11 =>
              intro zk zb zi zo hk ha ho a' u lc W hM
              match zk, hk with
              | 0, hk => cases hk; cases ha
              | zk + 1, hk => simp at hk
             case pu11 =>
              intro zk zb zs zo hk hs ho a' u lc W zc hM hc hcs
              match zk, hk with
              | 0, hk =>
               cases hk
               simp only [List.mem_cons, List.not_mem_nil, or_false] at hs
               rcases hs with rfl
               · cases ho
                 obtain ⟨sb, sp, sl, sc, sb2, sp2, sl2, sc2, e, _⟩ := (show Is (frq q) (u 13) W from (hM.kd 13))
                 exact kPut rfl e ((hM.ol 6).trans (show _ = Value.pointer (some ⟨lc 0, 0, none⟩) from by rw [show lc 0 = (lc1 2) from hM.locO 0 _ rfl rfl] <;> rfl)) (hM.v 13 108 rfl) hc hcs sz26
              | zk + 1, hk => simp at hk
             case en11 =>
              intro u11 lc11 W11 hK11 hB11 hO11 hV11 hX11 hA11
              have k11_13 := kk (hV11 13 108 rfl) rfl
              obtain ⟨qr, ho, hl⟩ := hX11 0 _ rfl
              have elc : lc11 0 = (lc1 2) := ho rfl
              rw [elc] at qr
              obtain ⟨x11_15, y11_15, z11_15, c11_15, x211_15, y211_15, z211_15, c211_15, es11_15, sa11_15, sb11_15⟩ := id k11_13
              have sk11_15 : Is (frq q) (.agg #[.bool x11_15, .slice y11_15 z11_15 c11_15, .bool x211_15, .slice y211_15 z211_15 c211_15]) W11 := by rw [← es11_15]; exact k11_13
              have q11_0 : W11.heap[(lc1 2)]? = some (.cells #[.bool x11_15, .slice y11_15 z11_15 c11_15, .bool x211_15, .slice y211_15 z211_15 c211_15] 26) := by
               rw [contAll_one rfl (cs := #[.bool x11_15, .slice y11_15 z11_15 c11_15, .bool x211_15, .slice y211_15 z211_15 c211_15]) (by rw [es11_15]; rfl) rfl] at qr; exact qr
              simp only [putK, fC, fN, kZ, kS, vV, vK, sI, sZ, sS]
              have hBt11 := hBt10.trans hB11
              clear hV11 hX11 hA11
              have cr0 := cell_of q11_0 0 rfl
              have cr1 := cell_of q11_0 1 rfl
              have cr2 := cell_of q11_0 2 rfl
              have cr3 := cell_of q11_0 3 rfl
              go_wp2
              exact bodyPost_ret (v := .tuple #[.agg #[.bool x11_15, .slice y11_15 z11_15 c11_15, .bool x211_15, .slice y211_15 z211_15 c211_15], .int .i64 0]) (by simp [results, Tryz.results17, go_sem, cr0, cr1, cr2, cr3]) rfl ⟨_, rfl, ⟨_, _, rfl, sk11_15, rfl⟩, hBt11⟩
         · have HUQ := Lib.hid huq
           clear huq
           have HUP := Lib.hid (Bool.eq_false_iff.2 HUQ.out)
           have cr0 := cell_of q8_1_0 0 rfl
           have hm1 := HM1.out
           have hm6 := HM6.out
           obtain ⟨F, caps, hidx, hent, hcl⟩ := ups_at (m := m) (h := cmpI (z + z) y) (n := decide (r.num < 0)) (o := o) (W := W8) (of_decide_eq_false hm1) (of_decide_eq_false hm6)
           clear hm1 hm6
           rw [HUP.out] at hcl
           have HENT := Lib.hid hent
           clear hent
           go_wp2_with (go_at_call 71; refine c71.mono ?_; rintro e w' ⟨rfl, rfl⟩)
           rw [HENT.out, Oper.upon_enter]
           refine hcl.mono ?_
           rintro e w' ⟨rfl, rfl⟩
           obtain ⟨wu, hwu⟩ : ∃ x, x = upsW (decide (r.num < 0)) (cmpI (z + z) y) o W8 := ⟨_, rfl⟩
           have hbl : Below W8.heap.size W8 wu := by rw [hwu]; exact upsW_below _ _ _ _
           rw [← hwu]
           clear hwu
           have qu0 := (hbl.block _ (Array.getElem?_eq_some_iff.1 q8_1_0).1).trans q8_1_0
           have fu0 := f8_0.kept (kept_below hbl 48)
           have fu1 := f8_1.kept (kept_below hbl 48)
           have fu2 := f8_2.kept (kept_below hbl 48)
           have qu1 := (hbl.block _ (Array.getElem?_eq_some_iff.1 q8_1_1).1).trans q8_1_1
           have fu3 := f8_3.kept (kept_below hbl 48)
           have fu4 := f8_4.kept (kept_below hbl 48)
           have fu5 := f8_5.kept (kept_below hbl 48)
           have qu2 := (hbl.block _ (Array.getElem?_eq_some_iff.1 q8_1_2).1).trans q8_1_2
           have qu3 := (hbl.block _ (Array.getElem?_eq_some_iff.1 q8_2_0).1).trans q8_2_0
           have qu4 := (hbl.block _ (Array.getElem?_eq_some_iff.1 q8_4_0).1).trans q8_4_0
           have fu6 := f8_6.kept (kept_below hbl 48)
           have qu5 := (hbl.block _ (Array.getElem?_eq_some_iff.1 q8_4_1).1).trans q8_4_1
           have fu7 := f8_7.kept (kept_below hbl 48)
           have qu6 := (hbl.block _ (Array.getElem?_eq_some_iff.1 q8_5_0).1).trans q8_5_0
           have fu8 := f8_8.kept (kept_below hbl 48)
           have fu9 := f8_9.kept (kept_below hbl 48)
           have qu7 := (hbl.block _ (Array.getElem?_eq_some_iff.1 q8_5_1).1).trans q8_5_1
           have fu10 := f8_10.kept (kept_below hbl 48)
           have fu11 := f8_11.kept (kept_below hbl 48)
           have fu12 := f8_12.kept (kept_below hbl 48)
           have fu13 := f8_13.kept (kept_below hbl 48)
           have fu14 := f8_14.kept (kept_below hbl 48)
           have fu15 := f8_15.kept (kept_below hbl 48)
           have fu16 := f8_16.kept (kept_below hbl 48)
           have fu17 := f8_17.kept (kept_below hbl 48)
           have hBu := hBt8.trans (hbl.mono hBt8.size)
           have hkk := HK3.out HUQ.out
           subst hkk
           go_upto_region 12 with fail
           refine rg (n := 9) (t16 := 48) w.heap.size [] [.val (.agg #[.bool x5_9, .slice (some ⟨lb, lo, none⟩) z5_9 c5_9]), .val (.pointer (some ⟨(lc1 1), 2, none⟩)), .val (.agg #[.bool ye1, .slice yq1 ym1 yr1]), .k (num g), .any, .any] [(0, 91), (1, 92), (2, 93), (3, 94), (4, 15)] [⟨24, some 4, 0, pt, 2, [.c #[.bool false, .slice none 0 0]], [(5, 0, 3)]⟩] ?ok9 ?st9 ?al9 ?pu9 ?en9
           case ok9 => exact BxOK.fresh rfl hBu.size
           case st9 =>
            intro zi zo ho hro a' u lc W hM
            match zi, ho, hro with
            | 0, ho, _ => cases ho; exact wn (kL24 rfl (hM.ol 10) (hM.o0 qu6) rfl)
            | 1, ho, _ => cases ho; exact wn (kField26_1 rfl (hM.ol 4))
            | 2, ho, _ => cases ho; exact wn (kL24 rfl (hM.d 1 92 rfl) (hM.o0 qu1) rfl)
            | 3, ho, _ => cases ho; exact wn (kCall2 rfl may73 (hM.d 0 91 rfl) (hM.d 2 93 rfl) (c73 HG.out (fu8.kept hM.kept) (fu5.kept hM.kept)))
            | 4, _, hro => exact nr1 hro (by kernel_rfl)
            | 5, _, hro => exact nr1 hro (by kernel_rfl)
            | zk + 6, ho, _ => simp at ho
           case al9 =>
            intro zk zb zi zo hk ha ho a' u lc W hM
            match zk, hk with
            | 0, hk => cases hk; cases ha; cases ho; exact ⟨rfl, rfl, rfl, rfl, kAlloc24 rfl⟩
            | zk + 1, hk => simp at hk
           case pu9 =>
            intro zk zb zs zo hk hs ho a' u lc W zc hM hc hcs
            match zk, hk with
            | 0, hk =>
             cases hk
             simp only [List.mem_cons, List.not_mem_nil, or_false] at hs
             rcases hs with rfl
             · cases ho
               obtain ⟨sb, sp, sl, sc, e⟩ := (show Is (num g) (u 3) W from (hM.kd 3)).form
               exact kPut rfl e ((hM.v 4 15 rfl).trans (hM.loc 0 _ 4 rfl rfl (by kernel_rfl))) (hM.v 3 94 rfl) hc hcs sz24
            | zk + 1, hk => simp at hk
           case en9 =>
            intro u9 lc9 W9 hK9 hB9 hO9 hV9 hX9 hA9
            have e9_0 := kv (hV9 0 91 rfl) rfl
            have k9_3 := kk (hV9 3 94 rfl) rfl
            obtain ⟨qr, ho, hl⟩ := hX9 0 _ rfl
            have e9_4 : u9 4 = .pointer (some ⟨lc9 0, 0, none⟩) := (hl 4 rfl).1
            have g9_0 := (hl 4 rfl).2
            obtain ⟨x9_5, y9_5, z9_5, c9_5, es9_5⟩ := k9_3.form
            have sk9_5 : Is (num g) (.agg #[.bool x9_5, .slice y9_5 z9_5 c9_5]) W9 := by rw [← es9_5]; exact k9_3
            have q9_0 : W9.heap[(lc9 0)]? = some (.cells #[.bool x9_5, .slice y9_5 z9_5 c9_5] 24) := by
             rw [contAll_one rfl (cs := #[.bool x9_5, .slice y9_5 z9_5 c9_5]) (by rw [es9_5]; rfl) rfl] at qr; exact qr
            have ne9_0_1_2 := Nat.ne_of_lt (Nat.lt_of_lt_of_le (Array.getElem?_eq_some_iff.1 qu2).1 g9_0)
            have ne9_0_5_0 := Nat.ne_of_lt (Nat.lt_of_lt_of_le (Array.getElem?_eq_some_iff.1 qu6).1 g9_0)
            have q9_1_1 := oth0 hO9 qu1
            have f9_4 := fu4.kept hK9
            have f9_5 := fu5.kept hK9
            have q9_1_2 := oth0 hO9 qu2
            have q9_5_0 := oth0 hO9 qu6
            have f9_8 := fu8.kept hK9
            simp only [putK, fC, fN, kZ, kS, vV, vA, vK, sI, sZ, sS, e9_4]
            have hBt9 := hBu.trans hB9
            clear hV9 hX9 hA9
            go_upto_region 13 with fail
            refine rg (n := 9) (t16 := 48) w.heap.size [(lc1 2)] [.val (.agg #[.bool x5_9, .slice (some ⟨lb, lo, none⟩) z5_9 c5_9]), .val (.agg #[.bool x9_5, .slice y9_5 z9_5 c9_5]), .k (num i), .val (.pointer (some ⟨(lc1 1), 0, none⟩)), .val (.agg #[.bool false, .slice yp1 yl1 yd1]), .k (num q.num), .val (.pointer (some ⟨(lc1 1), 2, none⟩)), .val (.agg #[.bool ye1, .slice yq1 ym1 yr1]), .val (.agg #[.bool x9_5, .slice y9_5 z9_5 c9_5]), .k (num ((q.den : Nat) : Int)), .k (frq q), .k (frq q), .k (tup2 (.k (frq q)) (vZ)), .k (frq q), vZ, .any, vZ] [(0, 95), (1, 96), (2, 97), (3, 98), (4, 99), (5, 100), (6, 101), (7, 102), (8, 103), (9, 104), (10, 105), (11, 106), (12, 107), (13, 108), (14, 109), (16, 7)] [⟨26, none, (lc1 2), pt, 4, [.c #[.bool false, .slice none 0 0, .bool false, .slice none 0 0]], [(15, 0, 13)]⟩] ?ok10 ?st10 ?al10 ?pu10 ?en10
            case ok10 => exact BxOK.one ⟨(Nat.le_trans hB0.size g1_2), ⟨_, q9_1_2, rfl, rfl, rfl⟩, by simp, (by decide : (26 : Nat) ≠ 48)⟩ rfl hBt9.size
            case st10 =>
             intro zi zo ho hro a' u lc W hM
             match zi, ho, hro with
             | 0, ho, _ => cases ho; exact wn (kL24 rfl (hM.ol 10) (hM.o1 q9_5_0 (by omega)) rfl)
             | 1, ho, _ => cases ho; exact wn (kL24 rfl (hM.ol 15) (hM.o1 q9_0 (by omega)) rfl)
             | 2, ho, _ => cases ho; exact wn (kCall2 rfl may74 (hM.d 0 95 rfl) (hM.d 1 96 rfl) (c74 G0.out F1.out (f9_8.kept hM.kept) (sk9_5.kept hM.kept)))
             | 3, ho, _ => cases ho; exact wn (kField26_0 rfl (hM.ol 4))
             | 4, ho, _ => cases ho; exact wn (kL24 rfl (hM.d 3 98 rfl) (hM.o1 q9_1_1 (by omega)) rfl)
             | 5, ho, _ => cases ho; exact wn (kCall2 rfl may67 (hM.v 2 97 rfl) (hM.d 4 99 rfl) (c67 E1.out CE.out (hM.kd 2) (f9_4.kept hM.kept)))
             | 6, ho, _ => cases ho; exact wn (kField26_1 rfl (hM.ol 4))
             | 7, ho, _ => cases ho; exact wn (kL24 rfl (hM.d 6 101 rfl) (hM.o1 q9_1_1 (by omega)) rfl)
             | 8, ho, _ => cases ho; exact wn (kL24 rfl (hM.ol 15) (hM.o1 q9_0 (by omega)) rfl)
             | 9, ho, _ => cases ho; exact wn (kCall2 rfl may74 (hM.d 7 102 rfl) (hM.d 8 103 rfl) (c74 G0.out F2.out (f9_5.kept hM.kept) (sk9_5.kept hM.kept)))
             | 10, ho, _ =>
              cases ho
              refine .inl ⟨wanted_none rfl, ?_⟩
              obtain ⟨sbx, spx, slx, scx, ex⟩ := (show Is (num q.num) _ W from (hM.kd 5)).form
              obtain ⟨sby, spy, sly, scy, ey⟩ := (show Is (num ((q.den : Nat) : Int)) _ W from (hM.kd 9)).form
              exact kBuild26 rfl ((hM.v 5 100 rfl).trans ex) ((hM.v 9 104 rfl).trans ey) ⟨_, _, _, _, _, _, _, _, rfl, (by rw [← ex]; exact (hM.kd 5)), (by rw [← ey]; exact (hM.kd 9))⟩
             | 11, ho, _ =>
              cases ho
              refine .inl ⟨wanted_none rfl, ?_⟩
              obtain ⟨sb1, sp1, sl1, sc1, sb2, sp2, sl2, sc2, e, sh1, sh2⟩ := (show Is (frq q) _ W from (hM.kd 10))
              exact kBuild73 rfl ((hM.v 10 105 rfl).trans e) ⟨_, _, _, _, _, _, _, _, rfl, sh1, sh2⟩
             | 12, ho, _ => cases ho; exact wn (kCall1 rfl may75 (hM.v 11 106 rfl) (c75q HQ.out (hM.kd 11)))
             | 13, ho, _ => cases ho; exact wn (kEx20 rfl (hM.d 12 107 rfl))
             | 14, ho, _ => cases ho; exact wn (kEx21 rfl (hM.d 12 107 rfl))
             | 15, _, hro => exact nr1 hro (by kernel_rfl)
             | 16, ho, _ => cases ho; exact wn (kAssign rfl (hM.d 14 109 rfl))
             | zk + 17, ho, _ => simp at ho
            case al10 =>
             intro zk zb zi zo hk ha ho a' u lc W hM
             match zk, hk with
             | 0, hk => cases hk; cases ha
             | zk + 1, hk => simp at hk
            case pu10 =>
             intro zk zb zs zo hk hs ho a' u lc W zc hM hc hcs
             match zk, hk with
             | 0, hk =>
              cases hk
              simp only [List.mem_cons, List.not_mem_nil, or_false] at hs
              rcases hs with rfl
              · cases ho
                obtain ⟨sb, sp, sl, sc, sb2, sp2, sl2, sc2, e, _⟩ := (show Is (frq q) (u 13) W from (hM.kd 13))
                exact kPut rfl e ((hM.ol 6).trans (show _ = Value.pointer (some ⟨lc 0, 0, none⟩) from by rw [show lc 0 = (lc1 2) from hM.locO 0 _ rfl rfl] <;> rfl)) (hM.v 13 108 rfl) hc hcs sz26
             | zk + 1, hk => simp at hk
            case en10 =>
             intro u10 lc10 W10 hK10 hB10 hO10 hV10 hX10 hA10
             have k10_13 := kk (hV10 13 108 rfl) rfl
             obtain ⟨qr, ho, hl⟩ := hX10 0 _ rfl
             have elc : lc10 0 = (lc1 2) := ho rfl
             rw [elc] at qr
             obtain ⟨x10_15, y10_15, z10_15, c10_15, x210_15, y210_15, z210_15, c210_15, es10_15, sa10_15, sb10_15⟩ := id k10_13
             have sk10_15 : Is (frq q) (.agg #[.bool x10_15, .slice y10_15 z10_15 c10_15, .bool x210_15, .slice y210_15 z210_15 c210_15]) W10 := by rw [← es10_15]; exact k10_13
             have q10_0 : W10.heap[(lc1 2)]? = some (.cells #[.bool x10_15, .slice y10_15 z10_15 c10_15, .bool x210_15, .slice y210_15 z210_15 c210_15] 26) := by
              rw [contAll_one rfl (cs := #[.bool x10_15, .slice y10_15 z10_15 c10_15, .bool x210_15, .slice y210_15 z210_15 c210_15]) (by rw [es10_15]; rfl) rfl] at qr; exact qr
             simp only [putK, fC, fN, kZ, kS, vV, vK, sI, sZ, sS]
             have hBt10 := hBt9.trans hB10
             clear hV10 hX10 hA10
             have cr0 := cell_of q10_0 0 rfl
             have cr1 := cell_of q10_0 1 rfl
             have cr2 := cell_of q10_0 2 rfl
             have cr3 := cell_of q10_0 3 rfl
             go_wp2
             exact bodyPost_ret (v := .tuple #[.agg #[.bool x10_15, .slice y10_15 z10_15 c10_15, .bool x210_15, .slice y210_15 z210_15 c210_15], .int .i64 0]) (by simp [results, Tryz.results17, go_sem, cr0, cr1, cr2, cr3]) rfl ⟨_, rfl, ⟨_, _, rfl, sk10_15, rfl⟩, hBt10⟩
theorem c17s {r s : Rat} {m x y k z : Int} {v0 v1 : Value} {w : World} (hzp : z ≠ 0) (hk0 : k ≠ 0) (hr : Fs r) (hs : Fs s) (hs0 : 0 < s.num) (hm1 : 1 ≤ m) (hm6 : m ≤ 6) (hn : r.num * ((s.den : Nat) : Int) = x) (hd : ((r.den : Nat) : Int) * s.num = y) (cn : x.natAbs < Cap) (cd : y.natAbs < Cap) (hd0 : y ≠ 0) (hfl : Floor x y k z)
 (hzc : (z + z).natAbs < Cap) (hkc : (k + 1).natAbs < Cap) (hq : Fs ((roundK m (decide (r.num < 0)) y k z : Rat) * s)) (ce : ((roundK m (decide (r.num < 0)) y k z : Rat) * s).num.natAbs < Cap)
 (h0 : Is (frq r) v0 w) (h1 : Is (frq s) v1 w) : Calls Tryz.prog 17 #[v0, v1, .int .u8 m] w (Ret (.k (tup2 (.k (frq ((roundK m (decide (r.num < 0)) y k z : Rat) * s))) (.val (.int .i64 0)))) w) := by
 obtain ⟨i, f1, g0, f2, ei⟩ := round_parts (k := roundK m (decide (r.num < 0)) y k z) (s := s) rfl
 exact c17e hr hs hs0 (decide_eq_false (by omega)) (decide_eq_false (by omega)) (decide_eq_false (by omega)) hn hd cn cd hd0 hfl hzp hzc hkc rfl hk0 (fun u => (if_neg hzp).trans (if_pos u)) (fun u => (if_neg hzp).trans (if_neg u)) rfl g0 f1 f2 ei ce hq h0 h1
end Go.Proofs.YtihdbjilolmfiaaGreatDoor
