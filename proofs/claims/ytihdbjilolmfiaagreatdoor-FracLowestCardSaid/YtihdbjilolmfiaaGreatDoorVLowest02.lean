import Derived.Test.YtihdbjilolmfiaaGreatDoorVLowest01
set_option maxRecDepth 100000
set_option maxHeartbeats 4000000
namespace Go.Proofs.YtihdbjilolmfiaaGreatDoor
open Go.RowKit Go.WM Go.WR
attribute [local go_sem] Oper.semAt_some
theorem c90 {a b c d g h q1 q2 q3 q4 m k t1 t2 t3 t4 : Int} {v0 v1 : Value} {w : World} (hg : ((Int.gcd a d : Nat) : Int) = g) (hh : ((Int.gcd c b : Nat) : Int) = h) (hg0 : g ≠ 0) (hh0 : h ≠ 0) (f1 : Floor a g q1 t1) (f2 : Floor c h q2 t2) (f3 : Floor b h q3 t3) (f4 : Floor d g q4 t4) (hm : q1 * q2 = m) (hk : q3 * q4 = k) (hmc : m.natAbs < Cap) (hkc : k.natAbs < Cap) (h0 : Is (fr a b) v0 w) (h1 : Is (fr c d) v1 w) : Calls Tryz.prog 90 #[v0, v1] w (Ret (.k (fr m k)) w) := by
 obtain ⟨ya0, yp0, yl0, yd0, ye0, yq0, ym0, yr0, rfl, yg0, yk0⟩ := id h0
 replace yg0 : Is (num a) (.agg #[.bool ya0, .slice yp0 yl0 yd0]) w := yg0
 replace yk0 : Is (num b) (.agg #[.bool ye0, .slice yq0 ym0 yr0]) w := yk0
 obtain ⟨ya1, yp1, yl1, yd1, ye1, yq1, ym1, yr1, rfl, yg1, yk1⟩ := id h1
 replace yg1 : Is (num c) (.agg #[.bool ya1, .slice yp1 yl1 yd1]) w := yg1
 replace yk1 : Is (num d) (.agg #[.bool ye1, .slice yq1 ym1 yr1]) w := yk1
 have hB0 := Below.refl w.heap.size w
 have HG := Lib.hid hg
 have HH := Lib.hid hh
 have HG0 := Lib.hid hg0
 have HH0 := Lib.hid hh0
 have F1 := Lib.hid f1
 have F2 := Lib.hid f2
 have F3 := Lib.hid f3
 have F4 := Lib.hid f4
 have HM := Lib.hid hm
 have HK := Lib.hid hk
 have HMC := Lib.hid hmc
 have HKC := Lib.hid hkc
 clear hg hh hg0 hh0 f1 f2 f3 f4 hm hk hmc hkc
 go_enter Tryz.func90, Tryz.ntmps90
 go_upto_region 0 with fail
 refine rg (n := 9) (t16 := 48) w.heap.size [] [.any, .any, .any] [(0, 2), (1, 3), (2, 4)] [⟨73, some 0, 0, pt, 4, [.c #[.bool ya0, .slice yp0 yl0 yd0, .bool ye0, .slice yq0 ym0 yr0]], []⟩, ⟨73, some 1, 0, pt, 4, [.c #[.bool ya1, .slice yp1 yl1 yd1, .bool ye1, .slice yq1 ym1 yr1]], []⟩, ⟨73, some 2, 0, pt, 4, [.c #[.bool false, .slice none 0 0, .bool false, .slice none 0 0]], []⟩] ?ok1 ?st1 ?al1 ?pu1 ?en1
 case ok1 => exact BxOK.fresh rfl hB0.size
 case st1 =>
  intro zi zo ho hro a' u lc W hM
  match zi, ho, hro with
  | 0, _, hro => exact nr1 hro (by kernel_rfl)
  | 1, _, hro => exact nr1 hro (by kernel_rfl)
  | 2, _, hro => exact nr1 hro (by kernel_rfl)
  | zk + 3, ho, _ => simp at ho
 case al1 =>
  intro zk zb zi zo hk ha ho a' u lc W hM
  match zk, hk with
  | 0, hk => cases hk; cases ha; cases ho; exact ⟨rfl, rfl, rfl, rfl, kBox rfl (hM.ol 0)⟩
  | 1, hk => cases hk; cases ha; cases ho; exact ⟨rfl, rfl, rfl, rfl, kBox rfl (hM.ol 1)⟩
  | 2, hk => cases hk; cases ha; cases ho; exact ⟨rfl, rfl, rfl, rfl, kAlloc73 rfl⟩
  | zk + 3, hk => simp at hk
 case pu1 =>
  intro zk zb zs zo hk hs ho a' u lc W zc hM hc hcs
  match zk, hk with
  | 0, hk => cases hk; simp at hs
  | 1, hk => cases hk; simp at hs
  | 2, hk => cases hk; simp at hs
  | zk + 3, hk => simp at hk
 case en1 =>
  intro u1 lc1 W1 hK1 hB1 hO1 hV1 hX1 hA1
  obtain ⟨qr, ho, hl⟩ := hX1 0 _ rfl
  have e1_0 : u1 0 = .pointer (some ⟨lc1 0, 0, none⟩) := (hl 0 rfl).1
  have g1_0 := (hl 0 rfl).2
  have f1_1 := yg0.kept hK1
  have f1_2 := yk0.kept hK1
  have q1_0 : W1.heap[(lc1 0)]? = some (.cells #[.bool ya0, .slice yp0 yl0 yd0, .bool ye0, .slice yq0 ym0 yr0] 73) := by
   exact qr
  obtain ⟨qr, ho, hl⟩ := hX1 1 _ rfl
  have e1_1 : u1 1 = .pointer (some ⟨lc1 1, 0, none⟩) := (hl 1 rfl).1
  have g1_1 := (hl 1 rfl).2
  have f1_4 := yg1.kept hK1
  have f1_5 := yk1.kept hK1
  have q1_1 : W1.heap[(lc1 1)]? = some (.cells #[.bool ya1, .slice yp1 yl1 yd1, .bool ye1, .slice yq1 ym1 yr1] 73) := by
   exact qr
  obtain ⟨qr, ho, hl⟩ := hX1 2 _ rfl
  have e1_2 : u1 2 = .pointer (some ⟨lc1 2, 0, none⟩) := (hl 2 rfl).1
  have g1_2 := (hl 2 rfl).2
  have q1_2 : W1.heap[(lc1 2)]? = some (.cells #[.bool false, .slice none 0 0, .bool false, .slice none 0 0] 73) := by
   exact qr
  have ne1_0_2 := hA1 0 2 _ _ rfl rfl (by decide)
  have ne1_1_2 := hA1 1 2 _ _ rfl rfl (by decide)
  simp only [putK, fC, fN, kZ, kS, vA, sI, sZ, sS, e1_0, e1_1, e1_2]
  have hBt1 := hB0.trans hB1
  clear hV1 hX1 hA1
  go_upto_region 1 with fail
  refine rg (n := 9) (t16 := 48) w.heap.size [] [.val (.pointer (some ⟨(lc1 0), 0, none⟩)), .val (.pointer (some ⟨(lc1 0), 0, none⟩)), .val (.agg #[.bool ya0, .slice yp0 yl0 yd0]), .val (.pointer (some ⟨(lc1 1), 0, none⟩)), .val (.pointer (some ⟨(lc1 1), 2, none⟩)), .val (.agg #[.bool ye1, .slice yq1 ym1 yr1]), .k (num g), .val (.pointer (some ⟨(lc1 1), 0, none⟩)), .val (.pointer (some ⟨(lc1 1), 0, none⟩)), .val (.agg #[.bool ya1, .slice yp1 yl1 yd1]), .val (.pointer (some ⟨(lc1 0), 0, none⟩)), .val (.pointer (some ⟨(lc1 0), 2, none⟩)), .val (.agg #[.bool ye0, .slice yq0 ym0 yr0]), .k (num h), .any, .any, .any, .any] [(0, 7), (1, 8), (2, 9), (3, 10), (4, 11), (5, 12), (6, 13), (7, 14), (8, 15), (9, 16), (10, 17), (11, 18), (12, 19), (13, 20), (14, 5), (15, 6)] [⟨24, some 14, 0, pt, 2, [.c #[.bool false, .slice none 0 0]], [(16, 0, 6)]⟩, ⟨24, some 15, 0, pt, 2, [.c #[.bool false, .slice none 0 0]], [(17, 0, 13)]⟩] ?ok2 ?st2 ?al2 ?pu2 ?en2
  case ok2 => exact BxOK.fresh rfl hBt1.size
  case st2 =>
   intro zi zo ho hro a' u lc W hM
   match zi, ho, hro with
   | 0, ho, _ => cases ho; exact wn (kField73_0 rfl (hM.ol 2))
   | 1, ho, _ => cases ho; exact wn (kField26_0 rfl (hM.d 0 7 rfl))
   | 2, ho, _ => cases ho; exact wn (kL24 rfl (hM.d 1 8 rfl) (hM.o0 q1_0) rfl)
   | 3, ho, _ => cases ho; exact wn (kField73_0 rfl (hM.ol 3))
   | 4, ho, _ => cases ho; exact wn (kField26_1 rfl (hM.d 3 10 rfl))
   | 5, ho, _ => cases ho; exact wn (kL24 rfl (hM.d 4 11 rfl) (hM.o0 q1_1) rfl)
   | 6, ho, _ => cases ho; exact wn (kCall2 rfl may73 (hM.d 2 9 rfl) (hM.d 5 12 rfl) (c73 HG.out (f1_1.kept hM.kept) (f1_5.kept hM.kept)))
   | 7, ho, _ => cases ho; exact wn (kField73_0 rfl (hM.ol 3))
   | 8, ho, _ => cases ho; exact wn (kField26_0 rfl (hM.d 7 14 rfl))
   | 9, ho, _ => cases ho; exact wn (kL24 rfl (hM.d 8 15 rfl) (hM.o0 q1_1) rfl)
   | 10, ho, _ => cases ho; exact wn (kField73_0 rfl (hM.ol 2))
   | 11, ho, _ => cases ho; exact wn (kField26_1 rfl (hM.d 10 17 rfl))
   | 12, ho, _ => cases ho; exact wn (kL24 rfl (hM.d 11 18 rfl) (hM.o0 q1_0) rfl)
   | 13, ho, _ => cases ho; exact wn (kCall2 rfl may73 (hM.d 9 16 rfl) (hM.d 12 19 rfl) (c73 HH.out (f1_4.kept hM.kept) (f1_2.kept hM.kept)))
   | 14, _, hro => exact nr1 hro (by kernel_rfl)
   | 15, _, hro => exact nr1 hro (by kernel_rfl)
   | 16, _, hro => exact nr1 hro (by kernel_rfl)
   | 17, _, hro => exact nr1 hro (by kernel_rfl)
   | zk + 18, ho, _ => simp at ho
  case al2 =>
   intro zk zb zi zo hk ha ho a' u lc W hM
   match zk, hk with
   | 0, hk => cases hk; cases ha; cases ho; exact ⟨rfl, rfl, rfl, rfl, kAlloc24 rfl⟩
   | 1, hk => cases hk; cases ha; cases ho; exact ⟨rfl, rfl, rfl, rfl, kAlloc24 rfl⟩
   | zk + 2, hk => simp at hk
  case pu2 =>
   intro zk zb zs zo hk hs ho a' u lc W zc hM hc hcs
   match zk, hk with
   | 0, hk =>
    cases hk
    simp only [List.mem_cons, List.not_mem_nil, or_false] at hs
    rcases hs with rfl
    · cases ho
      obtain ⟨sb, sp, sl, sc, e⟩ := (show Is (num g) (u 6) W from (hM.kd 6)).form
      exact kPut rfl e ((hM.v 14 5 rfl).trans (hM.loc 0 _ 14 rfl rfl (by kernel_rfl))) (hM.v 6 13 rfl) hc hcs sz24
   | 1, hk =>
    cases hk
    simp only [List.mem_cons, List.not_mem_nil, or_false] at hs
    rcases hs with rfl
    · cases ho
      obtain ⟨sb, sp, sl, sc, e⟩ := (show Is (num h) (u 13) W from (hM.kd 13)).form
      exact kPut rfl e ((hM.v 15 6 rfl).trans (hM.loc 1 _ 15 rfl rfl (by kernel_rfl))) (hM.v 13 20 rfl) hc hcs sz24
   | zk + 2, hk => simp at hk
  case en2 =>
   intro u2 lc2 W2 hK2 hB2 hO2 hV2 hX2 hA2
   have e2_0 := kv (hV2 0 7 rfl) rfl
   have e2_1 := kv (hV2 1 8 rfl) rfl
   have k2_6 := kk (hV2 6 13 rfl) rfl
   have k2_13 := kk (hV2 13 20 rfl) rfl
   obtain ⟨qr, ho, hl⟩ := hX2 0 _ rfl
   have e2_14 : u2 14 = .pointer (some ⟨lc2 0, 0, none⟩) := (hl 14 rfl).1
   have g2_0 := (hl 14 rfl).2
   obtain ⟨x2_16, y2_16, z2_16, c2_16, es2_16⟩ := k2_6.form
   have sk2_16 : Is (num g) (.agg #[.bool x2_16, .slice y2_16 z2_16 c2_16]) W2 := by rw [← es2_16]; exact k2_6
   have q2_0 : W2.heap[(lc2 0)]? = some (.cells #[.bool x2_16, .slice y2_16 z2_16 c2_16] 24) := by
    rw [contAll_one rfl (cs := #[.bool x2_16, .slice y2_16 z2_16 c2_16]) (by rw [es2_16]; rfl) rfl] at qr; exact qr
   obtain ⟨qr, ho, hl⟩ := hX2 1 _ rfl
   have e2_15 : u2 15 = .pointer (some ⟨lc2 1, 0, none⟩) := (hl 15 rfl).1
   have g2_1 := (hl 15 rfl).2
   obtain ⟨x2_17, y2_17, z2_17, c2_17, es2_17⟩ := k2_13.form
   have sk2_17 : Is (num h) (.agg #[.bool x2_17, .slice y2_17 z2_17 c2_17]) W2 := by rw [← es2_17]; exact k2_13
   have q2_1 : W2.heap[(lc2 1)]? = some (.cells #[.bool x2_17, .slice y2_17 z2_17 c2_17] 24) := by
    rw [contAll_one rfl (cs := #[.bool x2_17, .slice y2_17 z2_17 c2_17]) (by rw [es2_17]; rfl) rfl] at qr; exact qr
   have ne2_0_1_2 := Nat.ne_of_lt (Nat.lt_of_lt_of_le (Array.getElem?_eq_some_iff.1 q1_2).1 g2_0)
   have ne2_1_1_2 := Nat.ne_of_lt (Nat.lt_of_lt_of_le (Array.getElem?_eq_some_iff.1 q1_2).1 g2_1)
   have q2_1_0 := oth0 hO2 q1_0
   have f2_1 := f1_1.kept hK2
   have f2_2 := f1_2.kept hK2
   have q2_1_1 := oth0 hO2 q1_1
   have f2_4 := f1_4.kept hK2
   have f2_5 := f1_5.kept hK2
   have q2_1_2 := oth0 hO2 q1_2
   simp only [putK, fC, fN, kZ, kS, vV, vA, vK, sI, sZ, sS, e2_14, e2_15]
   have hBt2 := hBt1.trans hB2
   clear hV2 hX2 hA2
   go_upto_region 2 with fail
   refine rg (n := 9) (t16 := 48) w.heap.size [(lc1 2)] [.val (.pointer (some ⟨(lc1 0), 0, none⟩)), .val (.pointer (some ⟨(lc1 0), 0, none⟩)), .val (.agg #[.bool ya0, .slice yp0 yl0 yd0]), .val (.agg #[.bool x2_16, .slice y2_16 z2_16 c2_16]), .k (num q1), .val (.pointer (some ⟨(lc1 1), 0, none⟩)), .val (.pointer (some ⟨(lc1 1), 0, none⟩)), .val (.agg #[.bool ya1, .slice yp1 yl1 yd1]), .val (.agg #[.bool x2_17, .slice y2_17 z2_17 c2_17]), .k (num q2), .k (num m), .val (.pointer (some ⟨(lc1 0), 0, none⟩)), .val (.pointer (some ⟨(lc1 0), 2, none⟩)), .val (.agg #[.bool ye0, .slice yq0 ym0 yr0]), .val (.agg #[.bool x2_17, .slice y2_17 z2_17 c2_17]), .k (num q3), .val (.pointer (some ⟨(lc1 1), 0, none⟩)), .val (.pointer (some ⟨(lc1 1), 2, none⟩)), .val (.agg #[.bool ye1, .slice yq1 ym1 yr1]), .val (.agg #[.bool x2_16, .slice y2_16 z2_16 c2_16]), .k (num q4), .k (num k), .k (fr m k), .k (fr m k), .any] [(0, 21), (1, 22), (2, 23), (3, 24), (4, 25), (5, 26), (6, 27), (7, 28), (8, 29), (9, 30), (10, 31), (11, 32), (12, 33), (13, 34), (14, 35), (15, 36), (16, 37), (17, 38), (18, 39), (19, 40), (20, 41), (21, 42), (22, 43), (23, 44)] [⟨73, none, (lc1 2), pt, 4, [.c #[.bool false, .slice none 0 0, .bool false, .slice none 0 0]], [(24, 0, 23)]⟩] ?ok3 ?st3 ?al3 ?pu3 ?en3
   case ok3 => exact BxOK.one ⟨(Nat.le_trans hB0.size g1_2), ⟨_, q2_1_2, rfl, rfl, rfl⟩, by simp, (by decide : (73 : Nat) ≠ 48)⟩ rfl hBt2.size
   case st3 =>
    intro zi zo ho hro a' u lc W hM
    match zi, ho, hro with
    | 0, ho, _ => cases ho; exact wn (kField73_0 rfl (hM.ol 2))
    | 1, ho, _ => cases ho; exact wn (kField26_0 rfl (hM.d 0 21 rfl))
    | 2, ho, _ => cases ho; exact wn (kL24 rfl (hM.d 1 22 rfl) (hM.o1 q2_1_0 (by omega)) rfl)
    | 3, ho, _ => cases ho; exact wn (kL24 rfl (hM.ol 5) (hM.o1 q2_0 (by omega)) rfl)
    | 4, ho, _ => cases ho; exact wn (kCall2 rfl may74 (hM.d 2 23 rfl) (hM.d 3 24 rfl) (c74 HG0.out F1.out (f2_1.kept hM.kept) (sk2_16.kept hM.kept)))
    | 5, ho, _ => cases ho; exact wn (kField73_0 rfl (hM.ol 3))
    | 6, ho, _ => cases ho; exact wn (kField26_0 rfl (hM.d 5 26 rfl))
    | 7, ho, _ => cases ho; exact wn (kL24 rfl (hM.d 6 27 rfl) (hM.o1 q2_1_1 (by omega)) rfl)
    | 8, ho, _ => cases ho; exact wn (kL24 rfl (hM.ol 6) (hM.o1 q2_1 (by omega)) rfl)
    | 9, ho, _ => cases ho; exact wn (kCall2 rfl may74 (hM.d 7 28 rfl) (hM.d 8 29 rfl) (c74 HH0.out F2.out (f2_4.kept hM.kept) (sk2_17.kept hM.kept)))
    | 10, ho, _ => cases ho; exact wn (kCall2 rfl may67 (hM.v 4 25 rfl) (hM.v 9 30 rfl) (c67 HM.out HMC.out (hM.kd 4) (hM.kd 9)))
    | 11, ho, _ => cases ho; exact wn (kField73_0 rfl (hM.ol 2))
    | 12, ho, _ => cases ho; exact wn (kField26_1 rfl (hM.d 11 32 rfl))
    | 13, ho, _ => cases ho; exact wn (kL24 rfl (hM.d 12 33 rfl) (hM.o1 q2_1_0 (by omega)) rfl)
    | 14, ho, _ => cases ho; exact wn (kL24 rfl (hM.ol 6) (hM.o1 q2_1 (by omega)) rfl)
    | 15, ho, _ => cases ho; exact wn (kCall2 rfl may74 (hM.d 13 34 rfl) (hM.d 14 35 rfl) (c74 HH0.out F3.out (f2_2.kept hM.kept) (sk2_17.kept hM.kept)))
    | 16, ho, _ => cases ho; exact wn (kField73_0 rfl (hM.ol 3))
    | 17, ho, _ => cases ho; exact wn (kField26_1 rfl (hM.d 16 37 rfl))
    | 18, ho, _ => cases ho; exact wn (kL24 rfl (hM.d 17 38 rfl) (hM.o1 q2_1_1 (by omega)) rfl)
    | 19, ho, _ => cases ho; exact wn (kL24 rfl (hM.ol 5) (hM.o1 q2_0 (by omega)) rfl)
    | 20, ho, _ => cases ho; exact wn (kCall2 rfl may74 (hM.d 18 39 rfl) (hM.d 19 40 rfl) (c74 HG0.out F4.out (f2_5.kept hM.kept) (sk2_16.kept hM.kept)))
    | 21, ho, _ => cases ho; exact wn (kCall2 rfl may67 (hM.v 15 36 rfl) (hM.v 20 41 rfl) (c67 HK.out HKC.out (hM.kd 15) (hM.kd 20)))
    | 22, ho, _ =>
     cases ho
     refine .inl ⟨wanted_none rfl, ?_⟩
     obtain ⟨sbx, spx, slx, scx, ex⟩ := (show Is (num m) _ W from (hM.kd 10)).form
     obtain ⟨sby, spy, sly, scy, ey⟩ := (show Is (num k) _ W from (hM.kd 21)).form
     exact kBuild26 rfl ((hM.v 10 31 rfl).trans ex) ((hM.v 21 42 rfl).trans ey) ⟨_, _, _, _, _, _, _, _, rfl, (by rw [← ex]; exact (hM.kd 10)), (by rw [← ey]; exact (hM.kd 21))⟩
    | 23, ho, _ =>
     cases ho
     refine .inl ⟨wanted_none rfl, ?_⟩
     obtain ⟨sb1, sp1, sl1, sc1, sb2, sp2, sl2, sc2, e, sh1, sh2⟩ := (show Is (fr m k) _ W from (hM.kd 22))
     exact kBuild73 rfl ((hM.v 22 43 rfl).trans e) ⟨_, _, _, _, _, _, _, _, rfl, sh1, sh2⟩
    | 24, _, hro => exact nr1 hro (by kernel_rfl)
    | zk + 25, ho, _ => simp at ho
   case al3 =>
    intro zk zb zi zo hk ha ho a' u lc W hM
    match zk, hk with
    | 0, hk => cases hk; cases ha
    | zk + 1, hk => simp at hk
   case pu3 =>
    intro zk zb zs zo hk hs ho a' u lc W zc hM hc hcs
    match zk, hk with
    | 0, hk =>
     cases hk
     simp only [List.mem_cons, List.not_mem_nil, or_false] at hs
     rcases hs with rfl
     · cases ho
       obtain ⟨sb, sp, sl, sc, sb2, sp2, sl2, sc2, e, _⟩ := (show Is (fr m k) (u 23) W from (hM.kd 23))
       exact kPut rfl e ((hM.ol 4).trans (show _ = Value.pointer (some ⟨lc 0, 0, none⟩) from by rw [show lc 0 = (lc1 2) from hM.locO 0 _ rfl rfl]; rfl)) (hM.v 23 44 rfl) hc hcs sz73
    | zk + 1, hk => simp at hk
   case en3 =>
    intro u3 lc3 W3 hK3 hB3 hO3 hV3 hX3 hA3
    have k3_23 := kk (hV3 23 44 rfl) rfl
    obtain ⟨qr, ho, hl⟩ := hX3 0 _ rfl
    have elc : lc3 0 = (lc1 2) := ho rfl
    rw [elc] at qr
    obtain ⟨x3_24, y3_24, z3_24, c3_24, x23_24, y23_24, z23_24, c23_24, es3_24, sa3_24, sb3_24⟩ := id k3_23
    have sk3_24 : Is (fr m k) (.agg #[.bool x3_24, .slice y3_24 z3_24 c3_24, .bool x23_24, .slice y23_24 z23_24 c23_24]) W3 := by rw [← es3_24]; exact k3_23
    have q3_0 : W3.heap[(lc1 2)]? = some (.cells #[.bool x3_24, .slice y3_24 z3_24 c3_24, .bool x23_24, .slice y23_24 z23_24 c23_24] 73) := by
     rw [contAll_one rfl (cs := #[.bool x3_24, .slice y3_24 z3_24 c3_24, .bool x23_24, .slice y23_24 z23_24 c23_24]) (by rw [es3_24]; rfl) rfl] at qr; exact qr
    simp only [putK, fC, fN, kZ, kS, vV, vK, sI, sZ, sS]
    have hBt3 := hBt2.trans hB3
    clear hV3 hX3 hA3
    have cr0 := cell_of q3_0 0 rfl
    have cr1 := cell_of q3_0 1 rfl
    have cr2 := cell_of q3_0 2 rfl
    have cr3 := cell_of q3_0 3 rfl
    go_wp2
    exact bodyPost_ret (v := .agg #[.bool x3_24, .slice y3_24 z3_24 c3_24, .bool x23_24, .slice y23_24 z23_24 c23_24]) (by simp [results, Tryz.results90, go_sem, cr0, cr1, cr2, cr3]) rfl ⟨_, rfl, sk3_24, hBt3⟩
end Go.Proofs.YtihdbjilolmfiaaGreatDoor
