import Derived.Test.YtihdbjilolmfiaaGreatDoorVLowest05
set_option maxRecDepth 100000
set_option maxHeartbeats 4000000
namespace Go.Proofs.YtihdbjilolmfiaaGreatDoor
open Go.RowKit Go.WM Go.WR
attribute [local go_sem] Oper.semAt_some
theorem c91n {x : Int} {v0 : Value} {w : World} (h0 : Is (num x) v0 w) : Calls Tryz.prog 91 #[v0] w (Ret (.k (num (-x))) w) := by
 by_cases h : x < 0
 · exact c91a h h0
 · exact c91b h h0
theorem c29 {r s : Rat} {v0 v1 : Value} {w : World} (hr : Fs r) (hs : Fs s) (ht : Fs (r * s)) (h0 : Is (frq r) v0 w) (h1 : Is (frq s) v1 w) : Calls Tryz.prog 29 #[v0, v1] w (Ret (.k (tup2 (.k (frq (r * s))) (.val (.int .i64 0)))) w) := by
 obtain ⟨ya0, yp0, yl0, yd0, ye0, yq0, ym0, yr0, rfl, yg0, yk0⟩ := id h0
 replace yg0 : Is (num r.num) (.agg #[.bool ya0, .slice yp0 yl0 yd0]) w := yg0
 replace yk0 : Is (num ((r.den : Nat) : Int)) (.agg #[.bool ye0, .slice yq0 ym0 yr0]) w := yk0
 obtain ⟨ya1, yp1, yl1, yd1, ye1, yq1, ym1, yr1, rfl, yg1, yk1⟩ := id h1
 replace yg1 : Is (num s.num) (.agg #[.bool ya1, .slice yp1 yl1 yd1]) w := yg1
 replace yk1 : Is (num ((s.den : Nat) : Int)) (.agg #[.bool ye1, .slice yq1 ym1 yr1]) w := yk1
 have hB0 := Below.refl w.heap.size w
 have HR := Lib.hid hr
 have HS := Lib.hid hs
 have HT := Lib.hid ht
 clear hr hs ht
 go_enter Tryz.func29, Tryz.ntmps29
 go_upto_region 0 with fail
 refine rg (n := 9) (t16 := 48) w.heap.size [] [.any, .any, .any, vZ] [(0, 2), (1, 3), (2, 4), (3, 5)] [⟨26, some 0, 0, pt, 4, [.c #[.bool ya0, .slice yp0 yl0 yd0, .bool ye0, .slice yq0 ym0 yr0]], []⟩, ⟨26, some 1, 0, pt, 4, [.c #[.bool ya1, .slice yp1 yl1 yd1, .bool ye1, .slice yq1 ym1 yr1]], []⟩, ⟨26, some 2, 0, pt, 4, [.c #[.bool false, .slice none 0 0, .bool false, .slice none 0 0]], []⟩] ?ok1 ?st1 ?al1 ?pu1 ?en1
 case ok1 => exact BxOK.fresh rfl hB0.size
 case st1 =>
  intro zi zo ho hro a' u lc W hM
  match zi, ho, hro with
  | 0, _, hro => exact nr1 hro (by kernel_rfl)
  | 1, _, hro => exact nr1 hro (by kernel_rfl)
  | 2, _, hro => exact nr1 hro (by kernel_rfl)
  | 3, ho, _ => cases ho; exact wn (kAssign rfl rfl)
  | zk + 4, ho, _ => simp at ho
 case al1 =>
  intro zk zb zi zo hk ha ho a' u lc W hM
  match zk, hk with
  | 0, hk => cases hk; cases ha; cases ho; exact ⟨rfl, rfl, rfl, rfl, kBox rfl (hM.ol 0)⟩
  | 1, hk => cases hk; cases ha; cases ho; exact ⟨rfl, rfl, rfl, rfl, kBox rfl (hM.ol 1)⟩
  | 2, hk => cases hk; cases ha; cases ho; exact ⟨rfl, rfl, rfl, rfl, kAlloc26 rfl⟩
  | zk + 3, hk => simp at hk
 case pu1 =>
  intro zk zb zs zo hk hs ho a' u lc W zc hM hc hcs
  match zk, hk with
  | 0, hk => cases hk; simp at hs
  | 1, hk => cases hk; simp at hs
  | 2, hk => cases hk; simp at hs
  | zk + 3, hk => simp at hk
 case en1 =>
  intro u1 lc1 W1 hK1 hB1 hO1 hV1 hX1 hA1
  obtain ⟨qr, ho, hl⟩ := hX1 0 _ rfl
  have e1_0 : u1 0 = .pointer (some ⟨lc1 0, 0, none⟩) := (hl 0 rfl).1
  have g1_0 := (hl 0 rfl).2
  have f1_0 := h0.kept hK1
  have q1_0 : W1.heap[(lc1 0)]? = some (.cells #[.bool ya0, .slice yp0 yl0 yd0, .bool ye0, .slice yq0 ym0 yr0] 26) := by
   exact qr
  obtain ⟨qr, ho, hl⟩ := hX1 1 _ rfl
  have e1_1 : u1 1 = .pointer (some ⟨lc1 1, 0, none⟩) := (hl 1 rfl).1
  have g1_1 := (hl 1 rfl).2
  have f1_3 := h1.kept hK1
  have q1_1 : W1.heap[(lc1 1)]? = some (.cells #[.bool ya1, .slice yp1 yl1 yd1, .bool ye1, .slice yq1 ym1 yr1] 26) := by
   exact qr
  obtain ⟨qr, ho, hl⟩ := hX1 2 _ rfl
  have e1_2 : u1 2 = .pointer (some ⟨lc1 2, 0, none⟩) := (hl 2 rfl).1
  have g1_2 := (hl 2 rfl).2
  have q1_2 : W1.heap[(lc1 2)]? = some (.cells #[.bool false, .slice none 0 0, .bool false, .slice none 0 0] 26) := by
   exact qr
  have ne1_0_2 := hA1 0 2 _ _ rfl rfl (by decide)
  have ne1_1_2 := hA1 1 2 _ _ rfl rfl (by decide)
  simp only [putK, fC, fN, kZ, kS, vV, vA, sI, sZ, sS, e1_0, e1_1, e1_2]
  have hBt1 := hB0.trans hB1
  clear hV1 hX1 hA1
  go_upto_region 1 with fail
  refine rg (n := 9) (t16 := 48) w.heap.size [] [.val (.agg #[.bool ya0, .slice yp0 yl0 yd0, .bool ye0, .slice yq0 ym0 yr0]), .val (.agg #[.bool ya1, .slice yp1 yl1 yd1, .bool ye1, .slice yq1 ym1 yr1]), .any, vT, vF] [(0, 6), (1, 7), (2, 8), (3, 9), (4, 10)] [⟨26, some 2, 0, fun B => .slice (some ⟨B, 0, none⟩) 2 2, 8, [.c #[.bool ya0, .slice yp0 yl0 yd0, .bool ye0, .slice yq0 ym0 yr0, .bool ya1, .slice yp1 yl1 yd1, .bool ye1, .slice yq1 ym1 yr1]], []⟩] ?ok2 ?st2 ?al2 ?pu2 ?en2
  case ok2 => exact BxOK.fresh rfl hBt1.size
  case st2 =>
   intro zi zo ho hro a' u lc W hM
   match zi, ho, hro with
   | 0, ho, _ => cases ho; exact wn (kL26 rfl (hM.ol 2) (hM.o0 q1_0))
   | 1, ho, _ => cases ho; exact wn (kL26 rfl (hM.ol 3) (hM.o0 q1_1))
   | 2, _, hro => exact nr1 hro (by kernel_rfl)
   | 3, ho, _ => cases ho; exact wn (kCall1 rfl may65 ((hM.v 2 8 rfl).trans (hM.loc 0 _ 2 rfl rfl (by kernel_rfl))) (c65q (hM.full 0 _ rfl (by kernel_rfl) rfl) HR.out HS.out (f1_0.kept hM.kept) (f1_3.kept hM.kept)))
   | 4, ho, _ => cases ho; exact wn (kNot rfl (hM.d 3 9 rfl) rfl)
   | zk + 5, ho, _ => simp at ho
  case al2 =>
   intro zk zb zi zo hk ha ho a' u lc W hM
   match zk, hk with
   | 0, hk => cases hk; cases ha; cases ho; exact ⟨rfl, rfl, rfl, rfl, kSlice2 rfl (hM.d 0 6 rfl) (hM.d 1 7 rfl)⟩
   | zk + 1, hk => simp at hk
  case pu2 =>
   intro zk zb zs zo hk hs ho a' u lc W zc hM hc hcs
   match zk, hk with
   | 0, hk => cases hk; simp at hs
   | zk + 1, hk => simp at hk
  case en2 =>
   intro u2 lc2 W2 hK2 hB2 hO2 hV2 hX2 hA2
   have e2_0 := kv (hV2 0 6 rfl) rfl
   obtain ⟨qr, ho, hl⟩ := hX2 0 _ rfl
   have e2_2 : u2 2 = .slice (some ⟨lc2 0, 0, none⟩) 2 2 := (hl 2 rfl).1
   have g2_0 := (hl 2 rfl).2
   have f2_0 := f1_0.kept hK2
   have f2_3 := f1_3.kept hK2
   have ne2_0_1_2 := Nat.ne_of_lt (Nat.lt_of_lt_of_le (Array.getElem?_eq_some_iff.1 q1_2).1 g2_0)
   have q2_1_0 := oth0 hO2 q1_0
   have q2_1_1 := oth0 hO2 q1_1
   have q2_1_2 := oth0 hO2 q1_2
   simp only [putK, fC, fN, kZ, kS, vV, vA, sI, sZ, sS, e2_2]
   have hBt2 := hBt1.trans hB2
   clear hV2 hX2 hA2
   go_upto_region 3 with fail
   refine rg (n := 9) (t16 := 48) w.heap.size [(lc1 2)] [.val (.agg #[.bool ya0, .slice yp0 yl0 yd0, .bool ye0, .slice yq0 ym0 yr0]), .val (.agg #[.bool ya0, .slice yp0 yl0 yd0, .bool ye0, .slice yq0 ym0 yr0]), .val (.agg #[.bool ya1, .slice yp1 yl1 yd1, .bool ye1, .slice yq1 ym1 yr1]), .val (.agg #[.bool ya1, .slice yp1 yl1 yd1, .bool ye1, .slice yq1 ym1 yr1]), .k (frq (r * s)), .k (tup2 (.k (frq (r * s))) (vZ)), .k (frq (r * s)), vZ, .any, vZ] [(0, 12), (1, 13), (2, 14), (3, 15), (4, 16), (5, 17), (6, 18), (7, 19), (9, 5)] [⟨26, none, (lc1 2), pt, 4, [.c #[.bool false, .slice none 0 0, .bool false, .slice none 0 0]], [(8, 0, 6)]⟩] ?ok3 ?st3 ?al3 ?pu3 ?en3
   case ok3 => exact BxOK.one ⟨(Nat.le_trans hB0.size g1_2), ⟨_, q2_1_2, rfl, rfl, rfl⟩, by simp, (by decide : (26 : Nat) ≠ 48)⟩ rfl hBt2.size
   case st3 =>
    intro zi zo ho hro a' u lc W hM
    match zi, ho, hro with
    | 0, ho, _ => cases ho; exact wn (kL26 rfl (hM.ol 2) (hM.o1 q2_1_0 (by omega)))
    | 1, ho, _ => cases ho; exact wn (kBuild73 rfl (hM.d 0 12 rfl) rfl)
    | 2, ho, _ => cases ho; exact wn (kL26 rfl (hM.ol 3) (hM.o1 q2_1_1 (by omega)))
    | 3, ho, _ => cases ho; exact wn (kBuild73 rfl (hM.d 2 14 rfl) rfl)
    | 4, ho, _ => cases ho; exact wn (kCall2 rfl may90 (hM.d 1 13 rfl) (hM.d 3 15 rfl) (c90q HR.out HS.out (f2_0.kept hM.kept) (f2_3.kept hM.kept)))
    | 5, ho, _ => cases ho; exact wn (kCall1 rfl may75 (hM.v 4 16 rfl) (c75q HT.out (hM.kd 4)))
    | 6, ho, _ => cases ho; exact wn (kEx20 rfl (hM.d 5 17 rfl))
    | 7, ho, _ => cases ho; exact wn (kEx21 rfl (hM.d 5 17 rfl))
    | 8, _, hro => exact nr1 hro (by kernel_rfl)
    | 9, ho, _ => cases ho; exact wn (kAssign rfl (hM.d 7 19 rfl))
    | zk + 10, ho, _ => simp at ho
   case al3 =>
    intro zk zb zi zo hk ha ho a' u lc W hM
    match zk, hk with
    | 0, hk => cases hk; cases ha
    | zk + 1, hk => simp at hk
   case pu3 =>
    intro zk zb zs zo hk hs ho a' u lc W zc hM hc hcs
    match zk, hk with
    | 0, hk =>
     cases hk
     simp only [List.mem_cons, List.not_mem_nil, or_false] at hs
     rcases hs with rfl
     · cases ho
       obtain ⟨sb, sp, sl, sc, sb2, sp2, sl2, sc2, e, _⟩ := (show Is (frq (r * s)) (u 6) W from (hM.kd 6))
       exact kPut rfl e ((hM.ol 4).trans (show _ = Value.pointer (some ⟨lc 0, 0, none⟩) from by rw [show lc 0 = (lc1 2) from hM.locO 0 _ rfl rfl]; rfl)) (hM.v 6 18 rfl) hc hcs sz26
    | zk + 1, hk => simp at hk
   case en3 =>
    intro u3 lc3 W3 hK3 hB3 hO3 hV3 hX3 hA3
    have k3_6 := kk (hV3 6 18 rfl) rfl
    obtain ⟨qr, ho, hl⟩ := hX3 0 _ rfl
    have elc : lc3 0 = (lc1 2) := ho rfl
    rw [elc] at qr
    obtain ⟨x3_8, y3_8, z3_8, c3_8, x23_8, y23_8, z23_8, c23_8, es3_8, sa3_8, sb3_8⟩ := id k3_6
    have sk3_8 : Is (frq (r * s)) (.agg #[.bool x3_8, .slice y3_8 z3_8 c3_8, .bool x23_8, .slice y23_8 z23_8 c23_8]) W3 := by rw [← es3_8]; exact k3_6
    have q3_0 : W3.heap[(lc1 2)]? = some (.cells #[.bool x3_8, .slice y3_8 z3_8 c3_8, .bool x23_8, .slice y23_8 z23_8 c23_8] 26) := by
     rw [contAll_one rfl (cs := #[.bool x3_8, .slice y3_8 z3_8 c3_8, .bool x23_8, .slice y23_8 z23_8 c23_8]) (by rw [es3_8]; rfl) rfl] at qr; exact qr
    simp only [putK, fC, fN, kZ, kS, vV, vK, sI, sZ, sS]
    have hBt3 := hBt2.trans hB3
    clear hV3 hX3 hA3
    have cr0 := cell_of q3_0 0 rfl
    have cr1 := cell_of q3_0 1 rfl
    have cr2 := cell_of q3_0 2 rfl
    have cr3 := cell_of q3_0 3 rfl
    go_wp2
    exact bodyPost_ret (v := .tuple #[.agg #[.bool x3_8, .slice y3_8 z3_8 c3_8, .bool x23_8, .slice y23_8 z23_8 c23_8], .int .i64 0]) (by simp [results, Tryz.results29, go_sem, cr0, cr1, cr2, cr3]) rfl ⟨_, rfl, ⟨_, _, rfl, sk3_8, rfl⟩, hBt3⟩
theorem c57 {r s : Rat} {v0 v1 : Value} {w : World} (hr : Fs r) (hs : Fs s) (ht : Fs (r + -s)) (h0 : Is (frq r) v0 w) (h1 : Is (frq s) v1 w) : Calls Tryz.prog 57 #[v0, v1] w (Ret (.k (tup2 (.k (frq (r + -s))) (.val (.int .i64 0)))) w) := by
 obtain ⟨ya0, yp0, yl0, yd0, ye0, yq0, ym0, yr0, rfl, yg0, yk0⟩ := id h0
 replace yg0 : Is (num r.num) (.agg #[.bool ya0, .slice yp0 yl0 yd0]) w := yg0
 replace yk0 : Is (num ((r.den : Nat) : Int)) (.agg #[.bool ye0, .slice yq0 ym0 yr0]) w := yk0
 obtain ⟨ya1, yp1, yl1, yd1, ye1, yq1, ym1, yr1, rfl, yg1, yk1⟩ := id h1
 replace yg1 : Is (num s.num) (.agg #[.bool ya1, .slice yp1 yl1 yd1]) w := yg1
 replace yk1 : Is (num ((s.den : Nat) : Int)) (.agg #[.bool ye1, .slice yq1 ym1 yr1]) w := yk1
 have hB0 := Below.refl w.heap.size w
 have HR := Lib.hid hr
 have HS := Lib.hid hs
 have HT := Lib.hid ht
 clear hr hs ht
 go_enter Tryz.func57, Tryz.ntmps57
 go_upto_region 0 with fail
 refine rg (n := 9) (t16 := 48) w.heap.size [] [.any, .any, .any, vZ] [(0, 2), (1, 3), (2, 4), (3, 5)] [⟨26, some 0, 0, pt, 4, [.c #[.bool ya0, .slice yp0 yl0 yd0, .bool ye0, .slice yq0 ym0 yr0]], []⟩, ⟨26, some 1, 0, pt, 4, [.c #[.bool ya1, .slice yp1 yl1 yd1, .bool ye1, .slice yq1 ym1 yr1]], []⟩, ⟨26, some 2, 0, pt, 4, [.c #[.bool false, .slice none 0 0, .bool false, .slice none 0 0]], []⟩] ?ok1 ?st1 ?al1 ?pu1 ?en1
 case ok1 => exact BxOK.fresh rfl hB0.size
 case st1 =>
  intro zi zo ho hro a' u lc W hM
  match zi, ho, hro with
  | 0, _, hro => exact nr1 hro (by kernel_rfl)
  | 1, _, hro => exact nr1 hro (by kernel_rfl)
  | 2, _, hro => exact nr1 hro (by kernel_rfl)
  | 3, ho, _ => cases ho; exact wn (kAssign rfl rfl)
  | zk + 4, ho, _ => simp at ho
 case al1 =>
  intro zk zb zi zo hk ha ho a' u lc W hM
  match zk, hk with
  | 0, hk => cases hk; cases ha; cases ho; exact ⟨rfl, rfl, rfl, rfl, kBox rfl (hM.ol 0)⟩
  | 1, hk => cases hk; cases ha; cases ho; exact ⟨rfl, rfl, rfl, rfl, kBox rfl (hM.ol 1)⟩
  | 2, hk => cases hk; cases ha; cases ho; exact ⟨rfl, rfl, rfl, rfl, kAlloc26 rfl⟩
  | zk + 3, hk => simp at hk
 case pu1 =>
  intro zk zb zs zo hk hs ho a' u lc W zc hM hc hcs
  match zk, hk with
  | 0, hk => cases hk; simp at hs
  | 1, hk => cases hk; simp at hs
  | 2, hk => cases hk; simp at hs
  | zk + 3, hk => simp at hk
 case en1 =>
  intro u1 lc1 W1 hK1 hB1 hO1 hV1 hX1 hA1
  obtain ⟨qr, ho, hl⟩ := hX1 0 _ rfl
  have e1_0 : u1 0 = .pointer (some ⟨lc1 0, 0, none⟩) := (hl 0 rfl).1
  have g1_0 := (hl 0 rfl).2
  have f1_0 := h0.kept hK1
  have q1_0 : W1.heap[(lc1 0)]? = some (.cells #[.bool ya0, .slice yp0 yl0 yd0, .bool ye0, .slice yq0 ym0 yr0] 26) := by
   exact qr
  obtain ⟨qr, ho, hl⟩ := hX1 1 _ rfl
  have e1_1 : u1 1 = .pointer (some ⟨lc1 1, 0, none⟩) := (hl 1 rfl).1
  have g1_1 := (hl 1 rfl).2
  have f1_3 := h1.kept hK1
  have f1_4 := yg1.kept hK1
  have f1_5 := yk1.kept hK1
  have q1_1 : W1.heap[(lc1 1)]? = some (.cells #[.bool ya1, .slice yp1 yl1 yd1, .bool ye1, .slice yq1 ym1 yr1] 26) := by
   exact qr
  obtain ⟨qr, ho, hl⟩ := hX1 2 _ rfl
  have e1_2 : u1 2 = .pointer (some ⟨lc1 2, 0, none⟩) := (hl 2 rfl).1
  have g1_2 := (hl 2 rfl).2
  have q1_2 : W1.heap[(lc1 2)]? = some (.cells #[.bool false, .slice none 0 0, .bool false, .slice none 0 0] 26) := by
   exact qr
  have ne1_0_2 := hA1 0 2 _ _ rfl rfl (by decide)
  have ne1_1_2 := hA1 1 2 _ _ rfl rfl (by decide)
  simp only [putK, fC, fN, kZ, kS, vV, vA, sI, sZ, sS, e1_0, e1_1, e1_2]
  have hBt1 := hB0.trans hB1
  clear hV1 hX1 hA1
  go_upto_region 1 with fail
  refine rg (n := 9) (t16 := 48) w.heap.size [] [.val (.agg #[.bool ya0, .slice yp0 yl0 yd0, .bool ye0, .slice yq0 ym0 yr0]), .val (.agg #[.bool ya1, .slice yp1 yl1 yd1, .bool ye1, .slice yq1 ym1 yr1]), .any, vT, vF] [(0, 6), (1, 7), (2, 8), (3, 9), (4, 10)] [⟨26, some 2, 0, fun B => .slice (some ⟨B, 0, none⟩) 2 2, 8, [.c #[.bool ya0, .slice yp0 yl0 yd0, .bool ye0, .slice yq0 ym0 yr0, .bool ya1, .slice yp1 yl1 yd1, .bool ye1, .slice yq1 ym1 yr1]], []⟩] ?ok2 ?st2 ?al2 ?pu2 ?en2
  case ok2 => exact BxOK.fresh rfl hBt1.size
  case st2 =>
   intro zi zo ho hro a' u lc W hM
   match zi, ho, hro with
   | 0, ho, _ => cases ho; exact wn (kL26 rfl (hM.ol 2) (hM.o0 q1_0))
   | 1, ho, _ => cases ho; exact wn (kL26 rfl (hM.ol 3) (hM.o0 q1_1))
   | 2, _, hro => exact nr1 hro (by kernel_rfl)
   | 3, ho, _ => cases ho; exact wn (kCall1 rfl may65 ((hM.v 2 8 rfl).trans (hM.loc 0 _ 2 rfl rfl (by kernel_rfl))) (c65q (hM.full 0 _ rfl (by kernel_rfl) rfl) HR.out HS.out (f1_0.kept hM.kept) (f1_3.kept hM.kept)))
   | 4, ho, _ => cases ho; exact wn (kNot rfl (hM.d 3 9 rfl) rfl)
   | zk + 5, ho, _ => simp at ho
  case al2 =>
   intro zk zb zi zo hk ha ho a' u lc W hM
   match zk, hk with
   | 0, hk => cases hk; cases ha; cases ho; exact ⟨rfl, rfl, rfl, rfl, kSlice2 rfl (hM.d 0 6 rfl) (hM.d 1 7 rfl)⟩
   | zk + 1, hk => simp at hk
  case pu2 =>
   intro zk zb zs zo hk hs ho a' u lc W zc hM hc hcs
   match zk, hk with
   | 0, hk => cases hk; simp at hs
   | zk + 1, hk => simp at hk
  case en2 =>
   intro u2 lc2 W2 hK2 hB2 hO2 hV2 hX2 hA2
   have e2_0 := kv (hV2 0 6 rfl) rfl
   obtain ⟨qr, ho, hl⟩ := hX2 0 _ rfl
   have e2_2 : u2 2 = .slice (some ⟨lc2 0, 0, none⟩) 2 2 := (hl 2 rfl).1
   have g2_0 := (hl 2 rfl).2
   have f2_0 := f1_0.kept hK2
   have f2_4 := f1_4.kept hK2
   have f2_5 := f1_5.kept hK2
   have ne2_0_1_2 := Nat.ne_of_lt (Nat.lt_of_lt_of_le (Array.getElem?_eq_some_iff.1 q1_2).1 g2_0)
   have q2_1_0 := oth0 hO2 q1_0
   have q2_1_1 := oth0 hO2 q1_1
   have q2_1_2 := oth0 hO2 q1_2
   simp only [putK, fC, fN, kZ, kS, vV, vA, sI, sZ, sS, e2_2]
   have hBt2 := hBt1.trans hB2
   clear hV2 hX2 hA2
   go_upto_region 3 with fail
   refine rg (n := 9) (t16 := 48) w.heap.size [(lc1 2)] [.val (.agg #[.bool ya0, .slice yp0 yl0 yd0, .bool ye0, .slice yq0 ym0 yr0]), .val (.agg #[.bool ya0, .slice yp0 yl0 yd0, .bool ye0, .slice yq0 ym0 yr0]), .val (.pointer (some ⟨(lc1 1), 0, none⟩)), .val (.agg #[.bool ya1, .slice yp1 yl1 yd1]), .k (num (-s.num)), .val (.pointer (some ⟨(lc1 1), 2, none⟩)), .val (.agg #[.bool ye1, .slice yq1 ym1 yr1]), .k (fr (-s.num) ((s.den : Nat) : Int)), .k (fr (-s.num) ((s.den : Nat) : Int)), .k (frq (r + -s)), .k (tup2 (.k (frq (r + -s))) (vZ)), .k (frq (r + -s)), vZ, .any, vZ] [(0, 12), (1, 13), (2, 14), (3, 15), (4, 16), (5, 17), (6, 18), (7, 19), (8, 20), (9, 21), (10, 22), (11, 23), (12, 24), (14, 5)] [⟨26, none, (lc1 2), pt, 4, [.c #[.bool false, .slice none 0 0, .bool false, .slice none 0 0]], [(13, 0, 11)]⟩] ?ok3 ?st3 ?al3 ?pu3 ?en3
   case ok3 => exact BxOK.one ⟨(Nat.le_trans hB0.size g1_2), ⟨_, q2_1_2, rfl, rfl, rfl⟩, by simp, (by decide : (26 : Nat) ≠ 48)⟩ rfl hBt2.size
   case st3 =>
    intro zi zo ho hro a' u lc W hM
    match zi, ho, hro with
    | 0, ho, _ => cases ho; exact wn (kL26 rfl (hM.ol 2) (hM.o1 q2_1_0 (by omega)))
    | 1, ho, _ => cases ho; exact wn (kBuild73 rfl (hM.d 0 12 rfl) rfl)
    | 2, ho, _ => cases ho; exact wn (kField26_0 rfl (hM.ol 3))
    | 3, ho, _ => cases ho; exact wn (kL24 rfl (hM.d 2 14 rfl) (hM.o1 q2_1_1 (by omega)) rfl)
    | 4, ho, _ => cases ho; exact wn (kCall1 rfl may91 (hM.d 3 15 rfl) (c91n (f2_4.kept hM.kept)))
    | 5, ho, _ => cases ho; exact wn (kField26_1 rfl (hM.ol 3))
    | 6, ho, _ => cases ho; exact wn (kL24 rfl (hM.d 5 17 rfl) (hM.o1 q2_1_1 (by omega)) rfl)
    | 7, ho, _ =>
     cases ho
     refine .inl ⟨wanted_none rfl, ?_⟩
     obtain ⟨sbx, spx, slx, scx, ex⟩ := (show Is (num (-s.num)) _ W from (hM.kd 4)).form
     exact kBuild26 rfl ((hM.v 4 16 rfl).trans ex) (hM.d 6 18 rfl) ⟨_, _, _, _, _, _, _, _, rfl, (by rw [← ex]; exact (hM.kd 4)), (f2_5.kept hM.kept)⟩
    | 8, ho, _ =>
     cases ho
     refine .inl ⟨wanted_none rfl, ?_⟩
     obtain ⟨sb1, sp1, sl1, sc1, sb2, sp2, sl2, sc2, e, sh1, sh2⟩ := (show Is (fr (-s.num) ((s.den : Nat) : Int)) _ W from (hM.kd 7))
     exact kBuild73 rfl ((hM.v 7 19 rfl).trans e) ⟨_, _, _, _, _, _, _, _, rfl, sh1, sh2⟩
    | 9, ho, _ => cases ho; exact wn (kCall2 rfl may89 (hM.d 1 13 rfl) (hM.v 8 20 rfl) (c89q HR.out HS.out.neg (f2_0.kept hM.kept) (by rw [← fr_neg]; exact (hM.kd 8))))
    | 10, ho, _ => cases ho; exact wn (kCall1 rfl may75 (hM.v 9 21 rfl) (c75q HT.out (hM.kd 9)))
    | 11, ho, _ => cases ho; exact wn (kEx20 rfl (hM.d 10 22 rfl))
    | 12, ho, _ => cases ho; exact wn (kEx21 rfl (hM.d 10 22 rfl))
    | 13, _, hro => exact nr1 hro (by kernel_rfl)
    | 14, ho, _ => cases ho; exact wn (kAssign rfl (hM.d 12 24 rfl))
    | zk + 15, ho, _ => simp at ho
   case al3 =>
    intro zk zb zi zo hk ha ho a' u lc W hM
    match zk, hk with
    | 0, hk => cases hk; cases ha
    | zk + 1, hk => simp at hk
   case pu3 =>
    intro zk zb zs zo hk hs ho a' u lc W zc hM hc hcs
    match zk, hk with
    | 0, hk =>
     cases hk
     simp only [List.mem_cons, List.not_mem_nil, or_false] at hs
     rcases hs with rfl
     · cases ho
       obtain ⟨sb, sp, sl, sc, sb2, sp2, sl2, sc2, e, _⟩ := (show Is (frq (r + -s)) (u 11) W from (hM.kd 11))
       exact kPut rfl e ((hM.ol 4).trans (show _ = Value.pointer (some ⟨lc 0, 0, none⟩) from by rw [show lc 0 = (lc1 2) from hM.locO 0 _ rfl rfl]; rfl)) (hM.v 11 23 rfl) hc hcs sz26
    | zk + 1, hk => simp at hk
   case en3 =>
    intro u3 lc3 W3 hK3 hB3 hO3 hV3 hX3 hA3
    have k3_11 := kk (hV3 11 23 rfl) rfl
    obtain ⟨qr, ho, hl⟩ := hX3 0 _ rfl
    have elc : lc3 0 = (lc1 2) := ho rfl
    rw [elc] at qr
    obtain ⟨x3_13, y3_13, z3_13, c3_13, x23_13, y23_13, z23_13, c23_13, es3_13, sa3_13, sb3_13⟩ := id k3_11
    have sk3_13 : Is (frq (r + -s)) (.agg #[.bool x3_13, .slice y3_13 z3_13 c3_13, .bool x23_13, .slice y23_13 z23_13 c23_13]) W3 := by rw [← es3_13]; exact k3_11
    have q3_0 : W3.heap[(lc1 2)]? = some (.cells #[.bool x3_13, .slice y3_13 z3_13 c3_13, .bool x23_13, .slice y23_13 z23_13 c23_13] 26) := by
     rw [contAll_one rfl (cs := #[.bool x3_13, .slice y3_13 z3_13 c3_13, .bool x23_13, .slice y23_13 z23_13 c23_13]) (by rw [es3_13]; rfl) rfl] at qr; exact qr
    simp only [putK, fC, fN, kZ, kS, vV, vK, sI, sZ, sS]
    have hBt3 := hBt2.trans hB3
    clear hV3 hX3 hA3
    have cr0 := cell_of q3_0 0 rfl
    have cr1 := cell_of q3_0 1 rfl
    have cr2 := cell_of q3_0 2 rfl
    have cr3 := cell_of q3_0 3 rfl
    go_wp2
    exact bodyPost_ret (v := .tuple #[.agg #[.bool x3_13, .slice y3_13 z3_13 c3_13, .bool x23_13, .slice y23_13 z23_13 c23_13], .int .i64 0]) (by simp [results, Tryz.results57, go_sem, cr0, cr1, cr2, cr3]) rfl ⟨_, rfl, ⟨_, _, rfl, sk3_13, rfl⟩, hBt3⟩
theorem c40 {r s : Rat} {v0 v1 : Value} {w : World} (hr : Fs r) (hs : Fs s) (h0s : s ≠ 0) (hz : decide (s.num = 0) = false) (ht : Fs (r * s⁻¹)) (h0 : Is (frq r) v0 w) (h1 : Is (frq s) v1 w) : Calls Tryz.prog 40 #[v0, v1] w (Ret (.k (tup2 (.k (frq (r * s⁻¹))) (.val (.int .i64 0)))) w) := by
 obtain ⟨ya0, yp0, yl0, yd0, ye0, yq0, ym0, yr0, rfl, yg0, yk0⟩ := id h0
 replace yg0 : Is (num r.num) (.agg #[.bool ya0, .slice yp0 yl0 yd0]) w := yg0
 replace yk0 : Is (num ((r.den : Nat) : Int)) (.agg #[.bool ye0, .slice yq0 ym0 yr0]) w := yk0
 obtain ⟨ya1, yp1, yl1, yd1, ye1, yq1, ym1, yr1, rfl, yg1, yk1⟩ := id h1
 replace yg1 : Is (num s.num) (.agg #[.bool ya1, .slice yp1 yl1 yd1]) w := yg1
 replace yk1 : Is (num ((s.den : Nat) : Int)) (.agg #[.bool ye1, .slice yq1 ym1 yr1]) w := yk1
 have hB0 := Below.refl w.heap.size w
 have HR := Lib.hid hr
 have HS := Lib.hid hs
 have H0S := Lib.hid h0s
 have HZ := Lib.hid hz
 have HT := Lib.hid ht
 clear hr hs h0s hz ht
 go_enter Tryz.func40, Tryz.ntmps40
 go_upto_region 0 with fail
 refine rg (n := 9) (t16 := 48) w.heap.size [] [.any, .any, .any, vZ] [(0, 2), (1, 3), (2, 4), (3, 5)] [⟨26, some 0, 0, pt, 4, [.c #[.bool ya0, .slice yp0 yl0 yd0, .bool ye0, .slice yq0 ym0 yr0]], []⟩, ⟨26, some 1, 0, pt, 4, [.c #[.bool ya1, .slice yp1 yl1 yd1, .bool ye1, .slice yq1 ym1 yr1]], []⟩, ⟨26, some 2, 0, pt, 4, [.c #[.bool false, .slice none 0 0, .bool false, .slice none 0 0]], []⟩] ?ok1 ?st1 ?al1 ?pu1 ?en1
 case ok1 => exact BxOK.fresh rfl hB0.size
 case st1 =>
  intro zi zo ho hro a' u lc W hM
  match zi, ho, hro with
  | 0, _, hro => exact nr1 hro (by kernel_rfl)
  | 1, _, hro => exact nr1 hro (by kernel_rfl)
  | 2, _, hro => exact nr1 hro (by kernel_rfl)
  | 3, ho, _ => cases ho; exact wn (kAssign rfl rfl)
  | zk + 4, ho, _ => simp at ho
 case al1 =>
  intro zk zb zi zo hk ha ho a' u lc W hM
  match zk, hk with
  | 0, hk => cases hk; cases ha; cases ho; exact ⟨rfl, rfl, rfl, rfl, kBox rfl (hM.ol 0)⟩
  | 1, hk => cases hk; cases ha; cases ho; exact ⟨rfl, rfl, rfl, rfl, kBox rfl (hM.ol 1)⟩
  | 2, hk => cases hk; cases ha; cases ho; exact ⟨rfl, rfl, rfl, rfl, kAlloc26 rfl⟩
  | zk + 3, hk => simp at hk
 case pu1 =>
  intro zk zb zs zo hk hs ho a' u lc W zc hM hc hcs
  match zk, hk with
  | 0, hk => cases hk; simp at hs
  | 1, hk => cases hk; simp at hs
  | 2, hk => cases hk; simp at hs
  | zk + 3, hk => simp at hk
 case en1 =>
  intro u1 lc1 W1 hK1 hB1 hO1 hV1 hX1 hA1
  obtain ⟨qr, ho, hl⟩ := hX1 0 _ rfl
  have e1_0 : u1 0 = .pointer (some ⟨lc1 0, 0, none⟩) := (hl 0 rfl).1
  have g1_0 := (hl 0 rfl).2
  have f1_0 := h0.kept hK1
  have q1_0 : W1.heap[(lc1 0)]? = some (.cells #[.bool ya0, .slice yp0 yl0 yd0, .bool ye0, .slice yq0 ym0 yr0] 26) := by
   exact qr
  obtain ⟨qr, ho, hl⟩ := hX1 1 _ rfl
  have e1_1 : u1 1 = .pointer (some ⟨lc1 1, 0, none⟩) := (hl 1 rfl).1
  have g1_1 := (hl 1 rfl).2
  have f1_3 := h1.kept hK1
  have q1_1 : W1.heap[(lc1 1)]? = some (.cells #[.bool ya1, .slice yp1 yl1 yd1, .bool ye1, .slice yq1 ym1 yr1] 26) := by
   exact qr
  obtain ⟨qr, ho, hl⟩ := hX1 2 _ rfl
  have e1_2 : u1 2 = .pointer (some ⟨lc1 2, 0, none⟩) := (hl 2 rfl).1
  have g1_2 := (hl 2 rfl).2
  have q1_2 : W1.heap[(lc1 2)]? = some (.cells #[.bool false, .slice none 0 0, .bool false, .slice none 0 0] 26) := by
   exact qr
  have ne1_0_2 := hA1 0 2 _ _ rfl rfl (by decide)
  have ne1_1_2 := hA1 1 2 _ _ rfl rfl (by decide)
  simp only [putK, fC, fN, kZ, kS, vV, vA, sI, sZ, sS, e1_0, e1_1, e1_2]
  have hBt1 := hB0.trans hB1
  clear hV1 hX1 hA1
  go_upto_region 1 with fail
  refine rg (n := 9) (t16 := 48) w.heap.size [] [.val (.agg #[.bool ya0, .slice yp0 yl0 yd0, .bool ye0, .slice yq0 ym0 yr0]), .val (.agg #[.bool ya1, .slice yp1 yl1 yd1, .bool ye1, .slice yq1 ym1 yr1]), .any, vT, vF, vF] [(0, 7), (1, 8), (2, 9), (3, 10), (4, 11), (5, 6)] [⟨26, some 2, 0, fun B => .slice (some ⟨B, 0, none⟩) 2 2, 8, [.c #[.bool ya0, .slice yp0 yl0 yd0, .bool ye0, .slice yq0 ym0 yr0, .bool ya1, .slice yp1 yl1 yd1, .bool ye1, .slice yq1 ym1 yr1]], []⟩] ?ok2 ?st2 ?al2 ?pu2 ?en2
  case ok2 => exact BxOK.fresh rfl hBt1.size
  case st2 =>
   intro zi zo ho hro a' u lc W hM
   match zi, ho, hro with
   | 0, ho, _ => cases ho; exact wn (kL26 rfl (hM.ol 2) (hM.o0 q1_0))
   | 1, ho, _ => cases ho; exact wn (kL26 rfl (hM.ol 3) (hM.o0 q1_1))
   | 2, _, hro => exact nr1 hro (by kernel_rfl)
   | 3, ho, _ => cases ho; exact wn (kCall1 rfl may65 ((hM.v 2 9 rfl).trans (hM.loc 0 _ 2 rfl rfl (by kernel_rfl))) (c65q (hM.full 0 _ rfl (by kernel_rfl) rfl) HR.out HS.out (f1_0.kept hM.kept) (f1_3.kept hM.kept)))
   | 4, ho, _ => cases ho; exact wn (kNot rfl (hM.d 3 10 rfl) rfl)
   | 5, ho, _ => cases ho; exact wn (kAssign rfl (hM.d 4 11 rfl))
   | zk + 6, ho, _ => simp at ho
  case al2 =>
   intro zk zb zi zo hk ha ho a' u lc W hM
   match zk, hk with
   | 0, hk => cases hk; cases ha; cases ho; exact ⟨rfl, rfl, rfl, rfl, kSlice2 rfl (hM.d 0 7 rfl) (hM.d 1 8 rfl)⟩
   | zk + 1, hk => simp at hk
  case pu2 =>
   intro zk zb zs zo hk hs ho a' u lc W zc hM hc hcs
   match zk, hk with
   | 0, hk => cases hk; simp at hs
   | zk + 1, hk => simp at hk
  case en2 =>
   intro u2 lc2 W2 hK2 hB2 hO2 hV2 hX2 hA2
   have e2_0 := kv (hV2 0 7 rfl) rfl
   obtain ⟨qr, ho, hl⟩ := hX2 0 _ rfl
   have e2_2 : u2 2 = .slice (some ⟨lc2 0, 0, none⟩) 2 2 := (hl 2 rfl).1
   have g2_0 := (hl 2 rfl).2
   have f2_0 := f1_0.kept hK2
   have f2_3 := f1_3.kept hK2
   have ne2_0_1_2 := Nat.ne_of_lt (Nat.lt_of_lt_of_le (Array.getElem?_eq_some_iff.1 q1_2).1 g2_0)
   have q2_1_0 := oth0 hO2 q1_0
   have q2_1_1 := oth0 hO2 q1_1
   have q2_1_2 := oth0 hO2 q1_2
   simp only [putK, fC, fN, kZ, kS, vV, vA, sI, sZ, sS, e2_2]
   have hBt2 := hBt1.trans hB2
   clear hV2 hX2 hA2
   go_upto_region 3 with fail
   refine rg0 (n := 9) (t16 := 48) w.heap.size [.val (.agg #[.bool ya1, .slice yp1 yl1 yd1, .bool ye1, .slice yq1 ym1 yr1]), .val (.agg #[.bool ya1, .slice yp1 yl1 yd1, .bool ye1, .slice yq1 ym1 yr1]), vF, vF] [(0, 14), (1, 15), (2, 16), (3, 13)] hBt2.size ?st3 ?en3
   case st3 =>
    intro zi zo ho hro a' u lc W hM
    match zi, ho, hro with
    | 0, ho, _ => cases ho; exact wn (kL26 rfl (hM.ol 3) (hM.o0 q2_1_1))
    | 1, ho, _ => cases ho; exact wn (kBuild73 rfl (hM.d 0 14 rfl) rfl)
    | 2, ho, _ => cases ho; exact wn (kCall1 rfl may66 (hM.d 1 15 rfl) (c66 HZ.out (f2_3.kept hM.kept)))
    | 3, ho, _ => cases ho; exact wn (kAssign rfl (hM.d 2 16 rfl))
    | zk + 4, ho, _ => simp at ho
   case en3 =>
    intro u3 lc3 W3 hK3 hB3 hO3 hV3 hX3 hA3
    have q3_1_0 := oth0 hO3 q2_1_0
    have f3_0 := f2_0.kept hK3
    have q3_1_1 := oth0 hO3 q2_1_1
    have f3_3 := f2_3.kept hK3
    have q3_1_2 := oth0 hO3 q2_1_2
    simp only [putK, fC, fN, kZ, kS, vV, sI, sZ, sS]
    have hBt3 := hBt2.trans hB3
    clear hV3 hX3 hA3
    go_upto_region 5 with fail
    refine rg (n := 9) (t16 := 48) w.heap.size [(lc1 2)] [.val (.agg #[.bool ya0, .slice yp0 yl0 yd0, .bool ye0, .slice yq0 ym0 yr0]), .val (.agg #[.bool ya0, .slice yp0 yl0 yd0, .bool ye0, .slice yq0 ym0 yr0]), .val (.agg #[.bool ya1, .slice yp1 yl1 yd1, .bool ye1, .slice yq1 ym1 yr1]), .val (.agg #[.bool ya1, .slice yp1 yl1 yd1, .bool ye1, .slice yq1 ym1 yr1]), .k (frq s⁻¹), .k (frq (r * s⁻¹)), .k (tup2 (.k (frq (r * s⁻¹))) (vZ)), .k (frq (r * s⁻¹)), vZ, .any, vZ] [(0, 18), (1, 19), (2, 20), (3, 21), (4, 22), (5, 23), (6, 24), (7, 25), (8, 26), (10, 5)] [⟨26, none, (lc1 2), pt, 4, [.c #[.bool false, .slice none 0 0, .bool false, .slice none 0 0]], [(9, 0, 7)]⟩] ?ok4 ?st4 ?al4 ?pu4 ?en4
    case ok4 => exact BxOK.one ⟨(Nat.le_trans hB0.size g1_2), ⟨_, q3_1_2, rfl, rfl, rfl⟩, by simp, (by decide : (26 : Nat) ≠ 48)⟩ rfl hBt3.size
    case st4 =>
     intro zi zo ho hro a' u lc W hM
     match zi, ho, hro with
     | 0, ho, _ => cases ho; exact wn (kL26 rfl (hM.ol 2) (hM.o1 q3_1_0 (by omega)))
     | 1, ho, _ => cases ho; exact wn (kBuild73 rfl (hM.d 0 18 rfl) rfl)
     | 2, ho, _ => cases ho; exact wn (kL26 rfl (hM.ol 3) (hM.o1 q3_1_1 (by omega)))
     | 3, ho, _ => cases ho; exact wn (kBuild73 rfl (hM.d 2 20 rfl) rfl)
     | 4, ho, _ => cases ho; exact wn (kCall1 rfl may85 (hM.d 3 21 rfl) (c85q H0S.out (f3_3.kept hM.kept)))
     | 5, ho, _ => cases ho; exact wn (kCall2 rfl may90 (hM.d 1 19 rfl) (hM.v 4 22 rfl) (c90q HR.out (HS.out.inv H0S.out) (f3_0.kept hM.kept) (hM.kd 4)))
     | 6, ho, _ => cases ho; exact wn (kCall1 rfl may75 (hM.v 5 23 rfl) (c75q HT.out (hM.kd 5)))
     | 7, ho, _ => cases ho; exact wn (kEx20 rfl (hM.d 6 24 rfl))
     | 8, ho, _ => cases ho; exact wn (kEx21 rfl (hM.d 6 24 rfl))
     | 9, _, hro => exact nr1 hro (by kernel_rfl)
     | 10, ho, _ => cases ho; exact wn (kAssign rfl (hM.d 8 26 rfl))
     | zk + 11, ho, _ => simp at ho
    case al4 =>
     intro zk zb zi zo hk ha ho a' u lc W hM
     match zk, hk with
     | 0, hk => cases hk; cases ha
     | zk + 1, hk => simp at hk
    case pu4 =>
     intro zk zb zs zo hk hs ho a' u lc W zc hM hc hcs
     match zk, hk with
     | 0, hk =>
      cases hk
      simp only [List.mem_cons, List.not_mem_nil, or_false] at hs
      rcases hs with rfl
      · cases ho
        obtain ⟨sb, sp, sl, sc, sb2, sp2, sl2, sc2, e, _⟩ := (show Is (frq (r * s⁻¹)) (u 7) W from (hM.kd 7))
        exact kPut rfl e ((hM.ol 4).trans (show _ = Value.pointer (some ⟨lc 0, 0, none⟩) from by rw [show lc 0 = (lc1 2) from hM.locO 0 _ rfl rfl]; rfl)) (hM.v 7 25 rfl) hc hcs sz26
     | zk + 1, hk => simp at hk
    case en4 =>
     intro u4 lc4 W4 hK4 hB4 hO4 hV4 hX4 hA4
     have k4_7 := kk (hV4 7 25 rfl) rfl
     obtain ⟨qr, ho, hl⟩ := hX4 0 _ rfl
     have elc : lc4 0 = (lc1 2) := ho rfl
     rw [elc] at qr
     obtain ⟨x4_9, y4_9, z4_9, c4_9, x24_9, y24_9, z24_9, c24_9, es4_9, sa4_9, sb4_9⟩ := id k4_7
     have sk4_9 : Is (frq (r * s⁻¹)) (.agg #[.bool x4_9, .slice y4_9 z4_9 c4_9, .bool x24_9, .slice y24_9 z24_9 c24_9]) W4 := by rw [← es4_9]; exact k4_7
     have q4_0 : W4.heap[(lc1 2)]? = some (.cells #[.bool x4_9, .slice y4_9 z4_9 c4_9, .bool x24_9, .slice y24_9 z24_9 c24_9] 26) := by
      rw [contAll_one rfl (cs := #[.bool x4_9, .slice y4_9 z4_9 c4_9, .bool x24_9, .slice y24_9 z24_9 c24_9]) (by rw [es4_9]; rfl) rfl] at qr; exact qr
     simp only [putK, fC, fN, kZ, kS, vV, vK, sI, sZ, sS]
     have hBt4 := hBt3.trans hB4
     clear hV4 hX4 hA4
     have cr0 := cell_of q4_0 0 rfl
     have cr1 := cell_of q4_0 1 rfl
     have cr2 := cell_of q4_0 2 rfl
     have cr3 := cell_of q4_0 3 rfl
     go_wp2
     exact bodyPost_ret (v := .tuple #[.agg #[.bool x4_9, .slice y4_9 z4_9 c4_9, .bool x24_9, .slice y24_9 z24_9 c24_9], .int .i64 0]) (by simp [results, Tryz.results40, go_sem, cr0, cr1, cr2, cr3]) rfl ⟨_, rfl, ⟨_, _, rfl, sk4_9, rfl⟩, hBt4⟩
theorem c35 {r s : Rat} {x y : Int} {v0 v1 : Value} {w : World} (hr : Fs r) (hs : Fs s) (hx : r.num * (s.den : Int) = x) (hy : s.num * (r.den : Int) = y) (cx : x.natAbs < Cap) (cy : y.natAbs < Cap) (h0 : Is (frq r) v0 w) (h1 : Is (frq s) v1 w) : Calls Tryz.prog 35 #[v0, v1] w (Ret (.val (.int .i64 (cmpI x y))) w) := by
 obtain ⟨ya0, yp0, yl0, yd0, ye0, yq0, ym0, yr0, rfl, yg0, yk0⟩ := id h0
 replace yg0 : Is (num r.num) (.agg #[.bool ya0, .slice yp0 yl0 yd0]) w := yg0
 replace yk0 : Is (num ((r.den : Nat) : Int)) (.agg #[.bool ye0, .slice yq0 ym0 yr0]) w := yk0
 obtain ⟨ya1, yp1, yl1, yd1, ye1, yq1, ym1, yr1, rfl, yg1, yk1⟩ := id h1
 replace yg1 : Is (num s.num) (.agg #[.bool ya1, .slice yp1 yl1 yd1]) w := yg1
 replace yk1 : Is (num ((s.den : Nat) : Int)) (.agg #[.bool ye1, .slice yq1 ym1 yr1]) w := yk1
 have hB0 := Below.refl w.heap.size w
 have HR := Lib.hid hr
 have HS := Lib.hid hs
 have HX := Lib.hid hx
 have HY := Lib.hid hy
 have CX := Lib.hid cx
 have CY := Lib.hid cy
 clear hr hs hx hy cx cy
 go_enter Tryz.func35, Tryz.ntmps35
 go_upto_region 0 with fail
 refine rg (n := 9) (t16 := 48) w.heap.size [] [.any, .any, vZ] [(0, 2), (1, 3), (2, 4)] [⟨26, some 0, 0, pt, 4, [.c #[.bool ya0, .slice yp0 yl0 yd0, .bool ye0, .slice yq0 ym0 yr0]], []⟩, ⟨26, some 1, 0, pt, 4, [.c #[.bool ya1, .slice yp1 yl1 yd1, .bool ye1, .slice yq1 ym1 yr1]], []⟩] ?ok1 ?st1 ?al1 ?pu1 ?en1
 case ok1 => exact BxOK.fresh rfl hB0.size
 case st1 =>
  intro zi zo ho hro a' u lc W hM
  match zi, ho, hro with
  | 0, _, hro => exact nr1 hro (by kernel_rfl)
  | 1, _, hro => exact nr1 hro (by kernel_rfl)
  | 2, ho, _ => cases ho; exact wn (kAssign rfl rfl)
  | zk + 3, ho, _ => simp at ho
 case al1 =>
  intro zk zb zi zo hk ha ho a' u lc W hM
  match zk, hk with
  | 0, hk => cases hk; cases ha; cases ho; exact ⟨rfl, rfl, rfl, rfl, kBox rfl (hM.ol 0)⟩
  | 1, hk => cases hk; cases ha; cases ho; exact ⟨rfl, rfl, rfl, rfl, kBox rfl (hM.ol 1)⟩
  | zk + 2, hk => simp at hk
 case pu1 =>
  intro zk zb zs zo hk hs ho a' u lc W zc hM hc hcs
  match zk, hk with
  | 0, hk => cases hk; simp at hs
  | 1, hk => cases hk; simp at hs
  | zk + 2, hk => simp at hk
 case en1 =>
  intro u1 lc1 W1 hK1 hB1 hO1 hV1 hX1 hA1
  obtain ⟨qr, ho, hl⟩ := hX1 0 _ rfl
  have e1_0 : u1 0 = .pointer (some ⟨lc1 0, 0, none⟩) := (hl 0 rfl).1
  have g1_0 := (hl 0 rfl).2
  have f1_0 := h0.kept hK1
  have f1_1 := yg0.kept hK1
  have f1_2 := yk0.kept hK1
  have q1_0 : W1.heap[(lc1 0)]? = some (.cells #[.bool ya0, .slice yp0 yl0 yd0, .bool ye0, .slice yq0 ym0 yr0] 26) := by
   exact qr
  obtain ⟨qr, ho, hl⟩ := hX1 1 _ rfl
  have e1_1 : u1 1 = .pointer (some ⟨lc1 1, 0, none⟩) := (hl 1 rfl).1
  have g1_1 := (hl 1 rfl).2
  have f1_3 := h1.kept hK1
  have f1_4 := yg1.kept hK1
  have f1_5 := yk1.kept hK1
  have q1_1 : W1.heap[(lc1 1)]? = some (.cells #[.bool ya1, .slice yp1 yl1 yd1, .bool ye1, .slice yq1 ym1 yr1] 26) := by
   exact qr
  simp only [putK, fC, fN, kZ, kS, vV, vA, sI, sZ, sS, e1_0, e1_1]
  have hBt1 := hB0.trans hB1
  clear hV1 hX1 hA1
  go_upto_region 1 with fail
  refine rg (n := 9) (t16 := 48) w.heap.size [] [.val (.agg #[.bool ya0, .slice yp0 yl0 yd0, .bool ye0, .slice yq0 ym0 yr0]), .val (.agg #[.bool ya1, .slice yp1 yl1 yd1, .bool ye1, .slice yq1 ym1 yr1]), .any, vT, vF] [(0, 5), (1, 6), (2, 7), (3, 8), (4, 9)] [⟨26, some 2, 0, fun B => .slice (some ⟨B, 0, none⟩) 2 2, 8, [.c #[.bool ya0, .slice yp0 yl0 yd0, .bool ye0, .slice yq0 ym0 yr0, .bool ya1, .slice yp1 yl1 yd1, .bool ye1, .slice yq1 ym1 yr1]], []⟩] ?ok2 ?st2 ?al2 ?pu2 ?en2
  case ok2 => exact BxOK.fresh rfl hBt1.size
  case st2 =>
   intro zi zo ho hro a' u lc W hM
   match zi, ho, hro with
   | 0, ho, _ => cases ho; exact wn (kL26 rfl (hM.ol 2) (hM.o0 q1_0))
   | 1, ho, _ => cases ho; exact wn (kL26 rfl (hM.ol 3) (hM.o0 q1_1))
   | 2, _, hro => exact nr1 hro (by kernel_rfl)
   | 3, ho, _ => cases ho; exact wn (kCall1 rfl may65 ((hM.v 2 7 rfl).trans (hM.loc 0 _ 2 rfl rfl (by kernel_rfl))) (c65q (hM.full 0 _ rfl (by kernel_rfl) rfl) HR.out HS.out (f1_0.kept hM.kept) (f1_3.kept hM.kept)))
   | 4, ho, _ => cases ho; exact wn (kNot rfl (hM.d 3 8 rfl) rfl)
   | zk + 5, ho, _ => simp at ho
  case al2 =>
   intro zk zb zi zo hk ha ho a' u lc W hM
   match zk, hk with
   | 0, hk => cases hk; cases ha; cases ho; exact ⟨rfl, rfl, rfl, rfl, kSlice2 rfl (hM.d 0 5 rfl) (hM.d 1 6 rfl)⟩
   | zk + 1, hk => simp at hk
  case pu2 =>
   intro zk zb zs zo hk hs ho a' u lc W zc hM hc hcs
   match zk, hk with
   | 0, hk => cases hk; simp at hs
   | zk + 1, hk => simp at hk
  case en2 =>
   intro u2 lc2 W2 hK2 hB2 hO2 hV2 hX2 hA2
   obtain ⟨qr, ho, hl⟩ := hX2 0 _ rfl
   have e2_2 : u2 2 = .slice (some ⟨lc2 0, 0, none⟩) 2 2 := (hl 2 rfl).1
   have g2_0 := (hl 2 rfl).2
   have f2_1 := f1_1.kept hK2
   have f2_2 := f1_2.kept hK2
   have f2_4 := f1_4.kept hK2
   have f2_5 := f1_5.kept hK2
   have q2_1_0 := oth0 hO2 q1_0
   have q2_1_1 := oth0 hO2 q1_1
   simp only [putK, fC, fN, kZ, kS, vV, vA, sI, sZ, sS, e2_2]
   have hBt2 := hBt1.trans hB2
   clear hV2 hX2 hA2
   go_upto_region 3 with fail
   refine rg0 (n := 9) (t16 := 48) w.heap.size [.val (.pointer (some ⟨(lc1 0), 0, none⟩)), .val (.agg #[.bool ya0, .slice yp0 yl0 yd0]), .val (.pointer (some ⟨(lc1 1), 2, none⟩)), .val (.agg #[.bool ye1, .slice yq1 ym1 yr1]), .k (num x), .val (.pointer (some ⟨(lc1 1), 0, none⟩)), .val (.agg #[.bool ya1, .slice yp1 yl1 yd1]), .val (.pointer (some ⟨(lc1 0), 2, none⟩)), .val (.agg #[.bool ye0, .slice yq0 ym0 yr0]), .k (num y), .val (.int .i64 (cmpI x y)), .val (.int .i64 (cmpI x y))] [(0, 10), (1, 11), (2, 12), (3, 13), (4, 14), (5, 15), (6, 16), (7, 17), (8, 18), (9, 19), (10, 20), (11, 4)] hBt2.size ?st3 ?en3
   case st3 =>
    intro zi zo ho hro a' u lc W hM
    match zi, ho, hro with
    | 0, ho, _ => cases ho; exact wn (kField26_0 rfl (hM.ol 2))
    | 1, ho, _ => cases ho; exact wn (kL24 rfl (hM.d 0 10 rfl) (hM.o0 q2_1_0) rfl)
    | 2, ho, _ => cases ho; exact wn (kField26_1 rfl (hM.ol 3))
    | 3, ho, _ => cases ho; exact wn (kL24 rfl (hM.d 2 12 rfl) (hM.o0 q2_1_1) rfl)
    | 4, ho, _ => cases ho; exact wn (kCall2 rfl may67 (hM.d 1 11 rfl) (hM.d 3 13 rfl) (c67 HX.out CX.out (f2_1.kept hM.kept) (f2_5.kept hM.kept)))
    | 5, ho, _ => cases ho; exact wn (kField26_0 rfl (hM.ol 3))
    | 6, ho, _ => cases ho; exact wn (kL24 rfl (hM.d 5 15 rfl) (hM.o0 q2_1_1) rfl)
    | 7, ho, _ => cases ho; exact wn (kField26_1 rfl (hM.ol 2))
    | 8, ho, _ => cases ho; exact wn (kL24 rfl (hM.d 7 17 rfl) (hM.o0 q2_1_0) rfl)
    | 9, ho, _ => cases ho; exact wn (kCall2 rfl may67 (hM.d 6 16 rfl) (hM.d 8 18 rfl) (c67 HY.out CY.out (f2_4.kept hM.kept) (f2_2.kept hM.kept)))
    | 10, ho, _ => cases ho; exact wn (kCall2 rfl may69 (hM.v 4 14 rfl) (hM.v 9 19 rfl) (c69 (hM.kd 4) (hM.kd 9)))
    | 11, ho, _ => cases ho; exact wn (kAssign rfl (hM.d 10 20 rfl))
    | zk + 12, ho, _ => simp at ho
   case en3 =>
    intro u3 lc3 W3 hK3 hB3 hO3 hV3 hX3 hA3
    simp only [putK, fC, fN, kZ, kS, vV, vK, sI, sZ, sS]
    have hBt3 := hBt2.trans hB3
    clear hV3 hX3 hA3
    go_wp2
    exact bodyPost_ret (v := .int .i64 (cmpI x y)) (by simp [results, Tryz.results35, go_sem]) rfl ⟨_, rfl, rfl, hBt3⟩
end Go.Proofs.YtihdbjilolmfiaaGreatDoor
