import Derived.Test.YtihdbjilolmfiaaGreatDoorD22
import Derived.Test.YtihdbjilolmfiaaGreatDoorD01
set_option maxRecDepth 100000
set_option maxHeartbeats 4000000
namespace Go.Proofs.YtihdbjilolmfiaaGreatDoor
open Go.RowKit Go.WM Go.WR
attribute [local go_sem] Oper.semAt_some
theorem c65q {g : Nat} {a0 a1 a2 a3 b0 b1 b2 b3 : Value} {r s : Rat} {w : World} (hq : w.heap[g]? = some (.cells #[a0, a1, a2, a3, b0, b1, b2, b3] 26)) (hr : Fs r) (hs : Fs s) (h0 : Is (frq r) (.agg #[a0, a1, a2, a3]) w) (h1 : Is (frq s) (.agg #[b0, b1, b2, b3]) w) :
 Calls Tryz.prog 65 #[.slice (some ⟨g, 0, none⟩) 2 2] w (Ret (.val (.bool true)) w) := by
 have n0 : noLimb #[a0, a1, a2, a3] = true := by obtain ⟨_, _, _, _, _, _, _, _, e, _⟩ := id h0; cases e; rfl
 have n1 : noLimb #[b0, b1, b2, b3] = true := by obtain ⟨_, _, _, _, _, _, _, _, e, _⟩ := id h1; cases e; rfl
 exact c65 (oa := true) (ob := true) hq rfl (fun W hW => c125 (fun W3 hW3 => c44_ok hr (h0.kept (kept_below (hW.trans (hW3.mono hW.size)) 48))) n0)
  (fun W hW => c125 (fun W3 hW3 => c44_ok hs (h1.kept (kept_below (hW.trans (hW3.mono hW.size)) 48))) n1)
theorem c69 {x y : Int} {v0 v1 : Value} {w : World} (h0 : Is (num x) v0 w) (h1 : Is (num y) v1 w) : Calls Tryz.prog 69 #[v0, v1] w (Ret (.val (.int .i64 (cmpI x y))) w) := by
 refine (Cmp_ok v0 v1 x y w h0 h1).mono ?_
 rintro e w' ⟨rfl, hb⟩
 exact ⟨_, rfl, rfl, hb⟩
theorem c27 {r s : Rat} {v0 v1 : Value} {w : World} (hr : Fs r) (hs : Fs s) (ht : Fs (r + s)) (h0 : Is (frq r) v0 w) (h1 : Is (frq s) v1 w) : Calls Tryz.prog 27 #[v0, v1] w (Ret (.k (tup2 (.k (frq (r + s))) (.val (.int .i64 0)))) w) := by
 obtain ⟨ya0, yp0, yl0, yd0, ye0, yq0, ym0, yr0, rfl, yg0, yk0⟩ := id h0
 replace yg0 : Is (num r.num) (.agg #[.bool ya0, .slice yp0 yl0 yd0]) w := yg0
 replace yk0 : Is (num ((r.den : Nat) : Int)) (.agg #[.bool ye0, .slice yq0 ym0 yr0]) w := yk0
 obtain ⟨ya1, yp1, yl1, yd1, ye1, yq1, ym1, yr1, rfl, yg1, yk1⟩ := id h1
 replace yg1 : Is (num s.num) (.agg #[.bool ya1, .slice yp1 yl1 yd1]) w := yg1
 replace yk1 : Is (num ((s.den : Nat) : Int)) (.agg #[.bool ye1, .slice yq1 ym1 yr1]) w := yk1
 have hB0 := Below.refl w.heap.size w
 have HR := Lib.hid hr
 have HS := Lib.hid hs
 have HT := Lib.hid ht
 clear hr hs ht
 go_enter Tryz.func27, Tryz.ntmps27
 go_upto_region 0 with fail
 refine rg (n := 9) (t16 := 48) w.heap.size [] [.any, .any, .any, vZ] [(0, 2), (1, 3), (2, 4), (3, 5)] [⟨26, some 0, 0, pt, 4, [.c #[.bool ya0, .slice yp0 yl0 yd0, .bool ye0, .slice yq0 ym0 yr0]], []⟩, ⟨26, some 1, 0, pt, 4, [.c #[.bool ya1, .slice yp1 yl1 yd1, .bool ye1, .slice yq1 ym1 yr1]], []⟩, ⟨26, some 2, 0, pt, 4, [.c #[.bool false, .slice none 0 0, .bool false, .slice none 0 0]], []⟩] ?ok1 ?st1 ?al1 ?pu1 ?en1
 case ok1 => exact BxOK.fresh rfl hB0.size
 case st1 =>
  intro zi zo ho hro a' u lc W hM
  match zi, ho, hro with
  | 0, _, hro => exact nr1 hro (by kernel_rfl)
  | 1, _, hro => exact nr1 hro (by kernel_rfl)
  | 2, _, hro => exact nr1 hro (by kernel_rfl)
  | 3, ho, _ => cases ho; exact wn (kAssign rfl rfl)
  | zk + 4, ho, _ => simp at ho
 case al1 =>
  intro zk zb zi zo hk ha ho a' u lc W hM
  match zk, hk with
  | 0, hk => cases hk; cases ha; cases ho; exact ⟨rfl, rfl, rfl, rfl, kBox rfl (hM.ol 0)⟩
  | 1, hk => cases hk; cases ha; cases ho; exact ⟨rfl, rfl, rfl, rfl, kBox rfl (hM.ol 1)⟩
  | 2, hk => cases hk; cases ha; cases ho; exact ⟨rfl, rfl, rfl, rfl, kAlloc26 rfl⟩
  | zk + 3, hk => simp at hk
 case pu1 =>
  intro zk zb zs zo hk hs ho a' u lc W zc hM hc hcs
  match zk, hk with
  | 0, hk => cases hk; simp at hs
  | 1, hk => cases hk; simp at hs
  | 2, hk => cases hk; simp at hs
  | zk + 3, hk => simp at hk
 case en1 =>
  intro u1 lc1 W1 hK1 hB1 hO1 hV1 hX1 hA1
  obtain ⟨qr, ho, hl⟩ := hX1 0 _ rfl
  have e1_0 : u1 0 = .pointer (some ⟨lc1 0, 0, none⟩) := (hl 0 rfl).1
  have g1_0 := (hl 0 rfl).2
  have f1_0 := h0.kept hK1
  have q1_0 : W1.heap[(lc1 0)]? = some (.cells #[.bool ya0, .slice yp0 yl0 yd0, .bool ye0, .slice yq0 ym0 yr0] 26) := by
   exact qr
  obtain ⟨qr, ho, hl⟩ := hX1 1 _ rfl
  have e1_1 : u1 1 = .pointer (some ⟨lc1 1, 0, none⟩) := (hl 1 rfl).1
  have g1_1 := (hl 1 rfl).2
  have f1_3 := h1.kept hK1
  have q1_1 : W1.heap[(lc1 1)]? = some (.cells #[.bool ya1, .slice yp1 yl1 yd1, .bool ye1, .slice yq1 ym1 yr1] 26) := by
   exact qr
  obtain ⟨qr, ho, hl⟩ := hX1 2 _ rfl
  have e1_2 : u1 2 = .pointer (some ⟨lc1 2, 0, none⟩) := (hl 2 rfl).1
  have g1_2 := (hl 2 rfl).2
  have q1_2 : W1.heap[(lc1 2)]? = some (.cells #[.bool false, .slice none 0 0, .bool false, .slice none 0 0] 26) := by
   exact qr
  have ne1_0_2 := hA1 0 2 _ _ rfl rfl (by decide)
  have ne1_1_2 := hA1 1 2 _ _ rfl rfl (by decide)
  simp only [putK, fC, fN, kZ, kS, vV, vA, sI, sZ, sS, e1_0, e1_1, e1_2]
  have hBt1 := hB0.trans hB1
  clear hV1 hX1 hA1
  go_upto_region 1 with fail
  refine rg (n := 9) (t16 := 48) w.heap.size [] [.val (.agg #[.bool ya0, .slice yp0 yl0 yd0, .bool ye0, .slice yq0 ym0 yr0]), .val (.agg #[.bool ya1, .slice yp1 yl1 yd1, .bool ye1, .slice yq1 ym1 yr1]), .any, vT, vF] [(0, 6), (1, 7), (2, 8), (3, 9), (4, 10)] [⟨26, some 2, 0, fun B => .slice (some ⟨B, 0, none⟩) 2 2, 8, [.c #[.bool ya0, .slice yp0 yl0 yd0, .bool ye0, .slice yq0 ym0 yr0, .bool ya1, .slice yp1 yl1 yd1, .bool ye1, .slice yq1 ym1 yr1]], []⟩] ?ok2 ?st2 ?al2 ?pu2 ?en2
  case ok2 => exact BxOK.fresh rfl hBt1.size
  case st2 =>
   intro zi zo ho hro a' u lc W hM
   match zi, ho, hro with
   | 0, ho, _ => cases ho; exact wn (kL26 rfl (hM.ol 2) (hM.o0 q1_0))
   | 1, ho, _ => cases ho; exact wn (kL26 rfl (hM.ol 3) (hM.o0 q1_1))
   | 2, _, hro => exact nr1 hro (by kernel_rfl)
   | 3, ho, _ => cases ho; exact wn (kCall1 rfl may65 ((hM.v 2 8 rfl).trans (hM.loc 0 _ 2 rfl rfl (by kernel_rfl))) (c65q (hM.full 0 _ rfl (by kernel_rfl) rfl) HR.out HS.out (f1_0.kept hM.kept) (f1_3.kept hM.kept)))
   | 4, ho, _ => cases ho; exact wn (kNot rfl (hM.d 3 9 rfl) rfl)
   | zk + 5, ho, _ => simp at ho
  case al2 =>
   intro zk zb zi zo hk ha ho a' u lc W hM
   match zk, hk with
   | 0, hk => cases hk; cases ha; cases ho; exact ⟨rfl, rfl, rfl, rfl, kSlice2 rfl (hM.d 0 6 rfl) (hM.d 1 7 rfl)⟩
   | zk + 1, hk => simp at hk
  case pu2 =>
   intro zk zb zs zo hk hs ho a' u lc W zc hM hc hcs
   match zk, hk with
   | 0, hk => cases hk; simp at hs
   | zk + 1, hk => simp at hk
  case en2 =>
   intro u2 lc2 W2 hK2 hB2 hO2 hV2 hX2 hA2
   have e2_0 := kv (hV2 0 6 rfl) rfl
   obtain ⟨qr, ho, hl⟩ := hX2 0 _ rfl
   have e2_2 : u2 2 = .slice (some ⟨lc2 0, 0, none⟩) 2 2 := (hl 2 rfl).1
   have g2_0 := (hl 2 rfl).2
   have f2_0 := f1_0.kept hK2
   have f2_3 := f1_3.kept hK2
   have ne2_0_1_2 := Nat.ne_of_lt (Nat.lt_of_lt_of_le (Array.getElem?_eq_some_iff.1 q1_2).1 g2_0)
   have q2_1_0 := oth0 hO2 q1_0
   have q2_1_1 := oth0 hO2 q1_1
   have q2_1_2 := oth0 hO2 q1_2
   simp only [putK, fC, fN, kZ, kS, vV, vA, sI, sZ, sS, e2_2]
   have hBt2 := hBt1.trans hB2
   clear hV2 hX2 hA2
   go_upto_region 3 with fail
   refine rg (n := 9) (t16 := 48) w.heap.size [(lc1 2)] [.val (.agg #[.bool ya0, .slice yp0 yl0 yd0, .bool ye0, .slice yq0 ym0 yr0]), .val (.agg #[.bool ya0, .slice yp0 yl0 yd0, .bool ye0, .slice yq0 ym0 yr0]), .val (.agg #[.bool ya1, .slice yp1 yl1 yd1, .bool ye1, .slice yq1 ym1 yr1]), .val (.agg #[.bool ya1, .slice yp1 yl1 yd1, .bool ye1, .slice yq1 ym1 yr1]), .k (frq (r + s)), .k (tup2 (.k (frq (r + s))) (vZ)), .k (frq (r + s)), vZ, .any, vZ] [(0, 12), (1, 13), (2, 14), (3, 15), (4, 16), (5, 17), (6, 18), (7, 19), (9, 5)] [⟨26, none, (lc1 2), pt, 4, [.c #[.bool false, .slice none 0 0, .bool false, .slice none 0 0]], [(8, 0, 6)]⟩] ?ok3 ?st3 ?al3 ?pu3 ?en3
   case ok3 => exact BxOK.one ⟨(Nat.le_trans hB0.size g1_2), ⟨_, q2_1_2, rfl, rfl, rfl⟩, by simp, (by decide : (26 : Nat) ≠ 48)⟩ rfl hBt2.size
   case st3 =>
    intro zi zo ho hro a' u lc W hM
    match zi, ho, hro with
    | 0, ho, _ => cases ho; exact wn (kL26 rfl (hM.ol 2) (hM.o1 q2_1_0 (by omega)))
    | 1, ho, _ => cases ho; exact wn (kBuild73 rfl (hM.d 0 12 rfl) rfl)
    | 2, ho, _ => cases ho; exact wn (kL26 rfl (hM.ol 3) (hM.o1 q2_1_1 (by omega)))
    | 3, ho, _ => cases ho; exact wn (kBuild73 rfl (hM.d 2 14 rfl) rfl)
    | 4, ho, _ => cases ho; exact wn (kCall2 rfl may89 (hM.d 1 13 rfl) (hM.d 3 15 rfl) (c89q HR.out HS.out (f2_0.kept hM.kept) (f2_3.kept hM.kept)))
    | 5, ho, _ => cases ho; exact wn (kCall1 rfl may75 (hM.v 4 16 rfl) (c75q HT.out (hM.kd 4)))
    | 6, ho, _ => cases ho; exact wn (kEx20 rfl (hM.d 5 17 rfl))
    | 7, ho, _ => cases ho; exact wn (kEx21 rfl (hM.d 5 17 rfl))
    | 8, _, hro => exact nr1 hro (by kernel_rfl)
    | 9, ho, _ => cases ho; exact wn (kAssign rfl (hM.d 7 19 rfl))
    | zk + 10, ho, _ => simp at ho
   case al3 =>
    intro zk zb zi zo hk ha ho a' u lc W hM
    match zk, hk with
    | 0, hk => cases hk; cases ha
    | zk + 1, hk => simp at hk
   case pu3 =>
    intro zk zb zs zo hk hs ho a' u lc W zc hM hc hcs
    match zk, hk with
    | 0, hk =>
     cases hk
     simp only [List.mem_cons, List.not_mem_nil, or_false] at hs
     rcases hs with rfl
     · cases ho
       obtain ⟨sb, sp, sl, sc, sb2, sp2, sl2, sc2, e, _⟩ := (show Is (frq (r + s)) (u 6) W from (hM.kd 6))
       exact kPut rfl e ((hM.ol 4).trans (show _ = Value.pointer (some ⟨lc 0, 0, none⟩) from by rw [show lc 0 = (lc1 2) from hM.locO 0 _ rfl rfl]; rfl)) (hM.v 6 18 rfl) hc hcs sz26
    | zk + 1, hk => simp at hk
   case en3 =>
    intro u3 lc3 W3 hK3 hB3 hO3 hV3 hX3 hA3
    have k3_6 := kk (hV3 6 18 rfl) rfl
    obtain ⟨qr, ho, hl⟩ := hX3 0 _ rfl
    have elc : lc3 0 = (lc1 2) := ho rfl
    rw [elc] at qr
    obtain ⟨x3_8, y3_8, z3_8, c3_8, x23_8, y23_8, z23_8, c23_8, es3_8, sa3_8, sb3_8⟩ := id k3_6
    have sk3_8 : Is (frq (r + s)) (.agg #[.bool x3_8, .slice y3_8 z3_8 c3_8, .bool x23_8, .slice y23_8 z23_8 c23_8]) W3 := by rw [← es3_8]; exact k3_6
    have q3_0 : W3.heap[(lc1 2)]? = some (.cells #[.bool x3_8, .slice y3_8 z3_8 c3_8, .bool x23_8, .slice y23_8 z23_8 c23_8] 26) := by
     rw [contAll_one rfl (cs := #[.bool x3_8, .slice y3_8 z3_8 c3_8, .bool x23_8, .slice y23_8 z23_8 c23_8]) (by rw [es3_8]; rfl) rfl] at qr; exact qr
    simp only [putK, fC, fN, kZ, kS, vV, vK, sI, sZ, sS]
    have hBt3 := hBt2.trans hB3
    clear hV3 hX3 hA3
    have cr0 := cell_of q3_0 0 rfl
    have cr1 := cell_of q3_0 1 rfl
    have cr2 := cell_of q3_0 2 rfl
    have cr3 := cell_of q3_0 3 rfl
    go_wp2
    exact bodyPost_ret (v := .tuple #[.agg #[.bool x3_8, .slice y3_8 z3_8 c3_8, .bool x23_8, .slice y23_8 z23_8 c23_8], .int .i64 0]) (by simp [results, Tryz.results27, go_sem, cr0, cr1, cr2, cr3]) rfl ⟨_, rfl, ⟨_, _, rfl, sk3_8, rfl⟩, hBt3⟩
theorem c33 {k : Int} {w : World} (hk0 : -9223372036854775808 ≤ k) (hk1 : k < 9223372036854775808) : Calls Tryz.prog 33 #[.int .i64 k] w (Ret (.k (fr k 1)) w) := by
 have HK0 := Lib.hid hk0
 have HK1 := Lib.hid hk1
 clear hk0 hk1
 have hB0 := Below.refl w.heap.size w
 go_enter Tryz.func33, Tryz.ntmps33
 go_upto_region 0 with fail
 refine rg (n := 9) (t16 := 48) w.heap.size [] [.any] [(0, 2)] [⟨26, some 0, 0, pt, 4, [.c #[.bool false, .slice none 0 0, .bool false, .slice none 0 0]], []⟩] ?ok1 ?st1 ?al1 ?pu1 ?en1
 case ok1 => exact BxOK.fresh rfl hB0.size
 case st1 =>
  intro zi zo ho hro a' u lc W hM
  match zi, ho, hro with
  | 0, _, hro => exact nr1 hro (by kernel_rfl)
  | zk + 1, ho, _ => simp at ho
 case al1 =>
  intro zk zb zi zo hk ha ho a' u lc W hM
  match zk, hk with
  | 0, hk => cases hk; cases ha; cases ho; exact ⟨rfl, rfl, rfl, rfl, kAlloc26 rfl⟩
  | zk + 1, hk => simp at hk
 case pu1 =>
  intro zk zb zs zo hk hs ho a' u lc W zc hM hc hcs
  match zk, hk with
  | 0, hk => cases hk; simp at hs
  | zk + 1, hk => simp at hk
 case en1 =>
  intro u1 lc1 W1 hK1 hB1 hO1 hV1 hX1 hA1
  obtain ⟨qr, ho, hl⟩ := hX1 0 _ rfl
  have e1_0 : u1 0 = .pointer (some ⟨lc1 0, 0, none⟩) := (hl 0 rfl).1
  have g1_0 := (hl 0 rfl).2
  have q1_0 : W1.heap[(lc1 0)]? = some (.cells #[.bool false, .slice none 0 0, .bool false, .slice none 0 0] 26) := by
   exact qr
  simp only [putK, fC, fN, kZ, vA, sI, sZ, sS, e1_0]
  have hBt1 := hB0.trans hB1
  clear hV1 hX1 hA1
  go_upto_region 1 with fail
  refine rg (n := 9) (t16 := 48) w.heap.size [(lc1 0)] [.val (.int .i64 k), .k (num k), .k (num 1), .k (fr k 1), .any] [(0, 3), (1, 4), (2, 5), (3, 6)] [⟨26, none, (lc1 0), pt, 4, [.c #[.bool false, .slice none 0 0, .bool false, .slice none 0 0]], [(4, 0, 3)]⟩] ?ok2 ?st2 ?al2 ?pu2 ?en2
  case ok2 => exact BxOK.one ⟨(Nat.le_trans hB0.size g1_0), ⟨_, q1_0, rfl, rfl, rfl⟩, by simp, (by decide : (26 : Nat) ≠ 48)⟩ rfl hBt1.size
  case st2 =>
   intro zi zo ho hro a' u lc W hM
   match zi, ho, hro with
   | 0, ho, _ => cases ho; exact wn (kMove rfl (hM.ol 0))
   | 1, ho, _ => cases ho; exact wn (kCall1 rfl may72 (hM.d 0 3 rfl) (c72 HK0.out HK1.out))
   | 2, ho, _ => cases ho; exact wn (kCall1 rfl may72 rfl (c72 (by decide) (by decide)))
   | 3, ho, _ =>
    cases ho
    refine .inl ⟨wanted_none rfl, ?_⟩
    obtain ⟨sbx, spx, slx, scx, ex⟩ := (show Is (num k) _ W from (hM.kd 1)).form
    obtain ⟨sby, spy, sly, scy, ey⟩ := (show Is (num 1) _ W from (hM.kd 2)).form
    exact kBuild26 rfl ((hM.v 1 4 rfl).trans ex) ((hM.v 2 5 rfl).trans ey) ⟨_, _, _, _, _, _, _, _, rfl, (by rw [← ex]; exact (hM.kd 1)), (by rw [← ey]; exact (hM.kd 2))⟩
   | 4, _, hro => exact nr1 hro (by kernel_rfl)
   | zk + 5, ho, _ => simp at ho
  case al2 =>
   intro zk zb zi zo hk ha ho a' u lc W hM
   match zk, hk with
   | 0, hk => cases hk; cases ha
   | zk + 1, hk => simp at hk
  case pu2 =>
   intro zk zb zs zo hk hs ho a' u lc W zc hM hc hcs
   match zk, hk with
   | 0, hk =>
    cases hk
    simp only [List.mem_cons, List.not_mem_nil, or_false] at hs
    rcases hs with rfl
    · cases ho
      obtain ⟨sb, sp, sl, sc, sb2, sp2, sl2, sc2, e, _⟩ := (show Is (fr k 1) (u 3) W from (hM.kd 3))
      exact kPut rfl e ((hM.ol 2).trans (show _ = Value.pointer (some ⟨lc 0, 0, none⟩) from by rw [show lc 0 = (lc1 0) from hM.locO 0 _ rfl rfl]; rfl)) (hM.v 3 6 rfl) hc hcs sz26
   | zk + 1, hk => simp at hk
  case en2 =>
   intro u2 lc2 W2 hK2 hB2 hO2 hV2 hX2 hA2
   have k2_3 := kk (hV2 3 6 rfl) rfl
   obtain ⟨qr, ho, hl⟩ := hX2 0 _ rfl
   have elc : lc2 0 = (lc1 0) := ho rfl
   rw [elc] at qr
   obtain ⟨x2_4, y2_4, z2_4, c2_4, x22_4, y22_4, z22_4, c22_4, es2_4, sa2_4, sb2_4⟩ := id k2_3
   have sk2_4 : Is (fr k 1) (.agg #[.bool x2_4, .slice y2_4 z2_4 c2_4, .bool x22_4, .slice y22_4 z22_4 c22_4]) W2 := by rw [← es2_4]; exact k2_3
   have q2_0 : W2.heap[(lc1 0)]? = some (.cells #[.bool x2_4, .slice y2_4 z2_4 c2_4, .bool x22_4, .slice y22_4 z22_4 c22_4] 26) := by
    rw [contAll_one rfl (cs := #[.bool x2_4, .slice y2_4 z2_4 c2_4, .bool x22_4, .slice y22_4 z22_4 c22_4]) (by rw [es2_4]; rfl) rfl] at qr; exact qr
   simp only [putK, fC, fN, kZ, kS, vV, vK, sI, sZ, sS]
   have hBt2 := hBt1.trans hB2
   clear hV2 hX2 hA2
   have cr0 := cell_of q2_0 0 rfl
   have cr1 := cell_of q2_0 1 rfl
   have cr2 := cell_of q2_0 2 rfl
   have cr3 := cell_of q2_0 3 rfl
   go_wp2
   exact bodyPost_ret (v := .agg #[.bool x2_4, .slice y2_4 z2_4 c2_4, .bool x22_4, .slice y22_4 z22_4 c22_4]) (by simp [results, Tryz.results33, go_sem, cr0, cr1, cr2, cr3]) rfl ⟨_, rfl, sk2_4, hBt2⟩
end Go.Proofs.YtihdbjilolmfiaaGreatDoor
