import Derived.Test.YtihdbjilolmfiaaGreatDoorRField04
namespace Go.Proofs.YtihdbjilolmfiaaGreatDoor
open Go.RowKit Go.WM Go.WR
attribute [local go_sem] Oper.semAt_some
theorem lim_of {x : Int} {b : Bool} {p : Option Addr} {l c : Nat} {W : World} (h : Is (num x) (.agg #[.bool b, .slice p l c]) W) : ∃ zs, Is (lim zs) (.slice p l c) W ∧ Rep zs x.natAbs ∧ (x.natAbs : Int) < Cap ∧ zs.length ≤ 70368744177662 := by
 obtain ⟨sv, zs, e, hL, hR, hC⟩ := h
 cases e
 exact ⟨zs, ⟨_, _, _, rfl, hL⟩, hR, hC, by have := hR.cap.2 hC; omega⟩
set_option maxRecDepth 100000 in
set_option maxHeartbeats 4000000 in
theorem c39 {r : Rat} {v0 : Value} {w : World} (hr : Fs r) (h0 : Is (frq r) v0 w) : Calls Tryz.prog 39 #[v0] w (Ret (.k (tup2 (.k (fr (-r.num) ((r.den : Nat) : Int))) (.val (.int .i64 0)))) w) := by
 obtain ⟨ya0, yp0, yl0, yd0, ye0, yq0, ym0, yr0, rfl, yg0, yk0⟩ := id h0
 obtain rfl : ye0 = false := (num_sign (W := w) yk0).trans (decide_eq_false (by have := rat_pos r; omega))
 replace yg0 : Is (num r.num) (.agg #[.bool ya0, .slice yp0 yl0 yd0]) w := yg0
 replace yk0 : Is (num ((r.den : Nat) : Int)) (.agg #[.bool false, .slice yq0 ym0 yr0]) w := yk0
 obtain ⟨zs, hlim, hRz, hCz, hcl⟩ := lim_of yk0
 have HR := Lib.hid hr
 have HRZ := Lib.hid hRz
 have HCZ := Lib.hid hCz
 have HCL := Lib.hid hcl
 have hsg : false = decide (((r.den : Nat) : Int) < 0) := (decide_eq_false (by have := rat_pos r; omega)).symm
 have HS := Lib.hid hsg
 clear hr hRz hCz hcl hsg
 have hB0 := Below.refl w.heap.size w
 go_enter Tryz.func39, Tryz.ntmps39
 go_upto_region 0 with fail
 refine rg (n := 9) (t16 := 48) w.heap.size [] [.any, .any, .val (.int .i64 0)] [(0, 1), (1, 2), (2, 3)] [⟨26, some 0, 0, pt, 4, [.c #[.bool ya0, .slice yp0 yl0 yd0, .bool false, .slice yq0 ym0 yr0]], []⟩, ⟨26, some 1, 0, pt, 4, [.c #[.bool false, .slice none 0 0, .bool false, .slice none 0 0]], []⟩] ?ok1 ?st1 ?al1 ?pu1 ?en1
 case ok1 => exact BxOK.fresh rfl hB0.size
 case st1 =>
  intro zi zo ho hro a' u lc W hM
  match zi, ho, hro with
  | 0, _, hro => exact nr1 hro (by kernel_rfl)
  | 1, _, hro => exact nr1 hro (by kernel_rfl)
  | 2, ho, _ => cases ho; exact wn (kAssign rfl rfl)
  | zk + 3, ho, _ => simp at ho
 case al1 =>
  intro zk zb zi zo hk ha ho a' u lc W hM
  match zk, hk with
  | 0, hk => cases hk; cases ha; cases ho; exact ⟨rfl, rfl, rfl, rfl, kBox rfl (hM.ol 0)⟩
  | 1, hk => cases hk; cases ha; cases ho; exact ⟨rfl, rfl, rfl, rfl, kAlloc26 rfl⟩
  | zk + 2, hk => simp at hk
 case pu1 =>
  intro zk zb zs zo hk hs ho a' u lc W zc hM hc hcs
  match zk, hk with
  | 0, hk => cases hk; simp at hs
  | 1, hk => cases hk; simp at hs
  | zk + 2, hk => simp at hk
 case en1 =>
  intro u1 lc1 W1 hK1 hB1 hO1 hV1 hX1 hA1
  obtain ⟨qr, ho, hl⟩ := hX1 0 _ rfl
  have e1_0 : u1 0 = .pointer (some ⟨lc1 0, 0, none⟩) := (hl 0 rfl).1
  have g1_0 := (hl 0 rfl).2
  have f1_0 := h0.kept hK1
  have f1_1 := yg0.kept hK1
  have f1_3 := hlim.kept hK1
  have q1_0 : W1.heap[(lc1 0)]? = some (.cells #[.bool ya0, .slice yp0 yl0 yd0, .bool false, .slice yq0 ym0 yr0] 26) := by
   exact qr
  obtain ⟨qr, ho, hl⟩ := hX1 1 _ rfl
  have e1_1 : u1 1 = .pointer (some ⟨lc1 1, 0, none⟩) := (hl 1 rfl).1
  have g1_1 := (hl 1 rfl).2
  have q1_1 : W1.heap[(lc1 1)]? = some (.cells #[.bool false, .slice none 0 0, .bool false, .slice none 0 0] 26) := by
   exact qr
  have ne1_0_1 := hA1 0 1 _ _ rfl rfl (by decide)
  simp only [putK, fC, fN, kZ, kS, vV, vA, sI, sZ, sS, e1_0, e1_1]
  have hBt1 := hB0.trans hB1
  clear hV1 hX1 hA1
  go_upto_region 1 with fail
  refine rg0 (n := 9) (t16 := 48) w.heap.size [.val (.agg #[.bool ya0, .slice yp0 yl0 yd0, .bool false, .slice yq0 ym0 yr0]), .val (.bool true), .val (.bool false)] [(0, 4), (1, 5), (2, 6)] hBt1.size ?st2 ?en2
  case st2 =>
   intro zi zo ho hro a' u lc W hM
   match zi, ho, hro with
   | 0, ho, _ => cases ho; exact wn (kL26 rfl (hM.ol 1) (hM.o0 q1_0))
   | 1, ho, _ => cases ho; exact wn (kCall1 rfl may44 (hM.d 0 4 rfl) (c44_ok HR.out (f1_0.kept hM.kept)))
   | 2, ho, _ => cases ho; exact wn (kNot rfl (hM.d 1 5 rfl) rfl)
   | zk + 3, ho, _ => simp at ho
  case en2 =>
   intro u2 lc2 W2 hK2 hB2 hO2 hV2 hX2 hA2
   have q2_1_0 := oth0 hO2 q1_0
   have f2_1 := f1_1.kept hK2
   have f2_3 := f1_3.kept hK2
   have q2_1_1 := oth0 hO2 q1_1
   simp only [putK, fC, fN, kZ, kS, vV, sI, sZ, sS]
   have hBt2 := hBt1.trans hB2
   clear hV2 hX2 hA2
   go_upto_region 3 with fail
   refine rg (n := 9) (t16 := 48) w.heap.size [(lc1 1)] [.val (.pointer (some ⟨(lc1 0), 0, none⟩)), .val (.agg #[.bool ya0, .slice yp0 yl0 yd0]), .k (num (-r.num)), .val (.pointer (some ⟨(lc1 0), 2, none⟩)), .val (.pointer (some ⟨(lc1 0), 3, none⟩)), .val (.slice yq0 ym0 yr0), .k (lim zs), .k (num ((r.den : Nat) : Int)), .k (fr (-r.num) ((r.den : Nat) : Int)), .any, .val (.int .i64 0)] [(0, 8), (1, 9), (2, 10), (3, 11), (4, 12), (5, 13), (6, 14), (7, 15), (8, 16), (10, 3)] [⟨26, none, (lc1 1), pt, 4, [.c #[.bool false, .slice none 0 0, .bool false, .slice none 0 0]], [(9, 0, 8)]⟩] ?ok3 ?st3 ?al3 ?pu3 ?en3
   case ok3 => exact BxOK.one ⟨(Nat.le_trans hB0.size g1_1), ⟨_, q2_1_1, rfl, rfl, rfl⟩, by simp, (by decide : (26 : Nat) ≠ 48)⟩ rfl hBt2.size
   case st3 =>
    intro zi zo ho hro a' u lc W hM
    match zi, ho, hro with
    | 0, ho, _ => cases ho; exact wn (kField26_0 rfl (hM.ol 1))
    | 1, ho, _ => cases ho; exact wn (kL24 rfl (hM.d 0 8 rfl) (hM.o1 q2_1_0 (by omega)) rfl)
    | 2, ho, _ => cases ho; exact wn (kCall1 rfl may91 (hM.d 1 9 rfl) (c91n (f2_1.kept hM.kept)))
    | 3, ho, _ => cases ho; exact wn (kField26_1 rfl (hM.ol 1))
    | 4, ho, _ => cases ho; exact wn (kField24_1 rfl (hM.d 3 11 rfl))
    | 5, ho, _ => cases ho; exact wn (kLoad1 Tryz.underlying22 rfl rfl (hM.d 4 12 rfl) (hM.o1 q2_1_0 (by omega)) rfl rfl)
    | 6, ho, _ => cases ho; exact wn (kCall1 rfl may92 (hM.d 5 13 rfl) (c92 HCL.out (f2_3.kept hM.kept)))
    | 7, ho, _ =>
     cases ho
     refine .inl ⟨wanted_none rfl, ?_⟩
     obtain ⟨sp, sl, sc, e, hl⟩ := (show Is (lim zs) _ W from (hM.kd 6))
     rw [e] at hl
     exact kBuild24s rfl ((hM.v 6 14 rfl).trans e) (num_mk HS.out hl HRZ.out HCZ.out)
    | 8, ho, _ =>
     cases ho
     refine .inl ⟨wanted_none rfl, ?_⟩
     obtain ⟨sbx, spx, slx, scx, ex⟩ := (show Is (num (-r.num)) _ W from (hM.kd 2)).form
     obtain ⟨sby, spy, sly, scy, ey⟩ := (show Is (num ((r.den : Nat) : Int)) _ W from (hM.kd 7)).form
     exact kBuild26 rfl ((hM.v 2 10 rfl).trans ex) ((hM.v 7 15 rfl).trans ey) ⟨_, _, _, _, _, _, _, _, rfl, (by rw [← ex]; exact (hM.kd 2)), (by rw [← ey]; exact (hM.kd 7))⟩
    | 9, _, hro => exact nr1 hro (by kernel_rfl)
    | 10, ho, _ => cases ho; exact wn (kAssign rfl rfl)
    | zk + 11, ho, _ => simp at ho
   case al3 =>
    intro zk zb zi zo hk ha ho a' u lc W hM
    match zk, hk with
    | 0, hk => cases hk; cases ha
    | zk + 1, hk => simp at hk
   case pu3 =>
    intro zk zb zs zo hk hs ho a' u lc W zc hM hc hcs
    match zk, hk with
    | 0, hk =>
     cases hk
     simp only [List.mem_cons, List.not_mem_nil, or_false] at hs
     rcases hs with rfl
     · cases ho
       obtain ⟨sb, sp, sl, sc, sb2, sp2, sl2, sc2, e, _⟩ := (show Is (fr (-r.num) ((r.den : Nat) : Int)) (u 8) W from (hM.kd 8))
       refine ⟨rfl, rfl, ?_, ?_, kStore ?_ rfl ((hM.ol 2).trans (show _ = Value.pointer (some ⟨lc 0, 0, none⟩) from by rw [show lc 0 = (lc1 1) from hM.locO 0 _ rfl rfl]; rfl)) (hM.v 8 16 rfl) hc ?_ ?_⟩ <;> rw [e]
       · exact Nat.le_of_ble_eq_true rfl
       · rfl
       · exact sz26
       · rw [hcs]; exact Nat.le_of_ble_eq_true rfl
       · rfl
    | zk + 1, hk => simp at hk
   case en3 =>
    intro u3 lc3 W3 hK3 hB3 hO3 hV3 hX3 hA3
    have k3_8 := kk (hV3 8 16 rfl) rfl
    obtain ⟨qr, ho, hl⟩ := hX3 0 _ rfl
    have elc : lc3 0 = (lc1 1) := ho rfl
    rw [elc] at qr
    obtain ⟨x3_9, y3_9, z3_9, c3_9, x23_9, y23_9, z23_9, c23_9, es3_9, sa3_9, sb3_9⟩ := id k3_8
    have sk3_9 : Is (fr (-r.num) ((r.den : Nat) : Int)) (.agg #[.bool x3_9, .slice y3_9 z3_9 c3_9, .bool x23_9, .slice y23_9 z23_9 c23_9]) W3 := by rw [← es3_9]; exact k3_8
    have q3_0 : W3.heap[(lc1 1)]? = some (.cells #[.bool x3_9, .slice y3_9 z3_9 c3_9, .bool x23_9, .slice y23_9 z23_9 c23_9] 26) := by
     rw [contAll_one rfl (cs := #[.bool x3_9, .slice y3_9 z3_9 c3_9, .bool x23_9, .slice y23_9 z23_9 c23_9]) (by rw [es3_9]; rfl) rfl] at qr; exact qr
    simp only [putK, fC, fN, kZ, kS, vV, vK, sI, sZ, sS]
    have hBt3 := hBt2.trans hB3
    clear hV3 hX3 hA3
    have cr0 := cell_of q3_0 0 rfl
    have cr1 := cell_of q3_0 1 rfl
    have cr2 := cell_of q3_0 2 rfl
    have cr3 := cell_of q3_0 3 rfl
    go_wp2
    exact bodyPost_ret (v := .tuple #[.agg #[.bool x3_9, .slice y3_9 z3_9 c3_9, .bool x23_9, .slice y23_9 z23_9 c23_9], .int .i64 0]) (by simp [results, Tryz.results39, go_sem, cr0, cr1, cr2, cr3]) rfl ⟨_, rfl, ⟨_, _, rfl, sk3_9, rfl⟩, hBt3⟩
set_option maxRecDepth 100000 in
set_option maxHeartbeats 4000000 in
theorem c37 {r s : Rat} {v0 v1 : Value} {w : World} (hr : Fs r) (hs : Fs s) (ht : Fs (r + s)) (h0 : Is (frq r) v0 w) (h1 : Is (frq s) v1 w) : Calls Tryz.prog 37 #[v0, v1] w (Ret (.k (frq (r + s))) w) := by
 obtain ⟨ya0, yp0, yl0, yd0, ye0, yq0, ym0, yr0, rfl, yg0, yk0⟩ := id h0
 replace yg0 : Is (num r.num) (.agg #[.bool ya0, .slice yp0 yl0 yd0]) w := yg0
 replace yk0 : Is (num ((r.den : Nat) : Int)) (.agg #[.bool ye0, .slice yq0 ym0 yr0]) w := yk0
 obtain ⟨ya1, yp1, yl1, yd1, ye1, yq1, ym1, yr1, rfl, yg1, yk1⟩ := id h1
 replace yg1 : Is (num s.num) (.agg #[.bool ya1, .slice yp1 yl1 yd1]) w := yg1
 replace yk1 : Is (num ((s.den : Nat) : Int)) (.agg #[.bool ye1, .slice yq1 ym1 yr1]) w := yk1
 have hB0 := Below.refl w.heap.size w
 have HR := Lib.hid hr
 have HS := Lib.hid hs
 have HT := Lib.hid ht
 clear hr hs ht
 go_enter Tryz.func37, Tryz.ntmps37
 go_upto_region 0 with fail
 refine rg (n := 9) (t16 := 48) w.heap.size [] [.any, .any, .any] [(0, 2), (1, 3), (2, 4)] [⟨26, some 0, 0, pt, 4, [.c #[.bool ya0, .slice yp0 yl0 yd0, .bool ye0, .slice yq0 ym0 yr0]], []⟩, ⟨26, some 1, 0, pt, 4, [.c #[.bool ya1, .slice yp1 yl1 yd1, .bool ye1, .slice yq1 ym1 yr1]], []⟩, ⟨26, some 2, 0, pt, 4, [.c #[.bool false, .slice none 0 0, .bool false, .slice none 0 0]], []⟩] ?ok1 ?st1 ?al1 ?pu1 ?en1
 case ok1 => exact BxOK.fresh rfl hB0.size
 case st1 =>
  intro zi zo ho hro a' u lc W hM
  match zi, ho, hro with
  | 0, _, hro => exact nr1 hro (by kernel_rfl)
  | 1, _, hro => exact nr1 hro (by kernel_rfl)
  | 2, _, hro => exact nr1 hro (by kernel_rfl)
  | zk + 3, ho, _ => simp at ho
 case al1 =>
  intro zk zb zi zo hk ha ho a' u lc W hM
  match zk, hk with
  | 0, hk => cases hk; cases ha; cases ho; exact ⟨rfl, rfl, rfl, rfl, kBox rfl (hM.ol 0)⟩
  | 1, hk => cases hk; cases ha; cases ho; exact ⟨rfl, rfl, rfl, rfl, kBox rfl (hM.ol 1)⟩
  | 2, hk => cases hk; cases ha; cases ho; exact ⟨rfl, rfl, rfl, rfl, kAlloc26 rfl⟩
  | zk + 3, hk => simp at hk
 case pu1 =>
  intro zk zb zs zo hk hs ho a' u lc W zc hM hc hcs
  match zk, hk with
  | 0, hk => cases hk; simp at hs
  | 1, hk => cases hk; simp at hs
  | 2, hk => cases hk; simp at hs
  | zk + 3, hk => simp at hk
 case en1 =>
  intro u1 lc1 W1 hK1 hB1 hO1 hV1 hX1 hA1
  obtain ⟨qr, ho, hl⟩ := hX1 0 _ rfl
  have e1_0 : u1 0 = .pointer (some ⟨lc1 0, 0, none⟩) := (hl 0 rfl).1
  have g1_0 := (hl 0 rfl).2
  have f1_0 := h0.kept hK1
  have q1_0 : W1.heap[(lc1 0)]? = some (.cells #[.bool ya0, .slice yp0 yl0 yd0, .bool ye0, .slice yq0 ym0 yr0] 26) := by
   exact qr
  obtain ⟨qr, ho, hl⟩ := hX1 1 _ rfl
  have e1_1 : u1 1 = .pointer (some ⟨lc1 1, 0, none⟩) := (hl 1 rfl).1
  have g1_1 := (hl 1 rfl).2
  have f1_3 := h1.kept hK1
  have q1_1 : W1.heap[(lc1 1)]? = some (.cells #[.bool ya1, .slice yp1 yl1 yd1, .bool ye1, .slice yq1 ym1 yr1] 26) := by
   exact qr
  obtain ⟨qr, ho, hl⟩ := hX1 2 _ rfl
  have e1_2 : u1 2 = .pointer (some ⟨lc1 2, 0, none⟩) := (hl 2 rfl).1
  have g1_2 := (hl 2 rfl).2
  have q1_2 : W1.heap[(lc1 2)]? = some (.cells #[.bool false, .slice none 0 0, .bool false, .slice none 0 0] 26) := by
   exact qr
  have ne1_0_2 := hA1 0 2 _ _ rfl rfl (by decide)
  have ne1_1_2 := hA1 1 2 _ _ rfl rfl (by decide)
  simp only [putK, fC, fN, kZ, kS, vA, sI, sZ, sS, e1_0, e1_1, e1_2]
  have hBt1 := hB0.trans hB1
  clear hV1 hX1 hA1
  go_upto_region 1 with fail
  refine rg (n := 9) (t16 := 48) w.heap.size [] [.val (.agg #[.bool ya0, .slice yp0 yl0 yd0, .bool ye0, .slice yq0 ym0 yr0]), .val (.agg #[.bool ya1, .slice yp1 yl1 yd1, .bool ye1, .slice yq1 ym1 yr1]), .k (tup2 (.k (frq (r + s))) (.val (.int .i64 0))), .k (tup2 (.k (frq (r + s))) (.val (.int .i64 0))), .k (frq (r + s)), .val (.int .i64 0), .any, .any, .val (.int .i64 0)] [(0, 8), (1, 9), (2, 10), (3, 7), (4, 11), (5, 12), (6, 5), (8, 6)] [⟨26, some 6, 0, pt, 4, [.c #[.bool false, .slice none 0 0, .bool false, .slice none 0 0]], [(7, 0, 4)]⟩] ?ok2 ?st2 ?al2 ?pu2 ?en2
  case ok2 => exact BxOK.fresh rfl hBt1.size
  case st2 =>
   intro zi zo ho hro a' u lc W hM
   match zi, ho, hro with
   | 0, ho, _ => cases ho; exact wn (kL26 rfl (hM.ol 2) (hM.o0 q1_0))
   | 1, ho, _ => cases ho; exact wn (kL26 rfl (hM.ol 3) (hM.o0 q1_1))
   | 2, ho, _ => cases ho; exact wn (kCall2 rfl may27 (hM.d 0 8 rfl) (hM.d 1 9 rfl) (c27 HR.out HS.out HT.out (f1_0.kept hM.kept) (f1_3.kept hM.kept)))
   | 3, ho, _ => cases ho; exact wn (kMove rfl (hM.d 2 10 rfl))
   | 4, ho, _ => cases ho; exact wn (kEx20 rfl (hM.d 3 7 rfl))
   | 5, ho, _ => cases ho; exact wn (kEx21 rfl (hM.d 3 7 rfl))
   | 6, _, hro => exact nr1 hro (by kernel_rfl)
   | 7, _, hro => exact nr1 hro (by kernel_rfl)
   | 8, ho, _ => cases ho; exact wn (kAssign rfl (hM.d 5 12 rfl))
   | zk + 9, ho, _ => simp at ho
  case al2 =>
   intro zk zb zi zo hk ha ho a' u lc W hM
   match zk, hk with
   | 0, hk => cases hk; cases ha; cases ho; exact ⟨rfl, rfl, rfl, rfl, kAlloc26 rfl⟩
   | zk + 1, hk => simp at hk
  case pu2 =>
   intro zk zb zs zo hk hs ho a' u lc W zc hM hc hcs
   match zk, hk with
   | 0, hk =>
    cases hk
    simp only [List.mem_cons, List.not_mem_nil, or_false] at hs
    rcases hs with rfl
    · cases ho
      obtain ⟨sb, sp, sl, sc, sb2, sp2, sl2, sc2, e, _⟩ := (show Is (frq (r + s)) (u 4) W from (hM.kd 4))
      refine ⟨rfl, rfl, ?_, ?_, kStore ?_ rfl ((hM.v 6 5 rfl).trans (hM.loc 0 _ 6 rfl rfl (by kernel_rfl))) (hM.v 4 11 rfl) hc ?_ ?_⟩ <;> rw [e]
      · exact Nat.le_of_ble_eq_true rfl
      · rfl
      · exact sz26
      · rw [hcs]; exact Nat.le_of_ble_eq_true rfl
      · rfl
   | zk + 1, hk => simp at hk
  case en2 =>
   intro u2 lc2 W2 hK2 hB2 hO2 hV2 hX2 hA2
   have e2_0 := kv (hV2 0 8 rfl) rfl
   have k2_4 := kk (hV2 4 11 rfl) rfl
   obtain ⟨qr, ho, hl⟩ := hX2 0 _ rfl
   have e2_6 : u2 6 = .pointer (some ⟨lc2 0, 0, none⟩) := (hl 6 rfl).1
   have g2_0 := (hl 6 rfl).2
   obtain ⟨x2_7, y2_7, z2_7, c2_7, x22_7, y22_7, z22_7, c22_7, es2_7, sa2_7, sb2_7⟩ := id k2_4
   have sk2_7 : Is (frq (r + s)) (.agg #[.bool x2_7, .slice y2_7 z2_7 c2_7, .bool x22_7, .slice y22_7 z22_7 c22_7]) W2 := by rw [← es2_7]; exact k2_4
   have q2_0 : W2.heap[(lc2 0)]? = some (.cells #[.bool x2_7, .slice y2_7 z2_7 c2_7, .bool x22_7, .slice y22_7 z22_7 c22_7] 26) := by
    rw [contAll_one rfl (cs := #[.bool x2_7, .slice y2_7 z2_7 c2_7, .bool x22_7, .slice y22_7 z22_7 c22_7]) (by rw [es2_7]; rfl) rfl] at qr; exact qr
   have ne2_0_1_2 := Nat.ne_of_lt (Nat.lt_of_lt_of_le (Array.getElem?_eq_some_iff.1 q1_2).1 g2_0)
   have q2_1_2 := oth0 hO2 q1_2
   simp only [putK, fC, fN, kZ, kS, vV, vA, vK, sI, sZ, sS, e2_6]
   have hBt2 := hBt1.trans hB2
   clear hV2 hX2 hA2
   go_upto_region 2 with fail
   refine rg0 (n := 9) (t16 := 48) w.heap.size [.val (.int .i64 0), .val (.bool false)] [(0, 13), (1, 14)] hBt2.size ?st3 ?en3
   case st3 =>
    intro zi zo ho hro a' u lc W hM
    match zi, ho, hro with
    | 0, ho, _ => cases ho; exact wn (kMove rfl (hM.ol 6))
    | 1, ho, _ => cases ho; exact wn (kNeq29 rfl (hM.d 0 13 rfl) rfl (by decide))
    | zk + 2, ho, _ => simp at ho
   case en3 =>
    intro u3 lc3 W3 hK3 hB3 hO3 hV3 hX3 hA3
    have q3_1_2 := oth0 hO3 q2_1_2
    have q3_2_0 := oth0 hO3 q2_0
    have f3_6 := sk2_7.kept hK3
    simp only [putK, fC, fN, kZ, kS, vV, sI, sZ, sS]
    have hBt3 := hBt2.trans hB3
    clear hV3 hX3 hA3
    go_upto_region 4 with fail
    refine rg (n := 9) (t16 := 48) w.heap.size [(lc1 2)] [.val (.agg #[.bool x2_7, .slice y2_7 z2_7 c2_7, .bool x22_7, .slice y22_7 z22_7 c22_7]), .any] [(0, 16)] [⟨26, none, (lc1 2), pt, 4, [.c #[.bool false, .slice none 0 0, .bool false, .slice none 0 0]], [(1, 0, 0)]⟩] ?ok4 ?st4 ?al4 ?pu4 ?en4
    case ok4 => exact BxOK.one ⟨(Nat.le_trans hB0.size g1_2), ⟨_, q3_1_2, rfl, rfl, rfl⟩, by simp, (by decide : (26 : Nat) ≠ 48)⟩ rfl hBt3.size
    case st4 =>
     intro zi zo ho hro a' u lc W hM
     match zi, ho, hro with
     | 0, ho, _ => cases ho; exact wn (kL26 rfl (hM.ol 5) (hM.o1 q3_2_0 (by omega)))
     | 1, _, hro => exact nr1 hro (by kernel_rfl)
     | zk + 2, ho, _ => simp at ho
    case al4 =>
     intro zk zb zi zo hk ha ho a' u lc W hM
     match zk, hk with
     | 0, hk => cases hk; cases ha
     | zk + 1, hk => simp at hk
    case pu4 =>
     intro zk zb zs zo hk hs ho a' u lc W zc hM hc hcs
     match zk, hk with
     | 0, hk =>
      cases hk
      simp only [List.mem_cons, List.not_mem_nil, or_false] at hs
      rcases hs with rfl
      · cases ho
        have e : u 0 = .agg #[.bool x2_7, .slice y2_7 z2_7 c2_7, .bool x22_7, .slice y22_7 z22_7 c22_7] := hM.kd 0
        refine ⟨rfl, rfl, ?_, ?_, kStore ?_ rfl ((hM.ol 4).trans (show _ = Value.pointer (some ⟨lc 0, 0, none⟩) from by rw [show lc 0 = (lc1 2) from hM.locO 0 _ rfl rfl]; rfl)) (hM.v 0 16 rfl) hc ?_ ?_⟩ <;> rw [e]
        · exact Nat.le_of_ble_eq_true rfl
        · rfl
        · exact sz26
        · rw [hcs]; exact Nat.le_of_ble_eq_true rfl
        · rfl
     | zk + 1, hk => simp at hk
    case en4 =>
     intro u4 lc4 W4 hK4 hB4 hO4 hV4 hX4 hA4
     have e4_0 := kv (hV4 0 16 rfl) rfl
     obtain ⟨qr, ho, hl⟩ := hX4 0 _ rfl
     have elc : lc4 0 = (lc1 2) := ho rfl
     rw [elc] at qr
     have f4_0 := f3_6.kept hK4
     have q4_0 : W4.heap[(lc1 2)]? = some (.cells #[.bool x2_7, .slice y2_7 z2_7 c2_7, .bool x22_7, .slice y22_7 z22_7 c22_7] 26) := by
      rw [contAll_one rfl (cs := #[.bool x2_7, .slice y2_7 z2_7 c2_7, .bool x22_7, .slice y22_7 z22_7 c22_7]) (by rw [e4_0]; rfl) rfl] at qr; exact qr
     simp only [putK, fC, fN, kZ, vV, sI, sZ, sS]
     have hBt4 := hBt3.trans hB4
     clear hV4 hX4 hA4
     have cr0 := cell_of q4_0 0 rfl
     have cr1 := cell_of q4_0 1 rfl
     have cr2 := cell_of q4_0 2 rfl
     have cr3 := cell_of q4_0 3 rfl
     go_wp2
     exact bodyPost_ret (v := .agg #[.bool x2_7, .slice y2_7 z2_7 c2_7, .bool x22_7, .slice y22_7 z22_7 c22_7]) (by simp [results, Tryz.results37, go_sem, cr0, cr1, cr2, cr3]) rfl ⟨_, rfl, f4_0, hBt4⟩
set_option maxRecDepth 100000 in
set_option maxHeartbeats 4000000 in
theorem c34 {r s : Rat} {v0 v1 : Value} {w : World} (hr : Fs r) (hs : Fs s) (ht : Fs (r * s)) (h0 : Is (frq r) v0 w) (h1 : Is (frq s) v1 w) : Calls Tryz.prog 34 #[v0, v1] w (Ret (.k (frq (r * s))) w) := by
 obtain ⟨ya0, yp0, yl0, yd0, ye0, yq0, ym0, yr0, rfl, yg0, yk0⟩ := id h0
 replace yg0 : Is (num r.num) (.agg #[.bool ya0, .slice yp0 yl0 yd0]) w := yg0
 replace yk0 : Is (num ((r.den : Nat) : Int)) (.agg #[.bool ye0, .slice yq0 ym0 yr0]) w := yk0
 obtain ⟨ya1, yp1, yl1, yd1, ye1, yq1, ym1, yr1, rfl, yg1, yk1⟩ := id h1
 replace yg1 : Is (num s.num) (.agg #[.bool ya1, .slice yp1 yl1 yd1]) w := yg1
 replace yk1 : Is (num ((s.den : Nat) : Int)) (.agg #[.bool ye1, .slice yq1 ym1 yr1]) w := yk1
 have hB0 := Below.refl w.heap.size w
 have HR := Lib.hid hr
 have HS := Lib.hid hs
 have HT := Lib.hid ht
 clear hr hs ht
 go_enter Tryz.func34, Tryz.ntmps34
 go_upto_region 0 with fail
 refine rg (n := 9) (t16 := 48) w.heap.size [] [.any, .any, .any] [(0, 2), (1, 3), (2, 4)] [⟨26, some 0, 0, pt, 4, [.c #[.bool ya0, .slice yp0 yl0 yd0, .bool ye0, .slice yq0 ym0 yr0]], []⟩, ⟨26, some 1, 0, pt, 4, [.c #[.bool ya1, .slice yp1 yl1 yd1, .bool ye1, .slice yq1 ym1 yr1]], []⟩, ⟨26, some 2, 0, pt, 4, [.c #[.bool false, .slice none 0 0, .bool false, .slice none 0 0]], []⟩] ?ok1 ?st1 ?al1 ?pu1 ?en1
 case ok1 => exact BxOK.fresh rfl hB0.size
 case st1 =>
  intro zi zo ho hro a' u lc W hM
  match zi, ho, hro with
  | 0, _, hro => exact nr1 hro (by kernel_rfl)
  | 1, _, hro => exact nr1 hro (by kernel_rfl)
  | 2, _, hro => exact nr1 hro (by kernel_rfl)
  | zk + 3, ho, _ => simp at ho
 case al1 =>
  intro zk zb zi zo hk ha ho a' u lc W hM
  match zk, hk with
  | 0, hk => cases hk; cases ha; cases ho; exact ⟨rfl, rfl, rfl, rfl, kBox rfl (hM.ol 0)⟩
  | 1, hk => cases hk; cases ha; cases ho; exact ⟨rfl, rfl, rfl, rfl, kBox rfl (hM.ol 1)⟩
  | 2, hk => cases hk; cases ha; cases ho; exact ⟨rfl, rfl, rfl, rfl, kAlloc26 rfl⟩
  | zk + 3, hk => simp at hk
 case pu1 =>
  intro zk zb zs zo hk hs ho a' u lc W zc hM hc hcs
  match zk, hk with
  | 0, hk => cases hk; simp at hs
  | 1, hk => cases hk; simp at hs
  | 2, hk => cases hk; simp at hs
  | zk + 3, hk => simp at hk
 case en1 =>
  intro u1 lc1 W1 hK1 hB1 hO1 hV1 hX1 hA1
  obtain ⟨qr, ho, hl⟩ := hX1 0 _ rfl
  have e1_0 : u1 0 = .pointer (some ⟨lc1 0, 0, none⟩) := (hl 0 rfl).1
  have g1_0 := (hl 0 rfl).2
  have f1_0 := h0.kept hK1
  have q1_0 : W1.heap[(lc1 0)]? = some (.cells #[.bool ya0, .slice yp0 yl0 yd0, .bool ye0, .slice yq0 ym0 yr0] 26) := by
   exact qr
  obtain ⟨qr, ho, hl⟩ := hX1 1 _ rfl
  have e1_1 : u1 1 = .pointer (some ⟨lc1 1, 0, none⟩) := (hl 1 rfl).1
  have g1_1 := (hl 1 rfl).2
  have f1_3 := h1.kept hK1
  have q1_1 : W1.heap[(lc1 1)]? = some (.cells #[.bool ya1, .slice yp1 yl1 yd1, .bool ye1, .slice yq1 ym1 yr1] 26) := by
   exact qr
  obtain ⟨qr, ho, hl⟩ := hX1 2 _ rfl
  have e1_2 : u1 2 = .pointer (some ⟨lc1 2, 0, none⟩) := (hl 2 rfl).1
  have g1_2 := (hl 2 rfl).2
  have q1_2 : W1.heap[(lc1 2)]? = some (.cells #[.bool false, .slice none 0 0, .bool false, .slice none 0 0] 26) := by
   exact qr
  have ne1_0_2 := hA1 0 2 _ _ rfl rfl (by decide)
  have ne1_1_2 := hA1 1 2 _ _ rfl rfl (by decide)
  simp only [putK, fC, fN, kZ, kS, vA, sI, sZ, sS, e1_0, e1_1, e1_2]
  have hBt1 := hB0.trans hB1
  clear hV1 hX1 hA1
  go_upto_region 1 with fail
  refine rg (n := 9) (t16 := 48) w.heap.size [] [.val (.agg #[.bool ya0, .slice yp0 yl0 yd0, .bool ye0, .slice yq0 ym0 yr0]), .val (.agg #[.bool ya1, .slice yp1 yl1 yd1, .bool ye1, .slice yq1 ym1 yr1]), .k (tup2 (.k (frq (r * s))) (.val (.int .i64 0))), .k (tup2 (.k (frq (r * s))) (.val (.int .i64 0))), .k (frq (r * s)), .val (.int .i64 0), .any, .any, .val (.int .i64 0)] [(0, 8), (1, 9), (2, 10), (3, 7), (4, 11), (5, 12), (6, 5), (8, 6)] [⟨26, some 6, 0, pt, 4, [.c #[.bool false, .slice none 0 0, .bool false, .slice none 0 0]], [(7, 0, 4)]⟩] ?ok2 ?st2 ?al2 ?pu2 ?en2
  case ok2 => exact BxOK.fresh rfl hBt1.size
  case st2 =>
   intro zi zo ho hro a' u lc W hM
   match zi, ho, hro with
   | 0, ho, _ => cases ho; exact wn (kL26 rfl (hM.ol 2) (hM.o0 q1_0))
   | 1, ho, _ => cases ho; exact wn (kL26 rfl (hM.ol 3) (hM.o0 q1_1))
   | 2, ho, _ => cases ho; exact wn (kCall2 rfl may29 (hM.d 0 8 rfl) (hM.d 1 9 rfl) (c29 HR.out HS.out HT.out (f1_0.kept hM.kept) (f1_3.kept hM.kept)))
   | 3, ho, _ => cases ho; exact wn (kMove rfl (hM.d 2 10 rfl))
   | 4, ho, _ => cases ho; exact wn (kEx20 rfl (hM.d 3 7 rfl))
   | 5, ho, _ => cases ho; exact wn (kEx21 rfl (hM.d 3 7 rfl))
   | 6, _, hro => exact nr1 hro (by kernel_rfl)
   | 7, _, hro => exact nr1 hro (by kernel_rfl)
   | 8, ho, _ => cases ho; exact wn (kAssign rfl (hM.d 5 12 rfl))
   | zk + 9, ho, _ => simp at ho
  case al2 =>
   intro zk zb zi zo hk ha ho a' u lc W hM
   match zk, hk with
   | 0, hk => cases hk; cases ha; cases ho; exact ⟨rfl, rfl, rfl, rfl, kAlloc26 rfl⟩
   | zk + 1, hk => simp at hk
  case pu2 =>
   intro zk zb zs zo hk hs ho a' u lc W zc hM hc hcs
   match zk, hk with
   | 0, hk =>
    cases hk
    simp only [List.mem_cons, List.not_mem_nil, or_false] at hs
    rcases hs with rfl
    · cases ho
      obtain ⟨sb, sp, sl, sc, sb2, sp2, sl2, sc2, e, _⟩ := (show Is (frq (r * s)) (u 4) W from (hM.kd 4))
      refine ⟨rfl, rfl, ?_, ?_, kStore ?_ rfl ((hM.v 6 5 rfl).trans (hM.loc 0 _ 6 rfl rfl (by kernel_rfl))) (hM.v 4 11 rfl) hc ?_ ?_⟩ <;> rw [e]
      · exact Nat.le_of_ble_eq_true rfl
      · rfl
      · exact sz26
      · rw [hcs]; exact Nat.le_of_ble_eq_true rfl
      · rfl
   | zk + 1, hk => simp at hk
  case en2 =>
   intro u2 lc2 W2 hK2 hB2 hO2 hV2 hX2 hA2
   have e2_0 := kv (hV2 0 8 rfl) rfl
   have k2_4 := kk (hV2 4 11 rfl) rfl
   obtain ⟨qr, ho, hl⟩ := hX2 0 _ rfl
   have e2_6 : u2 6 = .pointer (some ⟨lc2 0, 0, none⟩) := (hl 6 rfl).1
   have g2_0 := (hl 6 rfl).2
   obtain ⟨x2_7, y2_7, z2_7, c2_7, x22_7, y22_7, z22_7, c22_7, es2_7, sa2_7, sb2_7⟩ := id k2_4
   have sk2_7 : Is (frq (r * s)) (.agg #[.bool x2_7, .slice y2_7 z2_7 c2_7, .bool x22_7, .slice y22_7 z22_7 c22_7]) W2 := by rw [← es2_7]; exact k2_4
   have q2_0 : W2.heap[(lc2 0)]? = some (.cells #[.bool x2_7, .slice y2_7 z2_7 c2_7, .bool x22_7, .slice y22_7 z22_7 c22_7] 26) := by
    rw [contAll_one rfl (cs := #[.bool x2_7, .slice y2_7 z2_7 c2_7, .bool x22_7, .slice y22_7 z22_7 c22_7]) (by rw [es2_7]; rfl) rfl] at qr; exact qr
   have ne2_0_1_2 := Nat.ne_of_lt (Nat.lt_of_lt_of_le (Array.getElem?_eq_some_iff.1 q1_2).1 g2_0)
   have q2_1_2 := oth0 hO2 q1_2
   simp only [putK, fC, fN, kZ, kS, vV, vA, vK, sI, sZ, sS, e2_6]
   have hBt2 := hBt1.trans hB2
   clear hV2 hX2 hA2
   go_upto_region 2 with fail
   refine rg0 (n := 9) (t16 := 48) w.heap.size [.val (.int .i64 0), .val (.bool false)] [(0, 13), (1, 14)] hBt2.size ?st3 ?en3
   case st3 =>
    intro zi zo ho hro a' u lc W hM
    match zi, ho, hro with
    | 0, ho, _ => cases ho; exact wn (kMove rfl (hM.ol 6))
    | 1, ho, _ => cases ho; exact wn (kNeq29 rfl (hM.d 0 13 rfl) rfl (by decide))
    | zk + 2, ho, _ => simp at ho
   case en3 =>
    intro u3 lc3 W3 hK3 hB3 hO3 hV3 hX3 hA3
    have q3_1_2 := oth0 hO3 q2_1_2
    have q3_2_0 := oth0 hO3 q2_0
    have f3_6 := sk2_7.kept hK3
    simp only [putK, fC, fN, kZ, kS, vV, sI, sZ, sS]
    have hBt3 := hBt2.trans hB3
    clear hV3 hX3 hA3
    go_upto_region 4 with fail
    refine rg (n := 9) (t16 := 48) w.heap.size [(lc1 2)] [.val (.agg #[.bool x2_7, .slice y2_7 z2_7 c2_7, .bool x22_7, .slice y22_7 z22_7 c22_7]), .any] [(0, 16)] [⟨26, none, (lc1 2), pt, 4, [.c #[.bool false, .slice none 0 0, .bool false, .slice none 0 0]], [(1, 0, 0)]⟩] ?ok4 ?st4 ?al4 ?pu4 ?en4
    case ok4 => exact BxOK.one ⟨(Nat.le_trans hB0.size g1_2), ⟨_, q3_1_2, rfl, rfl, rfl⟩, by simp, (by decide : (26 : Nat) ≠ 48)⟩ rfl hBt3.size
    case st4 =>
     intro zi zo ho hro a' u lc W hM
     match zi, ho, hro with
     | 0, ho, _ => cases ho; exact wn (kL26 rfl (hM.ol 5) (hM.o1 q3_2_0 (by omega)))
     | 1, _, hro => exact nr1 hro (by kernel_rfl)
     | zk + 2, ho, _ => simp at ho
    case al4 =>
     intro zk zb zi zo hk ha ho a' u lc W hM
     match zk, hk with
     | 0, hk => cases hk; cases ha
     | zk + 1, hk => simp at hk
    case pu4 =>
     intro zk zb zs zo hk hs ho a' u lc W zc hM hc hcs
     match zk, hk with
     | 0, hk =>
      cases hk
      simp only [List.mem_cons, List.not_mem_nil, or_false] at hs
      rcases hs with rfl
      · cases ho
        have e : u 0 = .agg #[.bool x2_7, .slice y2_7 z2_7 c2_7, .bool x22_7, .slice y22_7 z22_7 c22_7] := hM.kd 0
        refine ⟨rfl, rfl, ?_, ?_, kStore ?_ rfl ((hM.ol 4).trans (show _ = Value.pointer (some ⟨lc 0, 0, none⟩) from by rw [show lc 0 = (lc1 2) from hM.locO 0 _ rfl rfl]; rfl)) (hM.v 0 16 rfl) hc ?_ ?_⟩ <;> rw [e]
        · exact Nat.le_of_ble_eq_true rfl
        · rfl
        · exact sz26
        · rw [hcs]; exact Nat.le_of_ble_eq_true rfl
        · rfl
     | zk + 1, hk => simp at hk
    case en4 =>
     intro u4 lc4 W4 hK4 hB4 hO4 hV4 hX4 hA4
     have e4_0 := kv (hV4 0 16 rfl) rfl
     obtain ⟨qr, ho, hl⟩ := hX4 0 _ rfl
     have elc : lc4 0 = (lc1 2) := ho rfl
     rw [elc] at qr
     have f4_0 := f3_6.kept hK4
     have q4_0 : W4.heap[(lc1 2)]? = some (.cells #[.bool x2_7, .slice y2_7 z2_7 c2_7, .bool x22_7, .slice y22_7 z22_7 c22_7] 26) := by
      rw [contAll_one rfl (cs := #[.bool x2_7, .slice y2_7 z2_7 c2_7, .bool x22_7, .slice y22_7 z22_7 c22_7]) (by rw [e4_0]; rfl) rfl] at qr; exact qr
     simp only [putK, fC, fN, kZ, vV, sI, sZ, sS]
     have hBt4 := hBt3.trans hB4
     clear hV4 hX4 hA4
     have cr0 := cell_of q4_0 0 rfl
     have cr1 := cell_of q4_0 1 rfl
     have cr2 := cell_of q4_0 2 rfl
     have cr3 := cell_of q4_0 3 rfl
     go_wp2
     exact bodyPost_ret (v := .agg #[.bool x2_7, .slice y2_7 z2_7 c2_7, .bool x22_7, .slice y22_7 z22_7 c22_7]) (by simp [results, Tryz.results34, go_sem, cr0, cr1, cr2, cr3]) rfl ⟨_, rfl, f4_0, hBt4⟩
set_option maxRecDepth 100000 in
set_option maxHeartbeats 4000000 in
theorem c36 {r s : Rat} {v0 v1 : Value} {w : World} (hr : Fs r) (hs : Fs s) (ht : Fs (r + -s)) (h0 : Is (frq r) v0 w) (h1 : Is (frq s) v1 w) : Calls Tryz.prog 36 #[v0, v1] w (Ret (.k (frq (r + -s))) w) := by
 obtain ⟨ya0, yp0, yl0, yd0, ye0, yq0, ym0, yr0, rfl, yg0, yk0⟩ := id h0
 replace yg0 : Is (num r.num) (.agg #[.bool ya0, .slice yp0 yl0 yd0]) w := yg0
 replace yk0 : Is (num ((r.den : Nat) : Int)) (.agg #[.bool ye0, .slice yq0 ym0 yr0]) w := yk0
 obtain ⟨ya1, yp1, yl1, yd1, ye1, yq1, ym1, yr1, rfl, yg1, yk1⟩ := id h1
 replace yg1 : Is (num s.num) (.agg #[.bool ya1, .slice yp1 yl1 yd1]) w := yg1
 replace yk1 : Is (num ((s.den : Nat) : Int)) (.agg #[.bool ye1, .slice yq1 ym1 yr1]) w := yk1
 have hB0 := Below.refl w.heap.size w
 have HR := Lib.hid hr
 have HS := Lib.hid hs
 have HT := Lib.hid ht
 clear hr hs ht
 go_enter Tryz.func36, Tryz.ntmps36
 go_upto_region 0 with fail
 refine rg (n := 9) (t16 := 48) w.heap.size [] [.any, .any, .any] [(0, 2), (1, 3), (2, 4)] [⟨26, some 0, 0, pt, 4, [.c #[.bool ya0, .slice yp0 yl0 yd0, .bool ye0, .slice yq0 ym0 yr0]], []⟩, ⟨26, some 1, 0, pt, 4, [.c #[.bool ya1, .slice yp1 yl1 yd1, .bool ye1, .slice yq1 ym1 yr1]], []⟩, ⟨26, some 2, 0, pt, 4, [.c #[.bool false, .slice none 0 0, .bool false, .slice none 0 0]], []⟩] ?ok1 ?st1 ?al1 ?pu1 ?en1
 case ok1 => exact BxOK.fresh rfl hB0.size
 case st1 =>
  intro zi zo ho hro a' u lc W hM
  match zi, ho, hro with
  | 0, _, hro => exact nr1 hro (by kernel_rfl)
  | 1, _, hro => exact nr1 hro (by kernel_rfl)
  | 2, _, hro => exact nr1 hro (by kernel_rfl)
  | zk + 3, ho, _ => simp at ho
 case al1 =>
  intro zk zb zi zo hk ha ho a' u lc W hM
  match zk, hk with
  | 0, hk => cases hk; cases ha; cases ho; exact ⟨rfl, rfl, rfl, rfl, kBox rfl (hM.ol 0)⟩
  | 1, hk => cases hk; cases ha; cases ho; exact ⟨rfl, rfl, rfl, rfl, kBox rfl (hM.ol 1)⟩
  | 2, hk => cases hk; cases ha; cases ho; exact ⟨rfl, rfl, rfl, rfl, kAlloc26 rfl⟩
  | zk + 3, hk => simp at hk
 case pu1 =>
  intro zk zb zs zo hk hs ho a' u lc W zc hM hc hcs
  match zk, hk with
  | 0, hk => cases hk; simp at hs
  | 1, hk => cases hk; simp at hs
  | 2, hk => cases hk; simp at hs
  | zk + 3, hk => simp at hk
 case en1 =>
  intro u1 lc1 W1 hK1 hB1 hO1 hV1 hX1 hA1
  obtain ⟨qr, ho, hl⟩ := hX1 0 _ rfl
  have e1_0 : u1 0 = .pointer (some ⟨lc1 0, 0, none⟩) := (hl 0 rfl).1
  have g1_0 := (hl 0 rfl).2
  have f1_0 := h0.kept hK1
  have q1_0 : W1.heap[(lc1 0)]? = some (.cells #[.bool ya0, .slice yp0 yl0 yd0, .bool ye0, .slice yq0 ym0 yr0] 26) := by
   exact qr
  obtain ⟨qr, ho, hl⟩ := hX1 1 _ rfl
  have e1_1 : u1 1 = .pointer (some ⟨lc1 1, 0, none⟩) := (hl 1 rfl).1
  have g1_1 := (hl 1 rfl).2
  have f1_3 := h1.kept hK1
  have q1_1 : W1.heap[(lc1 1)]? = some (.cells #[.bool ya1, .slice yp1 yl1 yd1, .bool ye1, .slice yq1 ym1 yr1] 26) := by
   exact qr
  obtain ⟨qr, ho, hl⟩ := hX1 2 _ rfl
  have e1_2 : u1 2 = .pointer (some ⟨lc1 2, 0, none⟩) := (hl 2 rfl).1
  have g1_2 := (hl 2 rfl).2
  have q1_2 : W1.heap[(lc1 2)]? = some (.cells #[.bool false, .slice none 0 0, .bool false, .slice none 0 0] 26) := by
   exact qr
  have ne1_0_2 := hA1 0 2 _ _ rfl rfl (by decide)
  have ne1_1_2 := hA1 1 2 _ _ rfl rfl (by decide)
  simp only [putK, fC, fN, kZ, kS, vA, sI, sZ, sS, e1_0, e1_1, e1_2]
  have hBt1 := hB0.trans hB1
  clear hV1 hX1 hA1
  go_upto_region 1 with fail
  refine rg (n := 9) (t16 := 48) w.heap.size [] [.val (.agg #[.bool ya0, .slice yp0 yl0 yd0, .bool ye0, .slice yq0 ym0 yr0]), .val (.agg #[.bool ya1, .slice yp1 yl1 yd1, .bool ye1, .slice yq1 ym1 yr1]), .k (tup2 (.k (frq (r + -s))) (.val (.int .i64 0))), .k (tup2 (.k (frq (r + -s))) (.val (.int .i64 0))), .k (frq (r + -s)), .val (.int .i64 0), .any, .any, .val (.int .i64 0)] [(0, 8), (1, 9), (2, 10), (3, 7), (4, 11), (5, 12), (6, 5), (8, 6)] [⟨26, some 6, 0, pt, 4, [.c #[.bool false, .slice none 0 0, .bool false, .slice none 0 0]], [(7, 0, 4)]⟩] ?ok2 ?st2 ?al2 ?pu2 ?en2
  case ok2 => exact BxOK.fresh rfl hBt1.size
  case st2 =>
   intro zi zo ho hro a' u lc W hM
   match zi, ho, hro with
   | 0, ho, _ => cases ho; exact wn (kL26 rfl (hM.ol 2) (hM.o0 q1_0))
   | 1, ho, _ => cases ho; exact wn (kL26 rfl (hM.ol 3) (hM.o0 q1_1))
   | 2, ho, _ => cases ho; exact wn (kCall2 rfl may57 (hM.d 0 8 rfl) (hM.d 1 9 rfl) (c57 HR.out HS.out HT.out (f1_0.kept hM.kept) (f1_3.kept hM.kept)))
   | 3, ho, _ => cases ho; exact wn (kMove rfl (hM.d 2 10 rfl))
   | 4, ho, _ => cases ho; exact wn (kEx20 rfl (hM.d 3 7 rfl))
   | 5, ho, _ => cases ho; exact wn (kEx21 rfl (hM.d 3 7 rfl))
   | 6, _, hro => exact nr1 hro (by kernel_rfl)
   | 7, _, hro => exact nr1 hro (by kernel_rfl)
   | 8, ho, _ => cases ho; exact wn (kAssign rfl (hM.d 5 12 rfl))
   | zk + 9, ho, _ => simp at ho
  case al2 =>
   intro zk zb zi zo hk ha ho a' u lc W hM
   match zk, hk with
   | 0, hk => cases hk; cases ha; cases ho; exact ⟨rfl, rfl, rfl, rfl, kAlloc26 rfl⟩
   | zk + 1, hk => simp at hk
  case pu2 =>
   intro zk zb zs zo hk hs ho a' u lc W zc hM hc hcs
   match zk, hk with
   | 0, hk =>
    cases hk
    simp only [List.mem_cons, List.not_mem_nil, or_false] at hs
    rcases hs with rfl
    · cases ho
      obtain ⟨sb, sp, sl, sc, sb2, sp2, sl2, sc2, e, _⟩ := (show Is (frq (r + -s)) (u 4) W from (hM.kd 4))
      refine ⟨rfl, rfl, ?_, ?_, kStore ?_ rfl ((hM.v 6 5 rfl).trans (hM.loc 0 _ 6 rfl rfl (by kernel_rfl))) (hM.v 4 11 rfl) hc ?_ ?_⟩ <;> rw [e]
      · exact Nat.le_of_ble_eq_true rfl
      · rfl
      · exact sz26
      · rw [hcs]; exact Nat.le_of_ble_eq_true rfl
      · rfl
   | zk + 1, hk => simp at hk
  case en2 =>
   intro u2 lc2 W2 hK2 hB2 hO2 hV2 hX2 hA2
   have e2_0 := kv (hV2 0 8 rfl) rfl
   have k2_4 := kk (hV2 4 11 rfl) rfl
   obtain ⟨qr, ho, hl⟩ := hX2 0 _ rfl
   have e2_6 : u2 6 = .pointer (some ⟨lc2 0, 0, none⟩) := (hl 6 rfl).1
   have g2_0 := (hl 6 rfl).2
   obtain ⟨x2_7, y2_7, z2_7, c2_7, x22_7, y22_7, z22_7, c22_7, es2_7, sa2_7, sb2_7⟩ := id k2_4
   have sk2_7 : Is (frq (r + -s)) (.agg #[.bool x2_7, .slice y2_7 z2_7 c2_7, .bool x22_7, .slice y22_7 z22_7 c22_7]) W2 := by rw [← es2_7]; exact k2_4
   have q2_0 : W2.heap[(lc2 0)]? = some (.cells #[.bool x2_7, .slice y2_7 z2_7 c2_7, .bool x22_7, .slice y22_7 z22_7 c22_7] 26) := by
    rw [contAll_one rfl (cs := #[.bool x2_7, .slice y2_7 z2_7 c2_7, .bool x22_7, .slice y22_7 z22_7 c22_7]) (by rw [es2_7]; rfl) rfl] at qr; exact qr
   have ne2_0_1_2 := Nat.ne_of_lt (Nat.lt_of_lt_of_le (Array.getElem?_eq_some_iff.1 q1_2).1 g2_0)
   have q2_1_2 := oth0 hO2 q1_2
   simp only [putK, fC, fN, kZ, kS, vV, vA, vK, sI, sZ, sS, e2_6]
   have hBt2 := hBt1.trans hB2
   clear hV2 hX2 hA2
   go_upto_region 2 with fail
   refine rg0 (n := 9) (t16 := 48) w.heap.size [.val (.int .i64 0), .val (.bool false)] [(0, 13), (1, 14)] hBt2.size ?st3 ?en3
   case st3 =>
    intro zi zo ho hro a' u lc W hM
    match zi, ho, hro with
    | 0, ho, _ => cases ho; exact wn (kMove rfl (hM.ol 6))
    | 1, ho, _ => cases ho; exact wn (kNeq29 rfl (hM.d 0 13 rfl) rfl (by decide))
    | zk + 2, ho, _ => simp at ho
   case en3 =>
    intro u3 lc3 W3 hK3 hB3 hO3 hV3 hX3 hA3
    have q3_1_2 := oth0 hO3 q2_1_2
    have q3_2_0 := oth0 hO3 q2_0
    have f3_6 := sk2_7.kept hK3
    simp only [putK, fC, fN, kZ, kS, vV, sI, sZ, sS]
    have hBt3 := hBt2.trans hB3
    clear hV3 hX3 hA3
    go_upto_region 4 with fail
    refine rg (n := 9) (t16 := 48) w.heap.size [(lc1 2)] [.val (.agg #[.bool x2_7, .slice y2_7 z2_7 c2_7, .bool x22_7, .slice y22_7 z22_7 c22_7]), .any] [(0, 16)] [⟨26, none, (lc1 2), pt, 4, [.c #[.bool false, .slice none 0 0, .bool false, .slice none 0 0]], [(1, 0, 0)]⟩] ?ok4 ?st4 ?al4 ?pu4 ?en4
    case ok4 => exact BxOK.one ⟨(Nat.le_trans hB0.size g1_2), ⟨_, q3_1_2, rfl, rfl, rfl⟩, by simp, (by decide : (26 : Nat) ≠ 48)⟩ rfl hBt3.size
    case st4 =>
     intro zi zo ho hro a' u lc W hM
     match zi, ho, hro with
     | 0, ho, _ => cases ho; exact wn (kL26 rfl (hM.ol 5) (hM.o1 q3_2_0 (by omega)))
     | 1, _, hro => exact nr1 hro (by kernel_rfl)
     | zk + 2, ho, _ => simp at ho
    case al4 =>
     intro zk zb zi zo hk ha ho a' u lc W hM
     match zk, hk with
     | 0, hk => cases hk; cases ha
     | zk + 1, hk => simp at hk
    case pu4 =>
     intro zk zb zs zo hk hs ho a' u lc W zc hM hc hcs
     match zk, hk with
     | 0, hk =>
      cases hk
      simp only [List.mem_cons, List.not_mem_nil, or_false] at hs
      rcases hs with rfl
      · cases ho
        have e : u 0 = .agg #[.bool x2_7, .slice y2_7 z2_7 c2_7, .bool x22_7, .slice y22_7 z22_7 c22_7] := hM.kd 0
        refine ⟨rfl, rfl, ?_, ?_, kStore ?_ rfl ((hM.ol 4).trans (show _ = Value.pointer (some ⟨lc 0, 0, none⟩) from by rw [show lc 0 = (lc1 2) from hM.locO 0 _ rfl rfl]; rfl)) (hM.v 0 16 rfl) hc ?_ ?_⟩ <;> rw [e]
        · exact Nat.le_of_ble_eq_true rfl
        · rfl
        · exact sz26
        · rw [hcs]; exact Nat.le_of_ble_eq_true rfl
        · rfl
     | zk + 1, hk => simp at hk
    case en4 =>
     intro u4 lc4 W4 hK4 hB4 hO4 hV4 hX4 hA4
     have e4_0 := kv (hV4 0 16 rfl) rfl
     obtain ⟨qr, ho, hl⟩ := hX4 0 _ rfl
     have elc : lc4 0 = (lc1 2) := ho rfl
     rw [elc] at qr
     have f4_0 := f3_6.kept hK4
     have q4_0 : W4.heap[(lc1 2)]? = some (.cells #[.bool x2_7, .slice y2_7 z2_7 c2_7, .bool x22_7, .slice y22_7 z22_7 c22_7] 26) := by
      rw [contAll_one rfl (cs := #[.bool x2_7, .slice y2_7 z2_7 c2_7, .bool x22_7, .slice y22_7 z22_7 c22_7]) (by rw [e4_0]; rfl) rfl] at qr; exact qr
     simp only [putK, fC, fN, kZ, vV, sI, sZ, sS]
     have hBt4 := hBt3.trans hB4
     clear hV4 hX4 hA4
     have cr0 := cell_of q4_0 0 rfl
     have cr1 := cell_of q4_0 1 rfl
     have cr2 := cell_of q4_0 2 rfl
     have cr3 := cell_of q4_0 3 rfl
     go_wp2
     exact bodyPost_ret (v := .agg #[.bool x2_7, .slice y2_7 z2_7 c2_7, .bool x22_7, .slice y22_7 z22_7 c22_7]) (by simp [results, Tryz.results36, go_sem, cr0, cr1, cr2, cr3]) rfl ⟨_, rfl, f4_0, hBt4⟩
set_option maxRecDepth 100000 in
set_option maxHeartbeats 4000000 in
theorem c38 {r s : Rat} {v0 v1 : Value} {w : World} (hr : Fs r) (hs : Fs s) (h0s : s ≠ 0) (hz : decide (s.num = 0) = false) (ht : Fs (r * s⁻¹)) (h0 : Is (frq r) v0 w) (h1 : Is (frq s) v1 w) : Calls Tryz.prog 38 #[v0, v1] w (Ret (.k (frq (r * s⁻¹))) w) := by
 obtain ⟨ya0, yp0, yl0, yd0, ye0, yq0, ym0, yr0, rfl, yg0, yk0⟩ := id h0
 replace yg0 : Is (num r.num) (.agg #[.bool ya0, .slice yp0 yl0 yd0]) w := yg0
 replace yk0 : Is (num ((r.den : Nat) : Int)) (.agg #[.bool ye0, .slice yq0 ym0 yr0]) w := yk0
 obtain ⟨ya1, yp1, yl1, yd1, ye1, yq1, ym1, yr1, rfl, yg1, yk1⟩ := id h1
 replace yg1 : Is (num s.num) (.agg #[.bool ya1, .slice yp1 yl1 yd1]) w := yg1
 replace yk1 : Is (num ((s.den : Nat) : Int)) (.agg #[.bool ye1, .slice yq1 ym1 yr1]) w := yk1
 have hB0 := Below.refl w.heap.size w
 have HR := Lib.hid hr
 have HS := Lib.hid hs
 have H0S := Lib.hid h0s
 have HZ := Lib.hid hz
 have HT := Lib.hid ht
 clear hr hs h0s hz ht
 go_enter Tryz.func38, Tryz.ntmps38
 go_upto_region 0 with fail
 refine rg (n := 9) (t16 := 48) w.heap.size [] [.any, .any, .any] [(0, 2), (1, 3), (2, 4)] [⟨26, some 0, 0, pt, 4, [.c #[.bool ya0, .slice yp0 yl0 yd0, .bool ye0, .slice yq0 ym0 yr0]], []⟩, ⟨26, some 1, 0, pt, 4, [.c #[.bool ya1, .slice yp1 yl1 yd1, .bool ye1, .slice yq1 ym1 yr1]], []⟩, ⟨26, some 2, 0, pt, 4, [.c #[.bool false, .slice none 0 0, .bool false, .slice none 0 0]], []⟩] ?ok1 ?st1 ?al1 ?pu1 ?en1
 case ok1 => exact BxOK.fresh rfl hB0.size
 case st1 =>
  intro zi zo ho hro a' u lc W hM
  match zi, ho, hro with
  | 0, _, hro => exact nr1 hro (by kernel_rfl)
  | 1, _, hro => exact nr1 hro (by kernel_rfl)
  | 2, _, hro => exact nr1 hro (by kernel_rfl)
  | zk + 3, ho, _ => simp at ho
 case al1 =>
  intro zk zb zi zo hk ha ho a' u lc W hM
  match zk, hk with
  | 0, hk => cases hk; cases ha; cases ho; exact ⟨rfl, rfl, rfl, rfl, kBox rfl (hM.ol 0)⟩
  | 1, hk => cases hk; cases ha; cases ho; exact ⟨rfl, rfl, rfl, rfl, kBox rfl (hM.ol 1)⟩
  | 2, hk => cases hk; cases ha; cases ho; exact ⟨rfl, rfl, rfl, rfl, kAlloc26 rfl⟩
  | zk + 3, hk => simp at hk
 case pu1 =>
  intro zk zb zs zo hk hs ho a' u lc W zc hM hc hcs
  match zk, hk with
  | 0, hk => cases hk; simp at hs
  | 1, hk => cases hk; simp at hs
  | 2, hk => cases hk; simp at hs
  | zk + 3, hk => simp at hk
 case en1 =>
  intro u1 lc1 W1 hK1 hB1 hO1 hV1 hX1 hA1
  obtain ⟨qr, ho, hl⟩ := hX1 0 _ rfl
  have e1_0 : u1 0 = .pointer (some ⟨lc1 0, 0, none⟩) := (hl 0 rfl).1
  have g1_0 := (hl 0 rfl).2
  have f1_0 := h0.kept hK1
  have q1_0 : W1.heap[(lc1 0)]? = some (.cells #[.bool ya0, .slice yp0 yl0 yd0, .bool ye0, .slice yq0 ym0 yr0] 26) := by
   exact qr
  obtain ⟨qr, ho, hl⟩ := hX1 1 _ rfl
  have e1_1 : u1 1 = .pointer (some ⟨lc1 1, 0, none⟩) := (hl 1 rfl).1
  have g1_1 := (hl 1 rfl).2
  have f1_3 := h1.kept hK1
  have q1_1 : W1.heap[(lc1 1)]? = some (.cells #[.bool ya1, .slice yp1 yl1 yd1, .bool ye1, .slice yq1 ym1 yr1] 26) := by
   exact qr
  obtain ⟨qr, ho, hl⟩ := hX1 2 _ rfl
  have e1_2 : u1 2 = .pointer (some ⟨lc1 2, 0, none⟩) := (hl 2 rfl).1
  have g1_2 := (hl 2 rfl).2
  have q1_2 : W1.heap[(lc1 2)]? = some (.cells #[.bool false, .slice none 0 0, .bool false, .slice none 0 0] 26) := by
   exact qr
  have ne1_0_2 := hA1 0 2 _ _ rfl rfl (by decide)
  have ne1_1_2 := hA1 1 2 _ _ rfl rfl (by decide)
  simp only [putK, fC, fN, kZ, kS, vA, sI, sZ, sS, e1_0, e1_1, e1_2]
  have hBt1 := hB0.trans hB1
  clear hV1 hX1 hA1
  go_upto_region 1 with fail
  refine rg (n := 9) (t16 := 48) w.heap.size [] [.val (.agg #[.bool ya0, .slice yp0 yl0 yd0, .bool ye0, .slice yq0 ym0 yr0]), .val (.agg #[.bool ya1, .slice yp1 yl1 yd1, .bool ye1, .slice yq1 ym1 yr1]), .k (tup2 (.k (frq (r * s⁻¹))) (.val (.int .i64 0))), .k (tup2 (.k (frq (r * s⁻¹))) (.val (.int .i64 0))), .k (frq (r * s⁻¹)), .val (.int .i64 0), .any, .any, .val (.int .i64 0)] [(0, 8), (1, 9), (2, 10), (3, 7), (4, 11), (5, 12), (6, 5), (8, 6)] [⟨26, some 6, 0, pt, 4, [.c #[.bool false, .slice none 0 0, .bool false, .slice none 0 0]], [(7, 0, 4)]⟩] ?ok2 ?st2 ?al2 ?pu2 ?en2
  case ok2 => exact BxOK.fresh rfl hBt1.size
  case st2 =>
   intro zi zo ho hro a' u lc W hM
   match zi, ho, hro with
   | 0, ho, _ => cases ho; exact wn (kL26 rfl (hM.ol 2) (hM.o0 q1_0))
   | 1, ho, _ => cases ho; exact wn (kL26 rfl (hM.ol 3) (hM.o0 q1_1))
   | 2, ho, _ => cases ho; exact wn (kCall2 rfl may40 (hM.d 0 8 rfl) (hM.d 1 9 rfl) (c40 HR.out HS.out H0S.out HZ.out HT.out (f1_0.kept hM.kept) (f1_3.kept hM.kept)))
   | 3, ho, _ => cases ho; exact wn (kMove rfl (hM.d 2 10 rfl))
   | 4, ho, _ => cases ho; exact wn (kEx20 rfl (hM.d 3 7 rfl))
   | 5, ho, _ => cases ho; exact wn (kEx21 rfl (hM.d 3 7 rfl))
   | 6, _, hro => exact nr1 hro (by kernel_rfl)
   | 7, _, hro => exact nr1 hro (by kernel_rfl)
   | 8, ho, _ => cases ho; exact wn (kAssign rfl (hM.d 5 12 rfl))
   | zk + 9, ho, _ => simp at ho
  case al2 =>
   intro zk zb zi zo hk ha ho a' u lc W hM
   match zk, hk with
   | 0, hk => cases hk; cases ha; cases ho; exact ⟨rfl, rfl, rfl, rfl, kAlloc26 rfl⟩
   | zk + 1, hk => simp at hk
  case pu2 =>
   intro zk zb zs zo hk hs ho a' u lc W zc hM hc hcs
   match zk, hk with
   | 0, hk =>
    cases hk
    simp only [List.mem_cons, List.not_mem_nil, or_false] at hs
    rcases hs with rfl
    · cases ho
      obtain ⟨sb, sp, sl, sc, sb2, sp2, sl2, sc2, e, _⟩ := (show Is (frq (r * s⁻¹)) (u 4) W from (hM.kd 4))
      refine ⟨rfl, rfl, ?_, ?_, kStore ?_ rfl ((hM.v 6 5 rfl).trans (hM.loc 0 _ 6 rfl rfl (by kernel_rfl))) (hM.v 4 11 rfl) hc ?_ ?_⟩ <;> rw [e]
      · exact Nat.le_of_ble_eq_true rfl
      · rfl
      · exact sz26
      · rw [hcs]; exact Nat.le_of_ble_eq_true rfl
      · rfl
   | zk + 1, hk => simp at hk
  case en2 =>
   intro u2 lc2 W2 hK2 hB2 hO2 hV2 hX2 hA2
   have e2_0 := kv (hV2 0 8 rfl) rfl
   have k2_4 := kk (hV2 4 11 rfl) rfl
   obtain ⟨qr, ho, hl⟩ := hX2 0 _ rfl
   have e2_6 : u2 6 = .pointer (some ⟨lc2 0, 0, none⟩) := (hl 6 rfl).1
   have g2_0 := (hl 6 rfl).2
   obtain ⟨x2_7, y2_7, z2_7, c2_7, x22_7, y22_7, z22_7, c22_7, es2_7, sa2_7, sb2_7⟩ := id k2_4
   have sk2_7 : Is (frq (r * s⁻¹)) (.agg #[.bool x2_7, .slice y2_7 z2_7 c2_7, .bool x22_7, .slice y22_7 z22_7 c22_7]) W2 := by rw [← es2_7]; exact k2_4
   have q2_0 : W2.heap[(lc2 0)]? = some (.cells #[.bool x2_7, .slice y2_7 z2_7 c2_7, .bool x22_7, .slice y22_7 z22_7 c22_7] 26) := by
    rw [contAll_one rfl (cs := #[.bool x2_7, .slice y2_7 z2_7 c2_7, .bool x22_7, .slice y22_7 z22_7 c22_7]) (by rw [es2_7]; rfl) rfl] at qr; exact qr
   have ne2_0_1_2 := Nat.ne_of_lt (Nat.lt_of_lt_of_le (Array.getElem?_eq_some_iff.1 q1_2).1 g2_0)
   have q2_1_2 := oth0 hO2 q1_2
   simp only [putK, fC, fN, kZ, kS, vV, vA, vK, sI, sZ, sS, e2_6]
   have hBt2 := hBt1.trans hB2
   clear hV2 hX2 hA2
   go_upto_region 2 with fail
   refine rg0 (n := 9) (t16 := 48) w.heap.size [.val (.int .i64 0), .val (.bool false)] [(0, 13), (1, 14)] hBt2.size ?st3 ?en3
   case st3 =>
    intro zi zo ho hro a' u lc W hM
    match zi, ho, hro with
    | 0, ho, _ => cases ho; exact wn (kMove rfl (hM.ol 6))
    | 1, ho, _ => cases ho; exact wn (kNeq29 rfl (hM.d 0 13 rfl) rfl (by decide))
    | zk + 2, ho, _ => simp at ho
   case en3 =>
    intro u3 lc3 W3 hK3 hB3 hO3 hV3 hX3 hA3
    have q3_1_2 := oth0 hO3 q2_1_2
    have q3_2_0 := oth0 hO3 q2_0
    have f3_6 := sk2_7.kept hK3
    simp only [putK, fC, fN, kZ, kS, vV, sI, sZ, sS]
    have hBt3 := hBt2.trans hB3
    clear hV3 hX3 hA3
    go_upto_region 4 with fail
    refine rg (n := 9) (t16 := 48) w.heap.size [(lc1 2)] [.val (.agg #[.bool x2_7, .slice y2_7 z2_7 c2_7, .bool x22_7, .slice y22_7 z22_7 c22_7]), .any] [(0, 16)] [⟨26, none, (lc1 2), pt, 4, [.c #[.bool false, .slice none 0 0, .bool false, .slice none 0 0]], [(1, 0, 0)]⟩] ?ok4 ?st4 ?al4 ?pu4 ?en4
    case ok4 => exact BxOK.one ⟨(Nat.le_trans hB0.size g1_2), ⟨_, q3_1_2, rfl, rfl, rfl⟩, by simp, (by decide : (26 : Nat) ≠ 48)⟩ rfl hBt3.size
    case st4 =>
     intro zi zo ho hro a' u lc W hM
     match zi, ho, hro with
     | 0, ho, _ => cases ho; exact wn (kL26 rfl (hM.ol 5) (hM.o1 q3_2_0 (by omega)))
     | 1, _, hro => exact nr1 hro (by kernel_rfl)
     | zk + 2, ho, _ => simp at ho
    case al4 =>
     intro zk zb zi zo hk ha ho a' u lc W hM
     match zk, hk with
     | 0, hk => cases hk; cases ha
     | zk + 1, hk => simp at hk
    case pu4 =>
     intro zk zb zs zo hk hs ho a' u lc W zc hM hc hcs
     match zk, hk with
     | 0, hk =>
      cases hk
      simp only [List.mem_cons, List.not_mem_nil, or_false] at hs
      rcases hs with rfl
      · cases ho
        have e : u 0 = .agg #[.bool x2_7, .slice y2_7 z2_7 c2_7, .bool x22_7, .slice y22_7 z22_7 c22_7] := hM.kd 0
        refine ⟨rfl, rfl, ?_, ?_, kStore ?_ rfl ((hM.ol 4).trans (show _ = Value.pointer (some ⟨lc 0, 0, none⟩) from by rw [show lc 0 = (lc1 2) from hM.locO 0 _ rfl rfl]; rfl)) (hM.v 0 16 rfl) hc ?_ ?_⟩ <;> rw [e]
        · exact Nat.le_of_ble_eq_true rfl
        · rfl
        · exact sz26
        · rw [hcs]; exact Nat.le_of_ble_eq_true rfl
        · rfl
     | zk + 1, hk => simp at hk
    case en4 =>
     intro u4 lc4 W4 hK4 hB4 hO4 hV4 hX4 hA4
     have e4_0 := kv (hV4 0 16 rfl) rfl
     obtain ⟨qr, ho, hl⟩ := hX4 0 _ rfl
     have elc : lc4 0 = (lc1 2) := ho rfl
     rw [elc] at qr
     have f4_0 := f3_6.kept hK4
     have q4_0 : W4.heap[(lc1 2)]? = some (.cells #[.bool x2_7, .slice y2_7 z2_7 c2_7, .bool x22_7, .slice y22_7 z22_7 c22_7] 26) := by
      rw [contAll_one rfl (cs := #[.bool x2_7, .slice y2_7 z2_7 c2_7, .bool x22_7, .slice y22_7 z22_7 c22_7]) (by rw [e4_0]; rfl) rfl] at qr; exact qr
     simp only [putK, fC, fN, kZ, vV, sI, sZ, sS]
     have hBt4 := hBt3.trans hB4
     clear hV4 hX4 hA4
     have cr0 := cell_of q4_0 0 rfl
     have cr1 := cell_of q4_0 1 rfl
     have cr2 := cell_of q4_0 2 rfl
     have cr3 := cell_of q4_0 3 rfl
     go_wp2
     exact bodyPost_ret (v := .agg #[.bool x2_7, .slice y2_7 z2_7 c2_7, .bool x22_7, .slice y22_7 z22_7 c22_7]) (by simp [results, Tryz.results38, go_sem, cr0, cr1, cr2, cr3]) rfl ⟨_, rfl, f4_0, hBt4⟩
set_option maxRecDepth 100000 in
set_option maxHeartbeats 4000000 in
theorem c32 {r s : Rat} {t : Bool} {v0 v1 : Value} {w : World} (hr : Fs r) (hs : Fs s) (ht : decide (r = s) = t) (h0 : Is (frq r) v0 w) (h1 : Is (frq s) v1 w) : Calls Tryz.prog 32 #[v0, v1] w (Ret (.val (.bool t)) w) := by
 obtain ⟨ya0, yp0, yl0, yd0, ye0, yq0, ym0, yr0, rfl, yg0, yk0⟩ := id h0
 replace yg0 : Is (num r.num) (.agg #[.bool ya0, .slice yp0 yl0 yd0]) w := yg0
 replace yk0 : Is (num ((r.den : Nat) : Int)) (.agg #[.bool ye0, .slice yq0 ym0 yr0]) w := yk0
 obtain ⟨ya1, yp1, yl1, yd1, ye1, yq1, ym1, yr1, rfl, yg1, yk1⟩ := id h1
 replace yg1 : Is (num s.num) (.agg #[.bool ya1, .slice yp1 yl1 yd1]) w := yg1
 replace yk1 : Is (num ((s.den : Nat) : Int)) (.agg #[.bool ye1, .slice yq1 ym1 yr1]) w := yk1
 have hB0 := Below.refl w.heap.size w
 have HR := Lib.hid hr
 have HS := Lib.hid hs
 have HT := Lib.hid ht
 clear hr hs ht
 go_enter Tryz.func32, Tryz.ntmps32
 go_upto_region 0 with fail
 refine rg (n := 9) (t16 := 48) w.heap.size [] [.any, .any, .val (.bool false)] [(0, 2), (1, 3), (2, 4)] [⟨26, some 0, 0, pt, 4, [.c #[.bool ya0, .slice yp0 yl0 yd0, .bool ye0, .slice yq0 ym0 yr0]], []⟩, ⟨26, some 1, 0, pt, 4, [.c #[.bool ya1, .slice yp1 yl1 yd1, .bool ye1, .slice yq1 ym1 yr1]], []⟩] ?ok1 ?st1 ?al1 ?pu1 ?en1
 case ok1 => exact BxOK.fresh rfl hB0.size
 case st1 =>
  intro zi zo ho hro a' u lc W hM
  match zi, ho, hro with
  | 0, _, hro => exact nr1 hro (by kernel_rfl)
  | 1, _, hro => exact nr1 hro (by kernel_rfl)
  | 2, ho, _ => cases ho; exact wn (kAssign rfl rfl)
  | zk + 3, ho, _ => simp at ho
 case al1 =>
  intro zk zb zi zo hk ha ho a' u lc W hM
  match zk, hk with
  | 0, hk => cases hk; cases ha; cases ho; exact ⟨rfl, rfl, rfl, rfl, kBox rfl (hM.ol 0)⟩
  | 1, hk => cases hk; cases ha; cases ho; exact ⟨rfl, rfl, rfl, rfl, kBox rfl (hM.ol 1)⟩
  | zk + 2, hk => simp at hk
 case pu1 =>
  intro zk zb zs zo hk hs ho a' u lc W zc hM hc hcs
  match zk, hk with
  | 0, hk => cases hk; simp at hs
  | 1, hk => cases hk; simp at hs
  | zk + 2, hk => simp at hk
 case en1 =>
  intro u1 lc1 W1 hK1 hB1 hO1 hV1 hX1 hA1
  obtain ⟨qr, ho, hl⟩ := hX1 0 _ rfl
  have e1_0 : u1 0 = .pointer (some ⟨lc1 0, 0, none⟩) := (hl 0 rfl).1
  have g1_0 := (hl 0 rfl).2
  have f1_0 := h0.kept hK1
  have q1_0 : W1.heap[(lc1 0)]? = some (.cells #[.bool ya0, .slice yp0 yl0 yd0, .bool ye0, .slice yq0 ym0 yr0] 26) := by
   exact qr
  obtain ⟨qr, ho, hl⟩ := hX1 1 _ rfl
  have e1_1 : u1 1 = .pointer (some ⟨lc1 1, 0, none⟩) := (hl 1 rfl).1
  have g1_1 := (hl 1 rfl).2
  have f1_3 := h1.kept hK1
  have q1_1 : W1.heap[(lc1 1)]? = some (.cells #[.bool ya1, .slice yp1 yl1 yd1, .bool ye1, .slice yq1 ym1 yr1] 26) := by
   exact qr
  simp only [putK, fC, fN, kZ, kS, vV, vA, sI, sZ, sS, e1_0, e1_1]
  have hBt1 := hB0.trans hB1
  clear hV1 hX1 hA1
  go_upto_region 1 with fail
  refine rg0 (n := 9) (t16 := 48) w.heap.size [.val (.agg #[.bool ya0, .slice yp0 yl0 yd0, .bool ye0, .slice yq0 ym0 yr0]), .val (.bool true), .val (.bool true), .val (.agg #[.bool ya1, .slice yp1 yl1 yd1, .bool ye1, .slice yq1 ym1 yr1]), .val (.bool true), .val (.bool true), .val (.bool true), .val (.agg #[.bool ya0, .slice yp0 yl0 yd0, .bool ye0, .slice yq0 ym0 yr0]), .val (.agg #[.bool ya1, .slice yp1 yl1 yd1, .bool ye1, .slice yq1 ym1 yr1]), .val (.bool t), .val (.bool t), .val (.bool t)] [(0, 5), (1, 6), (2, 7), (3, 8), (4, 9), (5, 10), (6, 11), (7, 12), (8, 13), (9, 14), (10, 15), (11, 4)] hBt1.size ?st2 ?en2
  case st2 =>
   intro zi zo ho hro a' u lc W hM
   match zi, ho, hro with
   | 0, ho, _ => cases ho; exact wn (kL26 rfl (hM.ol 2) (hM.o0 q1_0))
   | 1, ho, _ => cases ho; exact wn (kCall1 rfl may44 (hM.d 0 5 rfl) (c44_ok HR.out (f1_0.kept hM.kept)))
   | 2, ho, _ => cases ho; exact wn (kMove rfl (hM.d 1 6 rfl))
   | 3, ho, _ => cases ho; exact hM.wg (hM.d 2 7 rfl) (kL26 rfl (hM.ol 3) (hM.o0 q1_1))
   | 4, ho, _ => cases ho; exact hM.wg (hM.d 2 7 rfl) (kCall1 rfl may44 (hM.d 3 8 rfl) (c44_ok HS.out (f1_3.kept hM.kept)))
   | 5, ho, _ => cases ho; exact wn (kPick rfl (hM.d 2 7 rfl) (hM.d 4 9 rfl))
   | 6, ho, _ => cases ho; exact wn (kMove rfl (hM.d 5 10 rfl))
   | 7, ho, _ => cases ho; exact hM.wg (hM.d 6 11 rfl) (kL26 rfl (hM.ol 2) (hM.o0 q1_0))
   | 8, ho, _ => cases ho; exact hM.wg (hM.d 6 11 rfl) (kL26 rfl (hM.ol 3) (hM.o0 q1_1))
   | 9, ho, _ => cases ho; exact hM.wg (hM.d 6 11 rfl) (kCall2 rfl may47 (hM.d 7 12 rfl) (hM.d 8 13 rfl) (c47q HT.out (f1_0.kept hM.kept) (f1_3.kept hM.kept)))
   | 10, ho, _ => cases ho; exact wn (kPick rfl (hM.d 6 11 rfl) (hM.d 9 14 rfl))
   | 11, ho, _ => cases ho; exact wn (kAssign rfl (hM.d 10 15 rfl))
   | zk + 12, ho, _ => simp at ho
  case en2 =>
   intro u2 lc2 W2 hK2 hB2 hO2 hV2 hX2 hA2
   simp only [putK, fC, fN, kZ, kS, vV, sI, sZ, sS]
   have hBt2 := hBt1.trans hB2
   clear hV2 hX2 hA2
   go_wp2
   exact bodyPost_ret (v := .bool t) (by simp [results, Tryz.results32, go_sem]) rfl ⟨_, rfl, rfl, hBt2⟩
end Go.Proofs.YtihdbjilolmfiaaGreatDoor
namespace Go.Proofs.YtihdbjilolmfiaaGreatDoor
open Go.RowKit Go.WM Go.WR
attribute [local go_sem] Oper.semAt_some
variable {n : Nat} {o : Oper} {a : Act} {w : World}
theorem kSlice3 {x y z : Nat} {b1 s1 b2 s2 b3 s3 b4 s4 b5 s5 b6 s6 : Value} (ho : o.op = .buildSlice 38 3 #[(0, .tmp x), (1, .tmp y), (2, .tmp z)]) (hx : a.tmps.getD x undef = .agg #[b1, s1, b2, s2]) (hy : a.tmps.getD y undef = .agg #[b3, s3, b4, s4]) (hz : a.tmps.getD z undef = .agg #[b5, s5, b6, s6]) :
 Op1 n Tryz.prog o a w (fun v W' => v = .slice (some ⟨w.heap.size, 0, none⟩) 3 3 ∧ W' = w.alloc (.cells #[b1, s1, b2, s2, b3, s3, b4, s4, b5, s5, b6, s6] 26)) := by
 refine Op1.of_run (v := .slice (some ⟨w.heap.size, 0, none⟩) 3 3) (w' := w.alloc (.cells #[b1, s1, b2, s2, b3, s3, b4, s4, b5, s5, b6, s6] 26)) ?_ ⟨rfl, rfl⟩
 unfold execOp
 rw [ho]
 simp only [Array.getD_eq_getD_getElem?] at hx hy hz
 simp [go_sem, hx, hy, hz]
end Go.Proofs.YtihdbjilolmfiaaGreatDoor
namespace Go.Proofs.YtihdbjilolmfiaaGreatDoor
open Go.RowKit Go.WM Go.WR
theorem Fz.fs {n : Nat} {q : Rat} (h : Fz n q) (hn : n ≤ 256) : Fs q := by
 have h1 := h.mono hn
 unfold Fs
 rw [CapF.eq]
 exact h1
theorem Fz.mul {a b : Nat} {r s : Rat} (hr : Fz a r) (hs : Fz b s) : Fz (a + b) (r * s) := by
 constructor
 · rw [mul_num']; exact mul_pw (ediv_abs hr.1) (ediv_abs hs.1)
 · rw [mul_den']; exact mul_pw (ediv_abs hr.2) (ediv_abs hs.2)
theorem Fz.inv {a : Nat} {r : Rat} (h : Fz a r) (hr : r ≠ 0) : Fz a r⁻¹ := by
 obtain ⟨e1, e2⟩ := inv_parts r hr
 have hp := rat_pos r
 have h1 := h.1
 have h2 := h.2
 constructor
 · rw [e1]; split <;> omega
 · rw [e2]; split <;> omega
end Go.Proofs.YtihdbjilolmfiaaGreatDoor
namespace Go.Proofs.YtihdbjilolmfiaaGreatDoor
open Go.RowKit Go.WM Go.WR
attribute [local go_sem] Oper.semAt_some
theorem c33_0 {w : World} : Calls Tryz.prog 33 #[.int .i64 0] w (Ret (.k (fr (0 : Rat).num (((0 : Rat).den : Nat) : Int))) w) := c33 (k := 0) (by decide) (by decide)
theorem c33_1 {w : World} : Calls Tryz.prog 33 #[.int .i64 1] w (Ret (.k (fr (1 : Rat).num (((1 : Rat).den : Nat) : Int))) w) := c33 (k := 1) (by decide) (by decide)
theorem c39q {r : Rat} {v0 : Value} {w : World} (hr : Fs r) (h0 : Is (fr r.num ((r.den : Nat) : Int)) v0 w) : Calls Tryz.prog 39 #[v0] w (Ret (.k (tup2 (.k (fr (-r).num (((-r).den : Nat) : Int))) (.val (.int .i64 0)))) w) := by
 have h := c39 hr h0
 rw [← Rat.neg_num] at h
 exact h
theorem fe0 (a b _ : Rat) : decide ((a + b) = (b + a)) = true := decide_eq_true (by grind)
theorem fe1 (a b _ : Rat) : decide ((a * b) = (b * a)) = true := decide_eq_true (by grind)
theorem fe2 (a b c : Rat) : decide (((a + b) + c) = (a + (b + c))) = true := decide_eq_true (by grind)
theorem fe3 (a b c : Rat) : decide (((a * b) * c) = (a * (b * c))) = true := decide_eq_true (by grind)
theorem fe4 (a b c : Rat) : decide ((a * (b + c)) = ((a * b) + (a * c))) = true := decide_eq_true (by grind)
theorem fe5 (a _ _ : Rat) : decide ((a + (0 : Rat)) = a) = true := decide_eq_true (by grind)
theorem fe6 (a _ _ : Rat) : decide ((a * (1 : Rat)) = a) = true := decide_eq_true (by grind)
theorem fe7 (a b _ : Rat) : decide (((a + b) + -b) = a) = true := decide_eq_true (by grind)
theorem fe8 (a _ _ : Rat) : decide ((a + ((0 : Rat) + -a)) = (0 : Rat)) = true := decide_eq_true (by grind)
theorem fe9 (a _ _ : Rat) : decide ((-a) = ((0 : Rat) + -a)) = true := decide_eq_true (by grind)
theorem fe10 (a b _ : Rat) (hb : b ≠ 0) : decide (((a * b) * b⁻¹) = a) = true := decide_eq_true (by grind)
theorem fe11 (a b _ : Rat) (hb : b ≠ 0) : decide (((a * b⁻¹) * b) = a) = true := decide_eq_true (by grind)
theorem fe12 (_ b _ : Rat) (hb : b ≠ 0) : decide ((b * ((1 : Rat) * b⁻¹)) = (1 : Rat)) = true := decide_eq_true (by grind)
set_option maxRecDepth 100000 in
set_option maxHeartbeats 4000000 in
theorem field_yes {a b c : Rat} {na0 nb0 na1 nb1 na2 nb2 : Bool} {Za0 Zb0 Za1 Zb1 Za2 Zb2 : List Int} {v0 v1 v2 : Value} {w : World} (us : true = true ↔ Us na0 Za0 nb0 Zb0 ∧ Us na1 Za1 nb1 Zb1 ∧ Us na2 Za2 nb2 Zb2) (rl0 : RawL Za0 Zb0) (k0 : Is (frw na0 Za0 nb0 Zb0) v0 w) (ha : Fz 40 a) (h0 : Is (frq a) v0 w) (rl1 : RawL Za1 Zb1) (k1 : Is (frw na1 Za1 nb1 Zb1) v1 w) (hb : Fz 40 b) (h1 : Is (frq b) v1 w) (rl2 : RawL Za2 Zb2) (k2 : Is (frw na2 Za2 nb2 Zb2) v2 w) (hc : Fz 40 c) (h2 : Is (frq c) v2 w)  : Calls Tryz.prog 8 #[v0, v1, v2] w (Ret (.val (.bool true)) w) := by
 obtain ⟨ya0, yp0, yl0, yd0, ye0, yq0, ym0, yr0, rfl, yg0, yk0⟩ := id h0
 replace yg0 : Is (num a.num) (.agg #[.bool ya0, .slice yp0 yl0 yd0]) w := yg0
 replace yk0 : Is (num ((a.den : Nat) : Int)) (.agg #[.bool ye0, .slice yq0 ym0 yr0]) w := yk0
 obtain ⟨ya1, yp1, yl1, yd1, ye1, yq1, ym1, yr1, rfl, yg1, yk1⟩ := id h1
 replace yg1 : Is (num b.num) (.agg #[.bool ya1, .slice yp1 yl1 yd1]) w := yg1
 replace yk1 : Is (num ((b.den : Nat) : Int)) (.agg #[.bool ye1, .slice yq1 ym1 yr1]) w := yk1
 obtain ⟨ya2, yp2, yl2, yd2, ye2, yq2, ym2, yr2, rfl, yg2, yk2⟩ := id h2
 replace yg2 : Is (num c.num) (.agg #[.bool ya2, .slice yp2 yl2 yd2]) w := yg2
 replace yk2 : Is (num ((c.den : Nat) : Int)) (.agg #[.bool ye2, .slice yq2 ym2 yr2]) w := yk2
 have HUS := Lib.hid us
 have HRL0 := Lib.hid rl0
 have HA := Lib.hid ha
 have HRL1 := Lib.hid rl1
 have HB := Lib.hid hb
 have HRL2 := Lib.hid rl2
 have HC := Lib.hid hc
 clear us rl0 ha rl1 hb rl2 hc
 have hB0 := Below.refl w.heap.size w
 go_enter Tryz.func8, Tryz.ntmps8
 go_upto_region 0 with fail
 refine rg (n := 9) (t16 := 48) w.heap.size [] [.any, .any, .any, .val (.bool false)] [(0, 3), (1, 4), (2, 5), (3, 6)] [⟨26, some 0, 0, pt, 4, [.c #[.bool ya0, .slice yp0 yl0 yd0, .bool ye0, .slice yq0 ym0 yr0]], []⟩, ⟨26, some 1, 0, pt, 4, [.c #[.bool ya1, .slice yp1 yl1 yd1, .bool ye1, .slice yq1 ym1 yr1]], []⟩, ⟨26, some 2, 0, pt, 4, [.c #[.bool ya2, .slice yp2 yl2 yd2, .bool ye2, .slice yq2 ym2 yr2]], []⟩] ?ok1 ?st1 ?al1 ?pu1 ?en1
 case ok1 => exact BxOK.fresh rfl hB0.size
 case st1 =>
  intro zi zo ho hro a' u lc W hM
  match zi, ho, hro with
  | 0, _, hro => exact nr1 hro (by kernel_rfl)
  | 1, _, hro => exact nr1 hro (by kernel_rfl)
  | 2, _, hro => exact nr1 hro (by kernel_rfl)
  | 3, ho, _ => cases ho; exact wn (kAssign rfl rfl)
  | zk + 4, ho, _ => simp at ho
 case al1 =>
  intro zk zb zi zo hk ha ho a' u lc W hM
  match zk, hk with
  | 0, hk => cases hk; cases ha; cases ho; exact ⟨rfl, rfl, rfl, rfl, kBox rfl (hM.ol 0)⟩
  | 1, hk => cases hk; cases ha; cases ho; exact ⟨rfl, rfl, rfl, rfl, kBox rfl (hM.ol 1)⟩
  | 2, hk => cases hk; cases ha; cases ho; exact ⟨rfl, rfl, rfl, rfl, kBox rfl (hM.ol 2)⟩
  | zk + 3, hk => simp at hk
 case pu1 =>
  intro zk zb zs zo hk hs ho a' u lc W zc hM hc hcs
  match zk, hk with
  | 0, hk => cases hk; simp at hs
  | 1, hk => cases hk; simp at hs
  | 2, hk => cases hk; simp at hs
  | zk + 3, hk => simp at hk
 case en1 =>
  intro u1 lc1 W1 hK1 hB1 hO1 hV1 hX1 hA1
  obtain ⟨qr, ho, hl⟩ := hX1 0 _ rfl
  have e1_0 : u1 0 = .pointer (some ⟨lc1 0, 0, none⟩) := (hl 0 rfl).1
  have g1_0 := (hl 0 rfl).2
  have f1_0 := h0.kept hK1
  have f1_3 := k0.kept hK1
  have q1_0 : W1.heap[(lc1 0)]? = some (.cells #[.bool ya0, .slice yp0 yl0 yd0, .bool ye0, .slice yq0 ym0 yr0] 26) := by
   exact qr
  obtain ⟨qr, ho, hl⟩ := hX1 1 _ rfl
  have e1_1 : u1 1 = .pointer (some ⟨lc1 1, 0, none⟩) := (hl 1 rfl).1
  have g1_1 := (hl 1 rfl).2
  have f1_4 := h1.kept hK1
  have f1_5 := yg1.kept hK1
  have f1_7 := k1.kept hK1
  have q1_1 : W1.heap[(lc1 1)]? = some (.cells #[.bool ya1, .slice yp1 yl1 yd1, .bool ye1, .slice yq1 ym1 yr1] 26) := by
   exact qr
  obtain ⟨qr, ho, hl⟩ := hX1 2 _ rfl
  have e1_2 : u1 2 = .pointer (some ⟨lc1 2, 0, none⟩) := (hl 2 rfl).1
  have g1_2 := (hl 2 rfl).2
  have f1_8 := h2.kept hK1
  have f1_11 := k2.kept hK1
  have q1_2 : W1.heap[(lc1 2)]? = some (.cells #[.bool ya2, .slice yp2 yl2 yd2, .bool ye2, .slice yq2 ym2 yr2] 26) := by
   exact qr
  simp only [putK, fC, fN, kZ, kS, vV, vA, sI, sZ, sS, e1_0, e1_1, e1_2]
  have hBt1 := hB0.trans hB1
  clear hV1 hX1 hA1
  go_upto_region 1 with fail
  refine rg0 (n := 9) (t16 := 48) w.heap.size [.val (.bool true), .val (.bool false)] [(0, 13), (1, 14)] hBt1.size ?st2 ?en2
  case st2 =>
   intro zi zo ho hro a' u lc W hM
   match zi, ho, hro with
   | 0, ho, _ => cases ho; exact wn (kCall0 rfl may16 (c16))
   | 1, ho, _ => cases ho; exact wn (kNot rfl (hM.d 0 13 rfl) rfl)
   | zk + 2, ho, _ => simp at ho
  case en2 =>
   intro u2 lc2 W2 hK2 hB2 hO2 hV2 hX2 hA2
   have q2_1_0 := oth0 hO2 q1_0
   have f2_0 := f1_0.kept hK2
   have f2_3 := f1_3.kept hK2
   have q2_1_1 := oth0 hO2 q1_1
   have f2_4 := f1_4.kept hK2
   have f2_5 := f1_5.kept hK2
   have f2_7 := f1_7.kept hK2
   have q2_1_2 := oth0 hO2 q1_2
   have f2_8 := f1_8.kept hK2
   have f2_11 := f1_11.kept hK2
   simp only [putK, fC, fN, kZ, kS, vV, sI, sZ, sS]
   have hBt2 := hBt1.trans hB2
   clear hV2 hX2 hA2
   go_upto_region 3 with fail
   refine rg (n := 9) (t16 := 48) w.heap.size [] [.val (.agg #[.bool ya0, .slice yp0 yl0 yd0, .bool ye0, .slice yq0 ym0 yr0]), .val (.agg #[.bool ya1, .slice yp1 yl1 yd1, .bool ye1, .slice yq1 ym1 yr1]), .val (.agg #[.bool ya2, .slice yp2 yl2 yd2, .bool ye2, .slice yq2 ym2 yr2]), .any, .val (.bool true), .val (.bool false)] [(0, 15), (1, 16), (2, 17), (3, 18), (4, 19), (5, 20)] [⟨26, some 3, 0, fun B => .slice (some ⟨B, 0, none⟩) 3 3, 12, [.c #[.bool ya0, .slice yp0 yl0 yd0, .bool ye0, .slice yq0 ym0 yr0, .bool ya1, .slice yp1 yl1 yd1, .bool ye1, .slice yq1 ym1 yr1, .bool ya2, .slice yp2 yl2 yd2, .bool ye2, .slice yq2 ym2 yr2]], []⟩] ?ok3 ?st3 ?al3 ?pu3 ?en3
   case ok3 => exact BxOK.fresh rfl hBt2.size
   case st3 =>
    intro zi zo ho hro a' u lc W hM
    match zi, ho, hro with
    | 0, ho, _ => cases ho; exact wn (kL26 rfl (hM.ol 3) (hM.o0 q2_1_0))
    | 1, ho, _ => cases ho; exact wn (kL26 rfl (hM.ol 4) (hM.o0 q2_1_1))
    | 2, ho, _ => cases ho; exact wn (kL26 rfl (hM.ol 5) (hM.o0 q2_1_2))
    | 3, _, hro => exact nr1 hro (by kernel_rfl)
    | 4, ho, _ => cases ho; exact wn (kCall1 rfl may31 ((hM.v 3 18 rfl).trans (hM.loc 0 _ 3 rfl rfl (by kernel_rfl))) (usable3 (hM.full 0 _ rfl (by kernel_rfl) rfl) (f2_3.kept hM.kept) (f2_7.kept hM.kept) (f2_11.kept hM.kept) HRL0.out HRL1.out HRL2.out HUS.out))
    | 5, ho, _ => cases ho; exact wn (kNot rfl (hM.d 4 19 rfl) rfl)
    | zk + 6, ho, _ => simp at ho
   case al3 =>
    intro zk zb zi zo hk ha ho a' u lc W hM
    match zk, hk with
    | 0, hk => cases hk; cases ha; cases ho; exact ⟨rfl, rfl, rfl, rfl, kSlice3 rfl (hM.d 0 15 rfl) (hM.d 1 16 rfl) (hM.d 2 17 rfl)⟩
    | zk + 1, hk => simp at hk
   case pu3 =>
    intro zk zb zs zo hk hs ho a' u lc W zc hM hc hcs
    match zk, hk with
    | 0, hk => cases hk; simp at hs
    | zk + 1, hk => simp at hk
   case en3 =>
    intro u3 lc3 W3 hK3 hB3 hO3 hV3 hX3 hA3
    obtain ⟨qr, ho, hl⟩ := hX3 0 _ rfl
    have e3_3 : u3 3 = .slice (some ⟨lc3 0, 0, none⟩) 3 3 := (hl 3 rfl).1
    have g3_0 := (hl 3 rfl).2
    have f3_0 := f2_0.kept hK3
    have f3_4 := f2_4.kept hK3
    have f3_5 := f2_5.kept hK3
    have f3_8 := f2_8.kept hK3
    have q3_1_0 := oth0 hO3 q2_1_0
    have q3_1_1 := oth0 hO3 q2_1_1
    have q3_1_2 := oth0 hO3 q2_1_2
    simp only [putK, fC, fN, kZ, kS, vV, vA, sI, sZ, sS, e3_3]
    have hBt3 := hBt2.trans hB3
    clear hV3 hX3 hA3
    go_upto_region 5 with fail
    refine rg (n := 9) (t16 := 48) w.heap.size [] [.k (frq (0 : Rat)), .k (frq (1 : Rat)), .any, .any, .any, .any] [(0, 21), (1, 22), (2, 7), (3, 8)] [⟨26, some 2, 0, pt, 4, [.c #[.bool false, .slice none 0 0, .bool false, .slice none 0 0]], [(4, 0, 0)]⟩, ⟨26, some 3, 0, pt, 4, [.c #[.bool false, .slice none 0 0, .bool false, .slice none 0 0]], [(5, 0, 1)]⟩] ?ok4 ?st4 ?al4 ?pu4 ?en4
    case ok4 => exact BxOK.fresh rfl hBt3.size
    case st4 =>
     intro zi zo ho hro a' u lc W hM
     match zi, ho, hro with
     | 0, ho, _ => cases ho; exact wn (kCall1 rfl may33 rfl (c33_0))
     | 1, ho, _ => cases ho; exact wn (kCall1 rfl may33 rfl (c33_1))
     | 2, _, hro => exact nr1 hro (by kernel_rfl)
     | 3, _, hro => exact nr1 hro (by kernel_rfl)
     | 4, _, hro => exact nr1 hro (by kernel_rfl)
     | 5, _, hro => exact nr1 hro (by kernel_rfl)
     | zk + 6, ho, _ => simp at ho
    case al4 =>
     intro zk zb zi zo hk ha ho a' u lc W hM
     match zk, hk with
     | 0, hk => cases hk; cases ha; cases ho; exact ⟨rfl, rfl, rfl, rfl, kAlloc26 rfl⟩
     | 1, hk => cases hk; cases ha; cases ho; exact ⟨rfl, rfl, rfl, rfl, kAlloc26 rfl⟩
     | zk + 2, hk => simp at hk
    case pu4 =>
     intro zk zb zs zo hk hs ho a' u lc W zc hM hc hcs
     match zk, hk with
     | 0, hk =>
      cases hk
      simp only [List.mem_cons, List.not_mem_nil, or_false] at hs
      rcases hs with rfl
      · cases ho
        obtain ⟨sb, sp, sl, sc, sb2, sp2, sl2, sc2, e, _⟩ := (show Is (frq (0 : Rat)) (u 0) W from (hM.kd 0))
        refine ⟨rfl, rfl, ?_, ?_, kStore ?_ rfl ((hM.v 2 7 rfl).trans (hM.loc 0 _ 2 rfl rfl (by kernel_rfl))) (hM.v 0 21 rfl) hc ?_ ?_⟩ <;> rw [e]
        · exact Nat.le_of_ble_eq_true rfl
        · rfl
        · exact sz26
        · rw [hcs]; exact Nat.le_of_ble_eq_true rfl
        · rfl
     | 1, hk =>
      cases hk
      simp only [List.mem_cons, List.not_mem_nil, or_false] at hs
      rcases hs with rfl
      · cases ho
        obtain ⟨sb, sp, sl, sc, sb2, sp2, sl2, sc2, e, _⟩ := (show Is (frq (1 : Rat)) (u 1) W from (hM.kd 1))
        refine ⟨rfl, rfl, ?_, ?_, kStore ?_ rfl ((hM.v 3 8 rfl).trans (hM.loc 1 _ 3 rfl rfl (by kernel_rfl))) (hM.v 1 22 rfl) hc ?_ ?_⟩ <;> rw [e]
        · exact Nat.le_of_ble_eq_true rfl
        · rfl
        · exact sz26
        · rw [hcs]; exact Nat.le_of_ble_eq_true rfl
        · rfl
     | zk + 2, hk => simp at hk
    case en4 =>
     intro u4 lc4 W4 hK4 hB4 hO4 hV4 hX4 hA4
     have k4_0 := kk (hV4 0 21 rfl) rfl
     have k4_1 := kk (hV4 1 22 rfl) rfl
     obtain ⟨qr, ho, hl⟩ := hX4 0 _ rfl
     have e4_2 : u4 2 = .pointer (some ⟨lc4 0, 0, none⟩) := (hl 2 rfl).1
     have g4_0 := (hl 2 rfl).2
     obtain ⟨x4_4, y4_4, z4_4, c4_4, x24_4, y24_4, z24_4, c24_4, es4_4, sa4_4, sb4_4⟩ := id k4_0
     have sk4_4 : Is (frq (0 : Rat)) (.agg #[.bool x4_4, .slice y4_4 z4_4 c4_4, .bool x24_4, .slice y24_4 z24_4 c24_4]) W4 := by rw [← es4_4]; exact k4_0
     have q4_0 : W4.heap[(lc4 0)]? = some (.cells #[.bool x4_4, .slice y4_4 z4_4 c4_4, .bool x24_4, .slice y24_4 z24_4 c24_4] 26) := by
      rw [contAll_one rfl (cs := #[.bool x4_4, .slice y4_4 z4_4 c4_4, .bool x24_4, .slice y24_4 z24_4 c24_4]) (by rw [es4_4]; rfl) rfl] at qr; exact qr
     obtain ⟨qr, ho, hl⟩ := hX4 1 _ rfl
     have e4_3 : u4 3 = .pointer (some ⟨lc4 1, 0, none⟩) := (hl 3 rfl).1
     have g4_1 := (hl 3 rfl).2
     obtain ⟨x4_5, y4_5, z4_5, c4_5, x24_5, y24_5, z24_5, c24_5, es4_5, sa4_5, sb4_5⟩ := id k4_1
     have sk4_5 : Is (frq (1 : Rat)) (.agg #[.bool x4_5, .slice y4_5 z4_5 c4_5, .bool x24_5, .slice y24_5 z24_5 c24_5]) W4 := by rw [← es4_5]; exact k4_1
     have q4_1 : W4.heap[(lc4 1)]? = some (.cells #[.bool x4_5, .slice y4_5 z4_5 c4_5, .bool x24_5, .slice y24_5 z24_5 c24_5] 26) := by
      rw [contAll_one rfl (cs := #[.bool x4_5, .slice y4_5 z4_5 c4_5, .bool x24_5, .slice y24_5 z24_5 c24_5]) (by rw [es4_5]; rfl) rfl] at qr; exact qr
     have q4_1_0 := oth0 hO4 q3_1_0
     have f4_0 := f3_0.kept hK4
     have q4_1_1 := oth0 hO4 q3_1_1
     have f4_4 := f3_4.kept hK4
     have f4_5 := f3_5.kept hK4
     have q4_1_2 := oth0 hO4 q3_1_2
     have f4_8 := f3_8.kept hK4
     simp only [putK, fC, fN, kZ, kS, vA, vK, sI, sZ, sS, e4_2, e4_3]
     have hBt4 := hBt3.trans hB4
     clear hV4 hX4 hA4
     go_upto_region 6 with fail
     refine rg0 (n := 9) (t16 := 48) w.heap.size [.val (.agg #[.bool ya0, .slice yp0 yl0 yd0, .bool ye0, .slice yq0 ym0 yr0]), .val (.agg #[.bool ya1, .slice yp1 yl1 yd1, .bool ye1, .slice yq1 ym1 yr1]), .k (frq (a + b)), .val (.agg #[.bool ya1, .slice yp1 yl1 yd1, .bool ye1, .slice yq1 ym1 yr1]), .val (.agg #[.bool ya0, .slice yp0 yl0 yd0, .bool ye0, .slice yq0 ym0 yr0]), .k (frq (b + a)), .val (.bool true), .val (.bool false), .val (.bool false), .val (.agg #[.bool ya0, .slice yp0 yl0 yd0, .bool ye0, .slice yq0 ym0 yr0]), .val (.agg #[.bool ya1, .slice yp1 yl1 yd1, .bool ye1, .slice yq1 ym1 yr1]), .k (frq (a * b)), .val (.agg #[.bool ya1, .slice yp1 yl1 yd1, .bool ye1, .slice yq1 ym1 yr1]), .val (.agg #[.bool ya0, .slice yp0 yl0 yd0, .bool ye0, .slice yq0 ym0 yr0]), .k (frq (b * a)), .val (.bool true), .val (.bool false), .val (.bool false), .val (.bool false), .val (.agg #[.bool ya0, .slice yp0 yl0 yd0, .bool ye0, .slice yq0 ym0 yr0]), .val (.agg #[.bool ya1, .slice yp1 yl1 yd1, .bool ye1, .slice yq1 ym1 yr1]), .k (frq (a + b)), .val (.agg #[.bool ya2, .slice yp2 yl2 yd2, .bool ye2, .slice yq2 ym2 yr2]), .k (frq ((a + b) + c)), .val (.agg #[.bool ya0, .slice yp0 yl0 yd0, .bool ye0, .slice yq0 ym0 yr0]), .val (.agg #[.bool ya1, .slice yp1 yl1 yd1, .bool ye1, .slice yq1 ym1 yr1]), .val (.agg #[.bool ya2, .slice yp2 yl2 yd2, .bool ye2, .slice yq2 ym2 yr2]), .k (frq (b + c)), .k (frq (a + (b + c))), .val (.bool true), .val (.bool false), .val (.bool false), .val (.bool false), .val (.agg #[.bool ya0, .slice yp0 yl0 yd0, .bool ye0, .slice yq0 ym0 yr0]), .val (.agg #[.bool ya1, .slice yp1 yl1 yd1, .bool ye1, .slice yq1 ym1 yr1]), .k (frq (a * b)), .val (.agg #[.bool ya2, .slice yp2 yl2 yd2, .bool ye2, .slice yq2 ym2 yr2]), .k (frq ((a * b) * c)), .val (.agg #[.bool ya0, .slice yp0 yl0 yd0, .bool ye0, .slice yq0 ym0 yr0]), .val (.agg #[.bool ya1, .slice yp1 yl1 yd1, .bool ye1, .slice yq1 ym1 yr1]), .val (.agg #[.bool ya2, .slice yp2 yl2 yd2, .bool ye2, .slice yq2 ym2 yr2]), .k (frq (b * c)), .k (frq (a * (b * c))), .val (.bool true), .val (.bool false), .val (.bool false)] [(0, 23), (1, 24), (2, 25), (3, 26), (4, 27), (5, 28), (6, 29), (7, 30), (8, 31), (9, 32), (10, 33), (11, 34), (12, 35), (13, 36), (14, 37), (15, 38), (16, 39), (17, 40), (18, 41), (19, 42), (20, 43), (21, 44), (22, 45), (23, 46), (24, 47), (25, 48), (26, 49), (27, 50), (28, 51), (29, 52), (30, 53), (31, 54), (32, 55), (33, 56), (34, 57), (35, 58), (36, 59), (37, 60), (38, 61), (39, 62), (40, 63), (41, 64), (42, 65), (43, 66), (44, 67), (45, 68)] hBt4.size ?st5 ?en5
     case st5 =>
      intro zi zo ho hro a' u lc W hM
      match zi, ho, hro with
      | 0, ho, _ => cases ho; exact wn (kL26 rfl (hM.ol 3) (hM.o0 q4_1_0))
      | 1, ho, _ => cases ho; exact wn (kL26 rfl (hM.ol 4) (hM.o0 q4_1_1))
      | 2, ho, _ => cases ho; exact wn (kCall2 rfl may37 (hM.d 0 23 rfl) (hM.d 1 24 rfl) (c37 (HA.out.fs (by decide)) (HB.out.fs (by decide)) ((Fz.add HA.out HB.out).fs (by decide)) (f4_0.kept hM.kept) (f4_4.kept hM.kept)))
      | 3, ho, _ => cases ho; exact wn (kL26 rfl (hM.ol 4) (hM.o0 q4_1_1))
      | 4, ho, _ => cases ho; exact wn (kL26 rfl (hM.ol 3) (hM.o0 q4_1_0))
      | 5, ho, _ => cases ho; exact wn (kCall2 rfl may37 (hM.d 3 26 rfl) (hM.d 4 27 rfl) (c37 (HB.out.fs (by decide)) (HA.out.fs (by decide)) ((Fz.add HB.out HA.out).fs (by decide)) (f4_4.kept hM.kept) (f4_0.kept hM.kept)))
      | 6, ho, _ => cases ho; exact wn (kCall2 rfl may32 (hM.v 2 25 rfl) (hM.v 5 28 rfl) (c32 ((Fz.add HA.out HB.out).fs (by decide)) ((Fz.add HB.out HA.out).fs (by decide)) (fe0 a b c) (hM.kd 2) (hM.kd 5)))
      | 7, ho, _ => cases ho; exact wn (kNot rfl (hM.d 6 29 rfl) rfl)
      | 8, ho, _ => cases ho; exact wn (kMove rfl (hM.d 7 30 rfl))
      | 9, ho, _ => cases ho; exact hM.wg (hM.d 8 31 rfl) (kL26 rfl (hM.ol 3) (hM.o0 q4_1_0))
      | 10, ho, _ => cases ho; exact hM.wg (hM.d 8 31 rfl) (kL26 rfl (hM.ol 4) (hM.o0 q4_1_1))
      | 11, ho, _ => cases ho; exact hM.wg (hM.d 8 31 rfl) (kCall2 rfl may34 (hM.d 9 32 rfl) (hM.d 10 33 rfl) (c34 (HA.out.fs (by decide)) (HB.out.fs (by decide)) ((Fz.mul HA.out HB.out).fs (by decide)) (f4_0.kept hM.kept) (f4_4.kept hM.kept)))
      | 12, ho, _ => cases ho; exact hM.wg (hM.d 8 31 rfl) (kL26 rfl (hM.ol 4) (hM.o0 q4_1_1))
      | 13, ho, _ => cases ho; exact hM.wg (hM.d 8 31 rfl) (kL26 rfl (hM.ol 3) (hM.o0 q4_1_0))
      | 14, ho, _ => cases ho; exact hM.wg (hM.d 8 31 rfl) (kCall2 rfl may34 (hM.d 12 35 rfl) (hM.d 13 36 rfl) (c34 (HB.out.fs (by decide)) (HA.out.fs (by decide)) ((Fz.mul HB.out HA.out).fs (by decide)) (f4_4.kept hM.kept) (f4_0.kept hM.kept)))
      | 15, ho, _ => cases ho; exact hM.wg (hM.d 8 31 rfl) (kCall2 rfl may32 (hM.v 11 34 rfl) (hM.v 14 37 rfl) (c32 ((Fz.mul HA.out HB.out).fs (by decide)) ((Fz.mul HB.out HA.out).fs (by decide)) (fe1 a b c) (hM.kd 11) (hM.kd 14)))
      | 16, ho, _ => cases ho; exact hM.wg (hM.d 8 31 rfl) (kNot rfl (hM.d 15 38 rfl) rfl)
      | 17, ho, _ => cases ho; exact wn (kPick rfl (hM.d 8 31 rfl) (hM.d 16 39 rfl))
      | 18, ho, _ => cases ho; exact wn (kMove rfl (hM.d 17 40 rfl))
      | 19, ho, _ => cases ho; exact hM.wg (hM.d 18 41 rfl) (kL26 rfl (hM.ol 3) (hM.o0 q4_1_0))
      | 20, ho, _ => cases ho; exact hM.wg (hM.d 18 41 rfl) (kL26 rfl (hM.ol 4) (hM.o0 q4_1_1))
      | 21, ho, _ => cases ho; exact hM.wg (hM.d 18 41 rfl) (kCall2 rfl may37 (hM.d 19 42 rfl) (hM.d 20 43 rfl) (c37 (HA.out.fs (by decide)) (HB.out.fs (by decide)) ((Fz.add HA.out HB.out).fs (by decide)) (f4_0.kept hM.kept) (f4_4.kept hM.kept)))
      | 22, ho, _ => cases ho; exact hM.wg (hM.d 18 41 rfl) (kL26 rfl (hM.ol 5) (hM.o0 q4_1_2))
      | 23, ho, _ => cases ho; exact hM.wg (hM.d 18 41 rfl) (kCall2 rfl may37 (hM.v 21 44 rfl) (hM.d 22 45 rfl) (c37 ((Fz.add HA.out HB.out).fs (by decide)) (HC.out.fs (by decide)) ((Fz.add (Fz.add HA.out HB.out) HC.out).fs (by decide)) (hM.kd 21) (f4_8.kept hM.kept)))
      | 24, ho, _ => cases ho; exact hM.wg (hM.d 18 41 rfl) (kL26 rfl (hM.ol 3) (hM.o0 q4_1_0))
      | 25, ho, _ => cases ho; exact hM.wg (hM.d 18 41 rfl) (kL26 rfl (hM.ol 4) (hM.o0 q4_1_1))
      | 26, ho, _ => cases ho; exact hM.wg (hM.d 18 41 rfl) (kL26 rfl (hM.ol 5) (hM.o0 q4_1_2))
      | 27, ho, _ => cases ho; exact hM.wg (hM.d 18 41 rfl) (kCall2 rfl may37 (hM.d 25 48 rfl) (hM.d 26 49 rfl) (c37 (HB.out.fs (by decide)) (HC.out.fs (by decide)) ((Fz.add HB.out HC.out).fs (by decide)) (f4_4.kept hM.kept) (f4_8.kept hM.kept)))
      | 28, ho, _ => cases ho; exact hM.wg (hM.d 18 41 rfl) (kCall2 rfl may37 (hM.d 24 47 rfl) (hM.v 27 50 rfl) (c37 (HA.out.fs (by decide)) ((Fz.add HB.out HC.out).fs (by decide)) ((Fz.add HA.out (Fz.add HB.out HC.out)).fs (by decide)) (f4_0.kept hM.kept) (hM.kd 27)))
      | 29, ho, _ => cases ho; exact hM.wg (hM.d 18 41 rfl) (kCall2 rfl may32 (hM.v 23 46 rfl) (hM.v 28 51 rfl) (c32 ((Fz.add (Fz.add HA.out HB.out) HC.out).fs (by decide)) ((Fz.add HA.out (Fz.add HB.out HC.out)).fs (by decide)) (fe2 a b c) (hM.kd 23) (hM.kd 28)))
      | 30, ho, _ => cases ho; exact hM.wg (hM.d 18 41 rfl) (kNot rfl (hM.d 29 52 rfl) rfl)
      | 31, ho, _ => cases ho; exact wn (kPick rfl (hM.d 18 41 rfl) (hM.d 30 53 rfl))
      | 32, ho, _ => cases ho; exact wn (kMove rfl (hM.d 31 54 rfl))
      | 33, ho, _ => cases ho; exact hM.wg (hM.d 32 55 rfl) (kL26 rfl (hM.ol 3) (hM.o0 q4_1_0))
      | 34, ho, _ => cases ho; exact hM.wg (hM.d 32 55 rfl) (kL26 rfl (hM.ol 4) (hM.o0 q4_1_1))
      | 35, ho, _ => cases ho; exact hM.wg (hM.d 32 55 rfl) (kCall2 rfl may34 (hM.d 33 56 rfl) (hM.d 34 57 rfl) (c34 (HA.out.fs (by decide)) (HB.out.fs (by decide)) ((Fz.mul HA.out HB.out).fs (by decide)) (f4_0.kept hM.kept) (f4_4.kept hM.kept)))
      | 36, ho, _ => cases ho; exact hM.wg (hM.d 32 55 rfl) (kL26 rfl (hM.ol 5) (hM.o0 q4_1_2))
      | 37, ho, _ => cases ho; exact hM.wg (hM.d 32 55 rfl) (kCall2 rfl may34 (hM.v 35 58 rfl) (hM.d 36 59 rfl) (c34 ((Fz.mul HA.out HB.out).fs (by decide)) (HC.out.fs (by decide)) ((Fz.mul (Fz.mul HA.out HB.out) HC.out).fs (by decide)) (hM.kd 35) (f4_8.kept hM.kept)))
      | 38, ho, _ => cases ho; exact hM.wg (hM.d 32 55 rfl) (kL26 rfl (hM.ol 3) (hM.o0 q4_1_0))
      | 39, ho, _ => cases ho; exact hM.wg (hM.d 32 55 rfl) (kL26 rfl (hM.ol 4) (hM.o0 q4_1_1))
      | 40, ho, _ => cases ho; exact hM.wg (hM.d 32 55 rfl) (kL26 rfl (hM.ol 5) (hM.o0 q4_1_2))
      | 41, ho, _ => cases ho; exact hM.wg (hM.d 32 55 rfl) (kCall2 rfl may34 (hM.d 39 62 rfl) (hM.d 40 63 rfl) (c34 (HB.out.fs (by decide)) (HC.out.fs (by decide)) ((Fz.mul HB.out HC.out).fs (by decide)) (f4_4.kept hM.kept) (f4_8.kept hM.kept)))
      | 42, ho, _ => cases ho; exact hM.wg (hM.d 32 55 rfl) (kCall2 rfl may34 (hM.d 38 61 rfl) (hM.v 41 64 rfl) (c34 (HA.out.fs (by decide)) ((Fz.mul HB.out HC.out).fs (by decide)) ((Fz.mul HA.out (Fz.mul HB.out HC.out)).fs (by decide)) (f4_0.kept hM.kept) (hM.kd 41)))
      | 43, ho, _ => cases ho; exact hM.wg (hM.d 32 55 rfl) (kCall2 rfl may32 (hM.v 37 60 rfl) (hM.v 42 65 rfl) (c32 ((Fz.mul (Fz.mul HA.out HB.out) HC.out).fs (by decide)) ((Fz.mul HA.out (Fz.mul HB.out HC.out)).fs (by decide)) (fe3 a b c) (hM.kd 37) (hM.kd 42)))
      | 44, ho, _ => cases ho; exact hM.wg (hM.d 32 55 rfl) (kNot rfl (hM.d 43 66 rfl) rfl)
      | 45, ho, _ => cases ho; exact wn (kPick rfl (hM.d 32 55 rfl) (hM.d 44 67 rfl))
      | zk + 46, ho, _ => simp at ho
     case en5 =>
      intro u5 lc5 W5 hK5 hB5 hO5 hV5 hX5 hA5
      have q5_1_0 := oth0 hO5 q4_1_0
      have f5_0 := f4_0.kept hK5
      have q5_1_1 := oth0 hO5 q4_1_1
      have f5_4 := f4_4.kept hK5
      have f5_5 := f4_5.kept hK5
      have q5_1_2 := oth0 hO5 q4_1_2
      have f5_8 := f4_8.kept hK5
      have q5_4_0 := oth0 hO5 q4_0
      have f5_12 := sk4_4.kept hK5
      have q5_4_1 := oth0 hO5 q4_1
      have f5_15 := sk4_5.kept hK5
      simp only [putK, fC, fN, kZ, kS, vV, vK, sI, sZ, sS]
      have hBt5 := hBt4.trans hB5
      clear hV5 hX5 hA5
      go_upto_region 8 with fail
      refine rg0 (n := 9) (t16 := 48) w.heap.size [.val (.agg #[.bool ya0, .slice yp0 yl0 yd0, .bool ye0, .slice yq0 ym0 yr0]), .val (.agg #[.bool ya1, .slice yp1 yl1 yd1, .bool ye1, .slice yq1 ym1 yr1]), .val (.agg #[.bool ya2, .slice yp2 yl2 yd2, .bool ye2, .slice yq2 ym2 yr2]), .k (frq (b + c)), .k (frq (a * (b + c))), .val (.agg #[.bool ya0, .slice yp0 yl0 yd0, .bool ye0, .slice yq0 ym0 yr0]), .val (.agg #[.bool ya1, .slice yp1 yl1 yd1, .bool ye1, .slice yq1 ym1 yr1]), .k (frq (a * b)), .val (.agg #[.bool ya0, .slice yp0 yl0 yd0, .bool ye0, .slice yq0 ym0 yr0]), .val (.agg #[.bool ya2, .slice yp2 yl2 yd2, .bool ye2, .slice yq2 ym2 yr2]), .k (frq (a * c)), .k (frq ((a * b) + (a * c))), .val (.bool true), .val (.bool false), .val (.bool false), .val (.agg #[.bool ya0, .slice yp0 yl0 yd0, .bool ye0, .slice yq0 ym0 yr0]), .val (.agg #[.bool x4_4, .slice y4_4 z4_4 c4_4, .bool x24_4, .slice y24_4 z24_4 c24_4]), .k (frq (a + (0 : Rat))), .val (.agg #[.bool ya0, .slice yp0 yl0 yd0, .bool ye0, .slice yq0 ym0 yr0]), .val (.bool true), .val (.bool false), .val (.bool false), .val (.bool false), .val (.agg #[.bool ya0, .slice yp0 yl0 yd0, .bool ye0, .slice yq0 ym0 yr0]), .val (.agg #[.bool x4_5, .slice y4_5 z4_5 c4_5, .bool x24_5, .slice y24_5 z24_5 c24_5]), .k (frq (a * (1 : Rat))), .val (.agg #[.bool ya0, .slice yp0 yl0 yd0, .bool ye0, .slice yq0 ym0 yr0]), .val (.bool true), .val (.bool false), .val (.bool false), .val (.bool false), .val (.agg #[.bool ya0, .slice yp0 yl0 yd0, .bool ye0, .slice yq0 ym0 yr0]), .val (.agg #[.bool ya1, .slice yp1 yl1 yd1, .bool ye1, .slice yq1 ym1 yr1]), .k (frq (a + b)), .val (.agg #[.bool ya1, .slice yp1 yl1 yd1, .bool ye1, .slice yq1 ym1 yr1]), .k (frq ((a + b) + -b)), .val (.agg #[.bool ya0, .slice yp0 yl0 yd0, .bool ye0, .slice yq0 ym0 yr0]), .val (.bool true), .val (.bool false), .val (.bool false), .val (.bool false), .val (.agg #[.bool ya0, .slice yp0 yl0 yd0, .bool ye0, .slice yq0 ym0 yr0]), .val (.agg #[.bool x4_4, .slice y4_4 z4_4 c4_4, .bool x24_4, .slice y24_4 z24_4 c24_4]), .val (.agg #[.bool ya0, .slice yp0 yl0 yd0, .bool ye0, .slice yq0 ym0 yr0]), .k (frq ((0 : Rat) + -a)), .k (frq (a + ((0 : Rat) + -a))), .val (.agg #[.bool x4_4, .slice y4_4 z4_4 c4_4, .bool x24_4, .slice y24_4 z24_4 c24_4]), .val (.bool true), .val (.bool false), .val (.bool false)] [(0, 69), (1, 70), (2, 71), (3, 72), (4, 73), (5, 74), (6, 75), (7, 76), (8, 77), (9, 78), (10, 79), (11, 80), (12, 81), (13, 82), (14, 83), (15, 84), (16, 85), (17, 86), (18, 87), (19, 88), (20, 89), (21, 90), (22, 91), (23, 92), (24, 93), (25, 94), (26, 95), (27, 96), (28, 97), (29, 98), (30, 99), (31, 100), (32, 101), (33, 102), (34, 103), (35, 104), (36, 105), (37, 106), (38, 107), (39, 108), (40, 109), (41, 110), (42, 111), (43, 112), (44, 113), (45, 114), (46, 115), (47, 116), (48, 117), (49, 118)] hBt5.size ?st6 ?en6
      case st6 =>
       intro zi zo ho hro a' u lc W hM
       match zi, ho, hro with
       | 0, ho, _ => cases ho; exact wn (kL26 rfl (hM.ol 3) (hM.o0 q5_1_0))
       | 1, ho, _ => cases ho; exact wn (kL26 rfl (hM.ol 4) (hM.o0 q5_1_1))
       | 2, ho, _ => cases ho; exact wn (kL26 rfl (hM.ol 5) (hM.o0 q5_1_2))
       | 3, ho, _ => cases ho; exact wn (kCall2 rfl may37 (hM.d 1 70 rfl) (hM.d 2 71 rfl) (c37 (HB.out.fs (by decide)) (HC.out.fs (by decide)) ((Fz.add HB.out HC.out).fs (by decide)) (f5_4.kept hM.kept) (f5_8.kept hM.kept)))
       | 4, ho, _ => cases ho; exact wn (kCall2 rfl may34 (hM.d 0 69 rfl) (hM.v 3 72 rfl) (c34 (HA.out.fs (by decide)) ((Fz.add HB.out HC.out).fs (by decide)) ((Fz.mul HA.out (Fz.add HB.out HC.out)).fs (by decide)) (f5_0.kept hM.kept) (hM.kd 3)))
       | 5, ho, _ => cases ho; exact wn (kL26 rfl (hM.ol 3) (hM.o0 q5_1_0))
       | 6, ho, _ => cases ho; exact wn (kL26 rfl (hM.ol 4) (hM.o0 q5_1_1))
       | 7, ho, _ => cases ho; exact wn (kCall2 rfl may34 (hM.d 5 74 rfl) (hM.d 6 75 rfl) (c34 (HA.out.fs (by decide)) (HB.out.fs (by decide)) ((Fz.mul HA.out HB.out).fs (by decide)) (f5_0.kept hM.kept) (f5_4.kept hM.kept)))
       | 8, ho, _ => cases ho; exact wn (kL26 rfl (hM.ol 3) (hM.o0 q5_1_0))
       | 9, ho, _ => cases ho; exact wn (kL26 rfl (hM.ol 5) (hM.o0 q5_1_2))
       | 10, ho, _ => cases ho; exact wn (kCall2 rfl may34 (hM.d 8 77 rfl) (hM.d 9 78 rfl) (c34 (HA.out.fs (by decide)) (HC.out.fs (by decide)) ((Fz.mul HA.out HC.out).fs (by decide)) (f5_0.kept hM.kept) (f5_8.kept hM.kept)))
       | 11, ho, _ => cases ho; exact wn (kCall2 rfl may37 (hM.v 7 76 rfl) (hM.v 10 79 rfl) (c37 ((Fz.mul HA.out HB.out).fs (by decide)) ((Fz.mul HA.out HC.out).fs (by decide)) ((Fz.add (Fz.mul HA.out HB.out) (Fz.mul HA.out HC.out)).fs (by decide)) (hM.kd 7) (hM.kd 10)))
       | 12, ho, _ => cases ho; exact wn (kCall2 rfl may32 (hM.v 4 73 rfl) (hM.v 11 80 rfl) (c32 ((Fz.mul HA.out (Fz.add HB.out HC.out)).fs (by decide)) ((Fz.add (Fz.mul HA.out HB.out) (Fz.mul HA.out HC.out)).fs (by decide)) (fe4 a b c) (hM.kd 4) (hM.kd 11)))
       | 13, ho, _ => cases ho; exact wn (kNot rfl (hM.d 12 81 rfl) rfl)
       | 14, ho, _ => cases ho; exact wn (kMove rfl (hM.d 13 82 rfl))
       | 15, ho, _ => cases ho; exact hM.wg (hM.d 14 83 rfl) (kL26 rfl (hM.ol 3) (hM.o0 q5_1_0))
       | 16, ho, _ => cases ho; exact hM.wg (hM.d 14 83 rfl) (kL26 rfl (hM.ol 7) (hM.o0 q5_4_0))
       | 17, ho, _ => cases ho; exact hM.wg (hM.d 14 83 rfl) (kCall2 rfl may37 (hM.d 15 84 rfl) (hM.d 16 85 rfl) (c37 (HA.out.fs (by decide)) (Fz.zero.fs (by decide)) ((Fz.add HA.out Fz.zero).fs (by decide)) (f5_0.kept hM.kept) (f5_12.kept hM.kept)))
       | 18, ho, _ => cases ho; exact hM.wg (hM.d 14 83 rfl) (kL26 rfl (hM.ol 3) (hM.o0 q5_1_0))
       | 19, ho, _ => cases ho; exact hM.wg (hM.d 14 83 rfl) (kCall2 rfl may32 (hM.v 17 86 rfl) (hM.d 18 87 rfl) (c32 ((Fz.add HA.out Fz.zero).fs (by decide)) (HA.out.fs (by decide)) (fe5 a b c) (hM.kd 17) (f5_0.kept hM.kept)))
       | 20, ho, _ => cases ho; exact hM.wg (hM.d 14 83 rfl) (kNot rfl (hM.d 19 88 rfl) rfl)
       | 21, ho, _ => cases ho; exact wn (kPick rfl (hM.d 14 83 rfl) (hM.d 20 89 rfl))
       | 22, ho, _ => cases ho; exact wn (kMove rfl (hM.d 21 90 rfl))
       | 23, ho, _ => cases ho; exact hM.wg (hM.d 22 91 rfl) (kL26 rfl (hM.ol 3) (hM.o0 q5_1_0))
       | 24, ho, _ => cases ho; exact hM.wg (hM.d 22 91 rfl) (kL26 rfl (hM.ol 8) (hM.o0 q5_4_1))
       | 25, ho, _ => cases ho; exact hM.wg (hM.d 22 91 rfl) (kCall2 rfl may34 (hM.d 23 92 rfl) (hM.d 24 93 rfl) (c34 (HA.out.fs (by decide)) (Fz.one.fs (by decide)) ((Fz.mul HA.out Fz.one).fs (by decide)) (f5_0.kept hM.kept) (f5_15.kept hM.kept)))
       | 26, ho, _ => cases ho; exact hM.wg (hM.d 22 91 rfl) (kL26 rfl (hM.ol 3) (hM.o0 q5_1_0))
       | 27, ho, _ => cases ho; exact hM.wg (hM.d 22 91 rfl) (kCall2 rfl may32 (hM.v 25 94 rfl) (hM.d 26 95 rfl) (c32 ((Fz.mul HA.out Fz.one).fs (by decide)) (HA.out.fs (by decide)) (fe6 a b c) (hM.kd 25) (f5_0.kept hM.kept)))
       | 28, ho, _ => cases ho; exact hM.wg (hM.d 22 91 rfl) (kNot rfl (hM.d 27 96 rfl) rfl)
       | 29, ho, _ => cases ho; exact wn (kPick rfl (hM.d 22 91 rfl) (hM.d 28 97 rfl))
       | 30, ho, _ => cases ho; exact wn (kMove rfl (hM.d 29 98 rfl))
       | 31, ho, _ => cases ho; exact hM.wg (hM.d 30 99 rfl) (kL26 rfl (hM.ol 3) (hM.o0 q5_1_0))
       | 32, ho, _ => cases ho; exact hM.wg (hM.d 30 99 rfl) (kL26 rfl (hM.ol 4) (hM.o0 q5_1_1))
       | 33, ho, _ => cases ho; exact hM.wg (hM.d 30 99 rfl) (kCall2 rfl may37 (hM.d 31 100 rfl) (hM.d 32 101 rfl) (c37 (HA.out.fs (by decide)) (HB.out.fs (by decide)) ((Fz.add HA.out HB.out).fs (by decide)) (f5_0.kept hM.kept) (f5_4.kept hM.kept)))
       | 34, ho, _ => cases ho; exact hM.wg (hM.d 30 99 rfl) (kL26 rfl (hM.ol 4) (hM.o0 q5_1_1))
       | 35, ho, _ => cases ho; exact hM.wg (hM.d 30 99 rfl) (kCall2 rfl may36 (hM.v 33 102 rfl) (hM.d 34 103 rfl) (c36 ((Fz.add HA.out HB.out).fs (by decide)) (HB.out.fs (by decide)) ((Fz.add (Fz.add HA.out HB.out) (Fz.neg HB.out)).fs (by decide)) (hM.kd 33) (f5_4.kept hM.kept)))
       | 36, ho, _ => cases ho; exact hM.wg (hM.d 30 99 rfl) (kL26 rfl (hM.ol 3) (hM.o0 q5_1_0))
       | 37, ho, _ => cases ho; exact hM.wg (hM.d 30 99 rfl) (kCall2 rfl may32 (hM.v 35 104 rfl) (hM.d 36 105 rfl) (c32 ((Fz.add (Fz.add HA.out HB.out) (Fz.neg HB.out)).fs (by decide)) (HA.out.fs (by decide)) (fe7 a b c) (hM.kd 35) (f5_0.kept hM.kept)))
       | 38, ho, _ => cases ho; exact hM.wg (hM.d 30 99 rfl) (kNot rfl (hM.d 37 106 rfl) rfl)
       | 39, ho, _ => cases ho; exact wn (kPick rfl (hM.d 30 99 rfl) (hM.d 38 107 rfl))
       | 40, ho, _ => cases ho; exact wn (kMove rfl (hM.d 39 108 rfl))
       | 41, ho, _ => cases ho; exact hM.wg (hM.d 40 109 rfl) (kL26 rfl (hM.ol 3) (hM.o0 q5_1_0))
       | 42, ho, _ => cases ho; exact hM.wg (hM.d 40 109 rfl) (kL26 rfl (hM.ol 7) (hM.o0 q5_4_0))
       | 43, ho, _ => cases ho; exact hM.wg (hM.d 40 109 rfl) (kL26 rfl (hM.ol 3) (hM.o0 q5_1_0))
       | 44, ho, _ => cases ho; exact hM.wg (hM.d 40 109 rfl) (kCall2 rfl may36 (hM.d 42 111 rfl) (hM.d 43 112 rfl) (c36 (Fz.zero.fs (by decide)) (HA.out.fs (by decide)) ((Fz.add Fz.zero (Fz.neg HA.out)).fs (by decide)) (f5_12.kept hM.kept) (f5_0.kept hM.kept)))
       | 45, ho, _ => cases ho; exact hM.wg (hM.d 40 109 rfl) (kCall2 rfl may37 (hM.d 41 110 rfl) (hM.v 44 113 rfl) (c37 (HA.out.fs (by decide)) ((Fz.add Fz.zero (Fz.neg HA.out)).fs (by decide)) ((Fz.add HA.out (Fz.add Fz.zero (Fz.neg HA.out))).fs (by decide)) (f5_0.kept hM.kept) (hM.kd 44)))
       | 46, ho, _ => cases ho; exact hM.wg (hM.d 40 109 rfl) (kL26 rfl (hM.ol 7) (hM.o0 q5_4_0))
       | 47, ho, _ => cases ho; exact hM.wg (hM.d 40 109 rfl) (kCall2 rfl may32 (hM.v 45 114 rfl) (hM.d 46 115 rfl) (c32 ((Fz.add HA.out (Fz.add Fz.zero (Fz.neg HA.out))).fs (by decide)) (Fz.zero.fs (by decide)) (fe8 a b c) (hM.kd 45) (f5_12.kept hM.kept)))
       | 48, ho, _ => cases ho; exact hM.wg (hM.d 40 109 rfl) (kNot rfl (hM.d 47 116 rfl) rfl)
       | 49, ho, _ => cases ho; exact wn (kPick rfl (hM.d 40 109 rfl) (hM.d 48 117 rfl))
       | zk + 50, ho, _ => simp at ho
      case en6 =>
       intro u6 lc6 W6 hK6 hB6 hO6 hV6 hX6 hA6
       have q6_1_0 := oth0 hO6 q5_1_0
       have f6_0 := f5_0.kept hK6
       have q6_1_1 := oth0 hO6 q5_1_1
       have f6_4 := f5_4.kept hK6
       have f6_5 := f5_5.kept hK6
       have q6_4_0 := oth0 hO6 q5_4_0
       have f6_12 := f5_12.kept hK6
       have q6_4_1 := oth0 hO6 q5_4_1
       have f6_15 := f5_15.kept hK6
       simp only [putK, fC, fN, kZ, kS, vV, vK, sI, sZ, sS]
       have hBt6 := hBt5.trans hB6
       clear hV6 hX6 hA6
       go_upto_region 10 with fail
       refine rg (n := 9) (t16 := 48) w.heap.size [] [.val (.agg #[.bool ya0, .slice yp0 yl0 yd0, .bool ye0, .slice yq0 ym0 yr0]), .k (tup2 (.k (frq (-a))) (.val (.int .i64 0))), .k (tup2 (.k (frq (-a))) (.val (.int .i64 0))), .k (frq (-a)), .val (.int .i64 0), .any, .any, .val (.int .i64 0)] [(0, 120), (1, 121), (2, 119), (3, 122), (4, 123), (5, 9), (7, 10)] [⟨26, some 5, 0, pt, 4, [.c #[.bool false, .slice none 0 0, .bool false, .slice none 0 0]], [(6, 0, 3)]⟩] ?ok7 ?st7 ?al7 ?pu7 ?en7
       case ok7 => exact BxOK.fresh rfl hBt6.size
       case st7 =>
        intro zi zo ho hro a' u lc W hM
        match zi, ho, hro with
        | 0, ho, _ => cases ho; exact wn (kL26 rfl (hM.ol 3) (hM.o0 q6_1_0))
        | 1, ho, _ => cases ho; exact wn (kCall1 rfl may39 (hM.d 0 120 rfl) (c39q (HA.out.fs (by decide)) (f6_0.kept hM.kept)))
        | 2, ho, _ => cases ho; exact wn (kMove rfl (hM.d 1 121 rfl))
        | 3, ho, _ => cases ho; exact wn (kEx20 rfl (hM.d 2 119 rfl))
        | 4, ho, _ => cases ho; exact wn (kEx21 rfl (hM.d 2 119 rfl))
        | 5, _, hro => exact nr1 hro (by kernel_rfl)
        | 6, _, hro => exact nr1 hro (by kernel_rfl)
        | 7, ho, _ => cases ho; exact wn (kAssign rfl (hM.d 4 123 rfl))
        | zk + 8, ho, _ => simp at ho
       case al7 =>
        intro zk zb zi zo hk ha ho a' u lc W hM
        match zk, hk with
        | 0, hk => cases hk; cases ha; cases ho; exact ⟨rfl, rfl, rfl, rfl, kAlloc26 rfl⟩
        | zk + 1, hk => simp at hk
       case pu7 =>
        intro zk zb zs zo hk hs ho a' u lc W zc hM hc hcs
        match zk, hk with
        | 0, hk =>
         cases hk
         simp only [List.mem_cons, List.not_mem_nil, or_false] at hs
         rcases hs with rfl
         · cases ho
           obtain ⟨sb, sp, sl, sc, sb2, sp2, sl2, sc2, e, _⟩ := (show Is (frq (-a)) (u 3) W from (hM.kd 3))
           refine ⟨rfl, rfl, ?_, ?_, kStore ?_ rfl ((hM.v 5 9 rfl).trans (hM.loc 0 _ 5 rfl rfl (by kernel_rfl))) (hM.v 3 122 rfl) hc ?_ ?_⟩ <;> rw [e]
           · exact Nat.le_of_ble_eq_true rfl
           · rfl
           · exact sz26
           · rw [hcs]; exact Nat.le_of_ble_eq_true rfl
           · rfl
        | zk + 1, hk => simp at hk
       case en7 =>
        intro u7 lc7 W7 hK7 hB7 hO7 hV7 hX7 hA7
        have k7_3 := kk (hV7 3 122 rfl) rfl
        obtain ⟨qr, ho, hl⟩ := hX7 0 _ rfl
        have e7_5 : u7 5 = .pointer (some ⟨lc7 0, 0, none⟩) := (hl 5 rfl).1
        have g7_0 := (hl 5 rfl).2
        obtain ⟨x7_6, y7_6, z7_6, c7_6, x27_6, y27_6, z27_6, c27_6, es7_6, sa7_6, sb7_6⟩ := id k7_3
        have sk7_6 : Is (frq (-a)) (.agg #[.bool x7_6, .slice y7_6 z7_6 c7_6, .bool x27_6, .slice y27_6 z27_6 c27_6]) W7 := by rw [← es7_6]; exact k7_3
        have q7_0 : W7.heap[(lc7 0)]? = some (.cells #[.bool x7_6, .slice y7_6 z7_6 c7_6, .bool x27_6, .slice y27_6 z27_6 c27_6] 26) := by
         rw [contAll_one rfl (cs := #[.bool x7_6, .slice y7_6 z7_6 c7_6, .bool x27_6, .slice y27_6 z27_6 c27_6]) (by rw [es7_6]; rfl) rfl] at qr; exact qr
        have q7_1_0 := oth0 hO7 q6_1_0
        have f7_0 := f6_0.kept hK7
        have q7_1_1 := oth0 hO7 q6_1_1
        have f7_4 := f6_4.kept hK7
        have f7_5 := f6_5.kept hK7
        have q7_4_0 := oth0 hO7 q6_4_0
        have f7_12 := f6_12.kept hK7
        have q7_4_1 := oth0 hO7 q6_4_1
        have f7_15 := f6_15.kept hK7
        simp only [putK, fC, fN, kZ, kS, vV, vA, vK, sI, sZ, sS, e7_5]
        have hBt7 := hBt6.trans hB7
        clear hV7 hX7 hA7
        go_upto_region 11 with fail
        refine rg0 (n := 9) (t16 := 48) w.heap.size [.val (.int .i64 0), .val (.bool false), .val (.bool false), .val (.agg #[.bool x7_6, .slice y7_6 z7_6 c7_6, .bool x27_6, .slice y27_6 z27_6 c27_6]), .val (.agg #[.bool x4_4, .slice y4_4 z4_4 c4_4, .bool x24_4, .slice y24_4 z24_4 c24_4]), .val (.agg #[.bool ya0, .slice yp0 yl0 yd0, .bool ye0, .slice yq0 ym0 yr0]), .k (frq ((0 : Rat) + -a)), .val (.bool true), .val (.bool false), .val (.bool false)] [(0, 124), (1, 125), (2, 126), (3, 127), (4, 128), (5, 129), (6, 130), (7, 131), (8, 132), (9, 133)] hBt7.size ?st8 ?en8
        case st8 =>
         intro zi zo ho hro a' u lc W hM
         match zi, ho, hro with
         | 0, ho, _ => cases ho; exact wn (kMove rfl (hM.ol 10))
         | 1, ho, _ => cases ho; exact wn (kNeq29 rfl (hM.d 0 124 rfl) rfl (by decide))
         | 2, ho, _ => cases ho; exact wn (kMove rfl (hM.d 1 125 rfl))
         | 3, ho, _ => cases ho; exact hM.wg (hM.d 2 126 rfl) (kL26 rfl (hM.ol 9) (hM.o0 q7_0))
         | 4, ho, _ => cases ho; exact hM.wg (hM.d 2 126 rfl) (kL26 rfl (hM.ol 7) (hM.o0 q7_4_0))
         | 5, ho, _ => cases ho; exact hM.wg (hM.d 2 126 rfl) (kL26 rfl (hM.ol 3) (hM.o0 q7_1_0))
         | 6, ho, _ => cases ho; exact hM.wg (hM.d 2 126 rfl) (kCall2 rfl may36 (hM.d 4 128 rfl) (hM.d 5 129 rfl) (c36 (Fz.zero.fs (by decide)) (HA.out.fs (by decide)) ((Fz.add Fz.zero (Fz.neg HA.out)).fs (by decide)) (f7_12.kept hM.kept) (f7_0.kept hM.kept)))
         | 7, ho, _ => cases ho; exact hM.wg (hM.d 2 126 rfl) (kCall2 rfl may32 (hM.d 3 127 rfl) (hM.v 6 130 rfl) (c32 ((Fz.neg HA.out).fs (by decide)) ((Fz.add Fz.zero (Fz.neg HA.out)).fs (by decide)) (fe9 a b c) (sk7_6.kept hM.kept) (hM.kd 6)))
         | 8, ho, _ => cases ho; exact hM.wg (hM.d 2 126 rfl) (kNot rfl (hM.d 7 131 rfl) rfl)
         | 9, ho, _ => cases ho; exact wn (kPick rfl (hM.d 2 126 rfl) (hM.d 8 132 rfl))
         | zk + 10, ho, _ => simp at ho
        case en8 =>
         intro u8 lc8 W8 hK8 hB8 hO8 hV8 hX8 hA8
         have q8_1_0 := oth0 hO8 q7_1_0
         have f8_0 := f7_0.kept hK8
         have q8_1_1 := oth0 hO8 q7_1_1
         have f8_4 := f7_4.kept hK8
         have f8_5 := f7_5.kept hK8
         have q8_4_1 := oth0 hO8 q7_4_1
         have f8_15 := f7_15.kept hK8
         simp only [putK, fC, fN, kZ, kS, vV, vK, sI, sZ, sS]
         have hBt8 := hBt7.trans hB8
         clear hV8 hX8 hA8
         by_cases hb0 : b = 0
         · have HB0 := Lib.hid hb0
           clear hb0
           have hz1 : b.num = 0 := by rw [HB0.out]; rfl
           have hln := (num_len f8_5).2 hz1
           have HLN := Lib.hid hln
           have hzz : decide (b.num = 0) = true := decide_eq_true hz1
           have HZZ := Lib.hid hzz
           clear hz1 hln hzz
           go_upto_region 13 with fail
           refine rg0 (n := 9) (t16 := 48) w.heap.size [.val (.pointer (some ⟨(lc1 1), 0, none⟩)), .val (.pointer (some ⟨(lc1 1), 1, none⟩)), .val (.slice yp1 yl1 yd1), .val (.int .i64 ((yl1 : Nat) : Int)), .val (.bool true)] [(0, 134), (1, 135), (2, 136), (3, 137), (4, 138)] hBt8.size ?st9 ?en9
           case st9 =>
            intro zi zo ho hro a' u lc W hM
            match zi, ho, hro with
            | 0, ho, _ => cases ho; exact wn (kField26_0 rfl (hM.ol 4))
            | 1, ho, _ => cases ho; exact wn (kField24_1 rfl (hM.d 0 134 rfl))
            | 2, ho, _ => cases ho; exact wn (kLoad1 Tryz.underlying22 rfl rfl (hM.d 1 135 rfl) (hM.o0 q8_1_1) rfl rfl)
            | 3, ho, _ => cases ho; exact wn (kLen rfl (hM.d 2 136 rfl))
            | 4, ho, _ => cases ho; exact wn (kEql3 rfl (hM.d 3 137 rfl) rfl (decide_eq_true (by rw [HLN.out]; rfl)))
            | zk + 5, ho, _ => simp at ho
           case en9 =>
            intro u9 lc9 W9 hK9 hB9 hO9 hV9 hX9 hA9
            have q9_1_0 := oth0 hO9 q8_1_0
            have f9_0 := f8_0.kept hK9
            have q9_1_1 := oth0 hO9 q8_1_1
            have f9_4 := f8_4.kept hK9
            simp only [putK, fC, fN, kZ, kS, vV, sI, sZ, sS]
            have hBt9 := hBt8.trans hB9
            clear hV9 hX9 hA9
            go_upto_region 14 with fail
            refine rg (n := 9) (t16 := 48) w.heap.size [] [.val (.agg #[.bool ya0, .slice yp0 yl0 yd0, .bool ye0, .slice yq0 ym0 yr0]), .val (.agg #[.bool ya1, .slice yp1 yl1 yd1, .bool ye1, .slice yq1 ym1 yr1]), .k (tup2 (.val (.agg #[.bool false, .slice none 0 0, .bool false, .slice none 0 0])) (.val (.int .i64 20))), .k (tup2 (.val (.agg #[.bool false, .slice none 0 0, .bool false, .slice none 0 0])) (.val (.int .i64 20))), .val (.agg #[.bool false, .slice none 0 0, .bool false, .slice none 0 0]), .val (.int .i64 20), .any, .any, .val (.int .i64 20)] [(0, 140), (1, 141), (2, 142), (3, 139), (4, 143), (5, 144), (6, 11), (8, 12)] [⟨26, some 6, 0, pt, 4, [.c #[.bool false, .slice none 0 0, .bool false, .slice none 0 0]], [(7, 0, 4)]⟩] ?ok10 ?st10 ?al10 ?pu10 ?en10
            case ok10 => exact BxOK.fresh rfl hBt9.size
            case st10 =>
             intro zi zo ho hro a' u lc W hM
             match zi, ho, hro with
             | 0, ho, _ => cases ho; exact wn (kL26 rfl (hM.ol 3) (hM.o0 q9_1_0))
             | 1, ho, _ => cases ho; exact wn (kL26 rfl (hM.ol 4) (hM.o0 q9_1_1))
             | 2, ho, _ => cases ho; exact wn (kCall2 rfl may40 (hM.d 0 140 rfl) (hM.d 1 141 rfl) (c40z (HA.out.fs (by decide)) (HB.out.fs (by decide)) HZZ.out (f9_0.kept hM.kept) (f9_4.kept hM.kept)))
             | 3, ho, _ => cases ho; exact wn (kMove rfl (hM.d 2 142 rfl))
             | 4, ho, _ => cases ho; exact wn (kEx20 rfl (hM.d 3 139 rfl))
             | 5, ho, _ => cases ho; exact wn (kEx21 rfl (hM.d 3 139 rfl))
             | 6, _, hro => exact nr1 hro (by kernel_rfl)
             | 7, _, hro => exact nr1 hro (by kernel_rfl)
             | 8, ho, _ => cases ho; exact wn (kAssign rfl (hM.d 5 144 rfl))
             | zk + 9, ho, _ => simp at ho
            case al10 =>
             intro zk zb zi zo hk ha ho a' u lc W hM
             match zk, hk with
             | 0, hk => cases hk; cases ha; cases ho; exact ⟨rfl, rfl, rfl, rfl, kAlloc26 rfl⟩
             | zk + 1, hk => simp at hk
            case pu10 =>
             intro zk zb zs zo hk hs ho a' u lc W zc hM hc hcs
             match zk, hk with
             | 0, hk =>
              cases hk
              simp only [List.mem_cons, List.not_mem_nil, or_false] at hs
              rcases hs with rfl
              · cases ho
                have e : u 4 = .agg #[.bool false, .slice none 0 0, .bool false, .slice none 0 0] := hM.kd 4
                refine ⟨rfl, rfl, ?_, ?_, kStore ?_ rfl ((hM.v 6 11 rfl).trans (hM.loc 0 _ 6 rfl rfl (by kernel_rfl))) (hM.v 4 143 rfl) hc ?_ ?_⟩ <;> rw [e]
                · exact Nat.le_of_ble_eq_true rfl
                · rfl
                · exact sz26
                · rw [hcs]; exact Nat.le_of_ble_eq_true rfl
                · rfl
             | zk + 1, hk => simp at hk
            case en10 =>
             intro u10 lc10 W10 hK10 hB10 hO10 hV10 hX10 hA10
             obtain ⟨qr, ho, hl⟩ := hX10 0 _ rfl
             have e10_6 : u10 6 = .pointer (some ⟨lc10 0, 0, none⟩) := (hl 6 rfl).1
             have g10_0 := (hl 6 rfl).2
             simp only [putK, fC, fN, kZ, kS, vV, vA, vK, sI, sZ, sS, e10_6]
             have hBt10 := hBt9.trans hB10
             clear hV10 hX10 hA10
             go_upto_region 15 with fail
             refine rg0 (n := 9) (t16 := 48) w.heap.size [.val (.int .i64 20), .val (.bool true), .val (.bool true)] [(0, 145), (1, 146), (2, 6)] hBt10.size ?st11 ?en11
             case st11 =>
              intro zi zo ho hro a' u lc W hM
              match zi, ho, hro with
              | 0, ho, _ => cases ho; exact wn (kMove rfl (hM.ol 12))
              | 1, ho, _ => cases ho; exact wn (kEql29 rfl (hM.d 0 145 rfl) rfl (by decide))
              | 2, ho, _ => cases ho; exact wn (kAssign rfl (hM.d 1 146 rfl))
              | zk + 3, ho, _ => simp at ho
             case en11 =>
              intro u11 lc11 W11 hK11 hB11 hO11 hV11 hX11 hA11
              simp only [putK, fC, fN, kZ, kS, vV, sI, sZ, sS]
              have hBt11 := hBt10.trans hB11
              clear hV11 hX11 hA11
              go_wp2
              exact bodyPost_ret (v := .bool true) (by simp [results, Tryz.results8, go_sem]) rfl ⟨_, rfl, rfl, hBt11⟩
         · have HB0 := Lib.hid hb0
           clear hb0
           have hz1 : ¬ b.num = 0 := fun e => HB0.out (Rat.num_eq_zero.1 e)
           have hln := fun e => hz1 ((num_len f8_5).1 e)
           have HLN := Lib.hid hln
           have hbz : decide (b.num = 0) = false := decide_eq_false hz1
           have HBZ := Lib.hid hbz
           clear hz1 hln hbz
           go_upto_region 13 with fail
           refine rg0 (n := 9) (t16 := 48) w.heap.size [.val (.pointer (some ⟨(lc1 1), 0, none⟩)), .val (.pointer (some ⟨(lc1 1), 1, none⟩)), .val (.slice yp1 yl1 yd1), .val (.int .i64 ((yl1 : Nat) : Int)), .val (.bool false)] [(0, 134), (1, 135), (2, 136), (3, 137), (4, 138)] hBt8.size ?st9 ?en9
           case st9 =>
            intro zi zo ho hro a' u lc W hM
            match zi, ho, hro with
            | 0, ho, _ => cases ho; exact wn (kField26_0 rfl (hM.ol 4))
            | 1, ho, _ => cases ho; exact wn (kField24_1 rfl (hM.d 0 134 rfl))
            | 2, ho, _ => cases ho; exact wn (kLoad1 Tryz.underlying22 rfl rfl (hM.d 1 135 rfl) (hM.o0 q8_1_1) rfl rfl)
            | 3, ho, _ => cases ho; exact wn (kLen rfl (hM.d 2 136 rfl))
            | 4, ho, _ => cases ho; exact wn (kEql3 rfl (hM.d 3 137 rfl) rfl (decide_eq_false (fun e => HLN.out (Int.ofNat.inj e))))
            | zk + 5, ho, _ => simp at ho
           case en9 =>
            intro u9 lc9 W9 hK9 hB9 hO9 hV9 hX9 hA9
            have q9_1_0 := oth0 hO9 q8_1_0
            have f9_0 := f8_0.kept hK9
            have q9_1_1 := oth0 hO9 q8_1_1
            have f9_4 := f8_4.kept hK9
            have q9_4_1 := oth0 hO9 q8_4_1
            have f9_15 := f8_15.kept hK9
            simp only [putK, fC, fN, kZ, kS, vV, sI, sZ, sS]
            have hBt9 := hBt8.trans hB9
            clear hV9 hX9 hA9
            go_upto_region 16 with fail
            refine rg0 (n := 9) (t16 := 48) w.heap.size [.val (.agg #[.bool ya0, .slice yp0 yl0 yd0, .bool ye0, .slice yq0 ym0 yr0]), .val (.agg #[.bool ya1, .slice yp1 yl1 yd1, .bool ye1, .slice yq1 ym1 yr1]), .k (frq (a * b)), .val (.agg #[.bool ya1, .slice yp1 yl1 yd1, .bool ye1, .slice yq1 ym1 yr1]), .k (frq ((a * b) * b⁻¹)), .val (.agg #[.bool ya0, .slice yp0 yl0 yd0, .bool ye0, .slice yq0 ym0 yr0]), .val (.bool true), .val (.bool true), .val (.agg #[.bool ya0, .slice yp0 yl0 yd0, .bool ye0, .slice yq0 ym0 yr0]), .val (.agg #[.bool ya1, .slice yp1 yl1 yd1, .bool ye1, .slice yq1 ym1 yr1]), .k (frq (a * b⁻¹)), .val (.agg #[.bool ya1, .slice yp1 yl1 yd1, .bool ye1, .slice yq1 ym1 yr1]), .k (frq ((a * b⁻¹) * b)), .val (.agg #[.bool ya0, .slice yp0 yl0 yd0, .bool ye0, .slice yq0 ym0 yr0]), .val (.bool true), .val (.bool true), .val (.bool true), .val (.agg #[.bool ya1, .slice yp1 yl1 yd1, .bool ye1, .slice yq1 ym1 yr1]), .val (.agg #[.bool x4_5, .slice y4_5 z4_5 c4_5, .bool x24_5, .slice y24_5 z24_5 c24_5]), .val (.agg #[.bool ya1, .slice yp1 yl1 yd1, .bool ye1, .slice yq1 ym1 yr1]), .k (frq ((1 : Rat) * b⁻¹)), .k (frq (b * ((1 : Rat) * b⁻¹))), .val (.agg #[.bool x4_5, .slice y4_5 z4_5 c4_5, .bool x24_5, .slice y24_5 z24_5 c24_5]), .val (.bool true), .val (.bool true), .val (.bool true)] [(0, 147), (1, 148), (2, 149), (3, 150), (4, 151), (5, 152), (6, 153), (7, 154), (8, 155), (9, 156), (10, 157), (11, 158), (12, 159), (13, 160), (14, 161), (15, 162), (16, 163), (17, 164), (18, 165), (19, 166), (20, 167), (21, 168), (22, 169), (23, 170), (24, 171), (25, 6)] hBt9.size ?st10 ?en10
            case st10 =>
             intro zi zo ho hro a' u lc W hM
             match zi, ho, hro with
             | 0, ho, _ => cases ho; exact wn (kL26 rfl (hM.ol 3) (hM.o0 q9_1_0))
             | 1, ho, _ => cases ho; exact wn (kL26 rfl (hM.ol 4) (hM.o0 q9_1_1))
             | 2, ho, _ => cases ho; exact wn (kCall2 rfl may34 (hM.d 0 147 rfl) (hM.d 1 148 rfl) (c34 (HA.out.fs (by decide)) (HB.out.fs (by decide)) ((Fz.mul HA.out HB.out).fs (by decide)) (f9_0.kept hM.kept) (f9_4.kept hM.kept)))
             | 3, ho, _ => cases ho; exact wn (kL26 rfl (hM.ol 4) (hM.o0 q9_1_1))
             | 4, ho, _ => cases ho; exact wn (kCall2 rfl may38 (hM.v 2 149 rfl) (hM.d 3 150 rfl) (c38 ((Fz.mul HA.out HB.out).fs (by decide)) (HB.out.fs (by decide)) HB0.out HBZ.out ((Fz.mul (Fz.mul HA.out HB.out) (Fz.inv HB.out HB0.out)).fs (by decide)) (hM.kd 2) (f9_4.kept hM.kept)))
             | 5, ho, _ => cases ho; exact wn (kL26 rfl (hM.ol 3) (hM.o0 q9_1_0))
             | 6, ho, _ => cases ho; exact wn (kCall2 rfl may32 (hM.v 4 151 rfl) (hM.d 5 152 rfl) (c32 ((Fz.mul (Fz.mul HA.out HB.out) (Fz.inv HB.out HB0.out)).fs (by decide)) (HA.out.fs (by decide)) (fe10 a b c HB0.out) (hM.kd 4) (f9_0.kept hM.kept)))
             | 7, ho, _ => cases ho; exact wn (kMove rfl (hM.d 6 153 rfl))
             | 8, ho, _ => cases ho; exact hM.wg (hM.d 7 154 rfl) (kL26 rfl (hM.ol 3) (hM.o0 q9_1_0))
             | 9, ho, _ => cases ho; exact hM.wg (hM.d 7 154 rfl) (kL26 rfl (hM.ol 4) (hM.o0 q9_1_1))
             | 10, ho, _ => cases ho; exact hM.wg (hM.d 7 154 rfl) (kCall2 rfl may38 (hM.d 8 155 rfl) (hM.d 9 156 rfl) (c38 (HA.out.fs (by decide)) (HB.out.fs (by decide)) HB0.out HBZ.out ((Fz.mul HA.out (Fz.inv HB.out HB0.out)).fs (by decide)) (f9_0.kept hM.kept) (f9_4.kept hM.kept)))
             | 11, ho, _ => cases ho; exact hM.wg (hM.d 7 154 rfl) (kL26 rfl (hM.ol 4) (hM.o0 q9_1_1))
             | 12, ho, _ => cases ho; exact hM.wg (hM.d 7 154 rfl) (kCall2 rfl may34 (hM.v 10 157 rfl) (hM.d 11 158 rfl) (c34 ((Fz.mul HA.out (Fz.inv HB.out HB0.out)).fs (by decide)) (HB.out.fs (by decide)) ((Fz.mul (Fz.mul HA.out (Fz.inv HB.out HB0.out)) HB.out).fs (by decide)) (hM.kd 10) (f9_4.kept hM.kept)))
             | 13, ho, _ => cases ho; exact hM.wg (hM.d 7 154 rfl) (kL26 rfl (hM.ol 3) (hM.o0 q9_1_0))
             | 14, ho, _ => cases ho; exact hM.wg (hM.d 7 154 rfl) (kCall2 rfl may32 (hM.v 12 159 rfl) (hM.d 13 160 rfl) (c32 ((Fz.mul (Fz.mul HA.out (Fz.inv HB.out HB0.out)) HB.out).fs (by decide)) (HA.out.fs (by decide)) (fe11 a b c HB0.out) (hM.kd 12) (f9_0.kept hM.kept)))
             | 15, ho, _ => cases ho; exact wn (kPick rfl (hM.d 7 154 rfl) (hM.d 14 161 rfl))
             | 16, ho, _ => cases ho; exact wn (kMove rfl (hM.d 15 162 rfl))
             | 17, ho, _ => cases ho; exact hM.wg (hM.d 16 163 rfl) (kL26 rfl (hM.ol 4) (hM.o0 q9_1_1))
             | 18, ho, _ => cases ho; exact hM.wg (hM.d 16 163 rfl) (kL26 rfl (hM.ol 8) (hM.o0 q9_4_1))
             | 19, ho, _ => cases ho; exact hM.wg (hM.d 16 163 rfl) (kL26 rfl (hM.ol 4) (hM.o0 q9_1_1))
             | 20, ho, _ => cases ho; exact hM.wg (hM.d 16 163 rfl) (kCall2 rfl may38 (hM.d 18 165 rfl) (hM.d 19 166 rfl) (c38 (Fz.one.fs (by decide)) (HB.out.fs (by decide)) HB0.out HBZ.out ((Fz.mul Fz.one (Fz.inv HB.out HB0.out)).fs (by decide)) (f9_15.kept hM.kept) (f9_4.kept hM.kept)))
             | 21, ho, _ => cases ho; exact hM.wg (hM.d 16 163 rfl) (kCall2 rfl may34 (hM.d 17 164 rfl) (hM.v 20 167 rfl) (c34 (HB.out.fs (by decide)) ((Fz.mul Fz.one (Fz.inv HB.out HB0.out)).fs (by decide)) ((Fz.mul HB.out (Fz.mul Fz.one (Fz.inv HB.out HB0.out))).fs (by decide)) (f9_4.kept hM.kept) (hM.kd 20)))
             | 22, ho, _ => cases ho; exact hM.wg (hM.d 16 163 rfl) (kL26 rfl (hM.ol 8) (hM.o0 q9_4_1))
             | 23, ho, _ => cases ho; exact hM.wg (hM.d 16 163 rfl) (kCall2 rfl may32 (hM.v 21 168 rfl) (hM.d 22 169 rfl) (c32 ((Fz.mul HB.out (Fz.mul Fz.one (Fz.inv HB.out HB0.out))).fs (by decide)) (Fz.one.fs (by decide)) (fe12 a b c HB0.out) (hM.kd 21) (f9_15.kept hM.kept)))
             | 24, ho, _ => cases ho; exact wn (kPick rfl (hM.d 16 163 rfl) (hM.d 23 170 rfl))
             | 25, ho, _ => cases ho; exact wn (kAssign rfl (hM.d 24 171 rfl))
             | zk + 26, ho, _ => simp at ho
            case en10 =>
             intro u10 lc10 W10 hK10 hB10 hO10 hV10 hX10 hA10
             simp only [putK, fC, fN, kZ, kS, vV, vK, sI, sZ, sS]
             have hBt10 := hBt9.trans hB10
             clear hV10 hX10 hA10
             go_wp2
             exact bodyPost_ret (v := .bool true) (by simp [results, Tryz.results8, go_sem]) rfl ⟨_, rfl, rfl, hBt10⟩
set_option maxRecDepth 100000 in
set_option maxHeartbeats 4000000 in
theorem field_no {na0 nb0 na1 nb1 na2 nb2 : Bool} {Za0 Zb0 Za1 Zb1 Za2 Zb2 : List Int} {v0 v1 v2 : Value} {w : World} (us : false = true ↔ Us na0 Za0 nb0 Zb0 ∧ Us na1 Za1 nb1 Zb1 ∧ Us na2 Za2 nb2 Zb2) (rl0 : RawL Za0 Zb0) (k0 : Is (frw na0 Za0 nb0 Zb0) v0 w) (rl1 : RawL Za1 Zb1) (k1 : Is (frw na1 Za1 nb1 Zb1) v1 w) (rl2 : RawL Za2 Zb2) (k2 : Is (frw na2 Za2 nb2 Zb2) v2 w)  : Calls Tryz.prog 8 #[v0, v1, v2] w (Ret (.val (.bool true)) w) := by
 obtain ⟨yp0, yl0, yd0, yq0, ym0, yr0, rfl, _, _⟩ := id k0
 obtain ⟨yp1, yl1, yd1, yq1, ym1, yr1, rfl, _, _⟩ := id k1
 obtain ⟨yp2, yl2, yd2, yq2, ym2, yr2, rfl, _, _⟩ := id k2
 have HUS := Lib.hid us
 have HRL0 := Lib.hid rl0
 have HRL1 := Lib.hid rl1
 have HRL2 := Lib.hid rl2
 clear us rl0 rl1 rl2
 have hB0 := Below.refl w.heap.size w
 go_enter Tryz.func8, Tryz.ntmps8
 go_upto_region 0 with fail
 refine rg (n := 9) (t16 := 48) w.heap.size [] [.any, .any, .any, .val (.bool false)] [(0, 3), (1, 4), (2, 5), (3, 6)] [⟨26, some 0, 0, pt, 4, [.c #[.bool na0, .slice yp0 yl0 yd0, .bool nb0, .slice yq0 ym0 yr0]], []⟩, ⟨26, some 1, 0, pt, 4, [.c #[.bool na1, .slice yp1 yl1 yd1, .bool nb1, .slice yq1 ym1 yr1]], []⟩, ⟨26, some 2, 0, pt, 4, [.c #[.bool na2, .slice yp2 yl2 yd2, .bool nb2, .slice yq2 ym2 yr2]], []⟩] ?ok1 ?st1 ?al1 ?pu1 ?en1
 case ok1 => exact BxOK.fresh rfl hB0.size
 case st1 =>
  intro zi zo ho hro a' u lc W hM
  match zi, ho, hro with
  | 0, _, hro => exact nr1 hro (by kernel_rfl)
  | 1, _, hro => exact nr1 hro (by kernel_rfl)
  | 2, _, hro => exact nr1 hro (by kernel_rfl)
  | 3, ho, _ => cases ho; exact wn (kAssign rfl rfl)
  | zk + 4, ho, _ => simp at ho
 case al1 =>
  intro zk zb zi zo hk ha ho a' u lc W hM
  match zk, hk with
  | 0, hk => cases hk; cases ha; cases ho; exact ⟨rfl, rfl, rfl, rfl, kBox rfl (hM.ol 0)⟩
  | 1, hk => cases hk; cases ha; cases ho; exact ⟨rfl, rfl, rfl, rfl, kBox rfl (hM.ol 1)⟩
  | 2, hk => cases hk; cases ha; cases ho; exact ⟨rfl, rfl, rfl, rfl, kBox rfl (hM.ol 2)⟩
  | zk + 3, hk => simp at hk
 case pu1 =>
  intro zk zb zs zo hk hs ho a' u lc W zc hM hc hcs
  match zk, hk with
  | 0, hk => cases hk; simp at hs
  | 1, hk => cases hk; simp at hs
  | 2, hk => cases hk; simp at hs
  | zk + 3, hk => simp at hk
 case en1 =>
  intro u1 lc1 W1 hK1 hB1 hO1 hV1 hX1 hA1
  obtain ⟨qr, ho, hl⟩ := hX1 0 _ rfl
  have e1_0 : u1 0 = .pointer (some ⟨lc1 0, 0, none⟩) := (hl 0 rfl).1
  have g1_0 := (hl 0 rfl).2
  have f1_0 := k0.kept hK1
  have q1_0 : W1.heap[(lc1 0)]? = some (.cells #[.bool na0, .slice yp0 yl0 yd0, .bool nb0, .slice yq0 ym0 yr0] 26) := by
   exact qr
  obtain ⟨qr, ho, hl⟩ := hX1 1 _ rfl
  have e1_1 : u1 1 = .pointer (some ⟨lc1 1, 0, none⟩) := (hl 1 rfl).1
  have g1_1 := (hl 1 rfl).2
  have f1_1 := k1.kept hK1
  have q1_1 : W1.heap[(lc1 1)]? = some (.cells #[.bool na1, .slice yp1 yl1 yd1, .bool nb1, .slice yq1 ym1 yr1] 26) := by
   exact qr
  obtain ⟨qr, ho, hl⟩ := hX1 2 _ rfl
  have e1_2 : u1 2 = .pointer (some ⟨lc1 2, 0, none⟩) := (hl 2 rfl).1
  have g1_2 := (hl 2 rfl).2
  have f1_2 := k2.kept hK1
  have q1_2 : W1.heap[(lc1 2)]? = some (.cells #[.bool na2, .slice yp2 yl2 yd2, .bool nb2, .slice yq2 ym2 yr2] 26) := by
   exact qr
  simp only [putK, fC, fN, kZ, kS, vV, vA, sI, sZ, sS, e1_0, e1_1, e1_2]
  have hBt1 := hB0.trans hB1
  clear hV1 hX1 hA1
  go_upto_region 1 with fail
  refine rg0 (n := 9) (t16 := 48) w.heap.size [.val (.bool true), .val (.bool false)] [(0, 13), (1, 14)] hBt1.size ?st2 ?en2
  case st2 =>
   intro zi zo ho hro a' u lc W hM
   match zi, ho, hro with
   | 0, ho, _ => cases ho; exact wn (kCall0 rfl may16 (c16))
   | 1, ho, _ => cases ho; exact wn (kNot rfl (hM.d 0 13 rfl) rfl)
   | zk + 2, ho, _ => simp at ho
  case en2 =>
   intro u2 lc2 W2 hK2 hB2 hO2 hV2 hX2 hA2
   have q2_1_0 := oth0 hO2 q1_0
   have f2_0 := f1_0.kept hK2
   have q2_1_1 := oth0 hO2 q1_1
   have f2_1 := f1_1.kept hK2
   have q2_1_2 := oth0 hO2 q1_2
   have f2_2 := f1_2.kept hK2
   simp only [putK, fC, fN, kZ, kS, vV, sI, sZ, sS]
   have hBt2 := hBt1.trans hB2
   clear hV2 hX2 hA2
   go_upto_region 3 with fail
   refine rg (n := 9) (t16 := 48) w.heap.size [] [.val (.agg #[.bool na0, .slice yp0 yl0 yd0, .bool nb0, .slice yq0 ym0 yr0]), .val (.agg #[.bool na1, .slice yp1 yl1 yd1, .bool nb1, .slice yq1 ym1 yr1]), .val (.agg #[.bool na2, .slice yp2 yl2 yd2, .bool nb2, .slice yq2 ym2 yr2]), .any, .val (.bool false), .val (.bool true)] [(0, 15), (1, 16), (2, 17), (3, 18), (4, 19), (5, 20)] [⟨26, some 3, 0, fun B => .slice (some ⟨B, 0, none⟩) 3 3, 12, [.c #[.bool na0, .slice yp0 yl0 yd0, .bool nb0, .slice yq0 ym0 yr0, .bool na1, .slice yp1 yl1 yd1, .bool nb1, .slice yq1 ym1 yr1, .bool na2, .slice yp2 yl2 yd2, .bool nb2, .slice yq2 ym2 yr2]], []⟩] ?ok3 ?st3 ?al3 ?pu3 ?en3
   case ok3 => exact BxOK.fresh rfl hBt2.size
   case st3 =>
    intro zi zo ho hro a' u lc W hM
    match zi, ho, hro with
    | 0, ho, _ => cases ho; exact wn (kL26 rfl (hM.ol 3) (hM.o0 q2_1_0))
    | 1, ho, _ => cases ho; exact wn (kL26 rfl (hM.ol 4) (hM.o0 q2_1_1))
    | 2, ho, _ => cases ho; exact wn (kL26 rfl (hM.ol 5) (hM.o0 q2_1_2))
    | 3, _, hro => exact nr1 hro (by kernel_rfl)
    | 4, ho, _ => cases ho; exact wn (kCall1 rfl may31 ((hM.v 3 18 rfl).trans (hM.loc 0 _ 3 rfl rfl (by kernel_rfl))) (usable3 (hM.full 0 _ rfl (by kernel_rfl) rfl) (f2_0.kept hM.kept) (f2_1.kept hM.kept) (f2_2.kept hM.kept) HRL0.out HRL1.out HRL2.out HUS.out))
    | 5, ho, _ => cases ho; exact wn (kNot rfl (hM.d 4 19 rfl) rfl)
    | zk + 6, ho, _ => simp at ho
   case al3 =>
    intro zk zb zi zo hk ha ho a' u lc W hM
    match zk, hk with
    | 0, hk => cases hk; cases ha; cases ho; exact ⟨rfl, rfl, rfl, rfl, kSlice3 rfl (hM.d 0 15 rfl) (hM.d 1 16 rfl) (hM.d 2 17 rfl)⟩
    | zk + 1, hk => simp at hk
   case pu3 =>
    intro zk zb zs zo hk hs ho a' u lc W zc hM hc hcs
    match zk, hk with
    | 0, hk => cases hk; simp at hs
    | zk + 1, hk => simp at hk
   case en3 =>
    intro u3 lc3 W3 hK3 hB3 hO3 hV3 hX3 hA3
    obtain ⟨qr, ho, hl⟩ := hX3 0 _ rfl
    have e3_3 : u3 3 = .slice (some ⟨lc3 0, 0, none⟩) 3 3 := (hl 3 rfl).1
    have g3_0 := (hl 3 rfl).2
    simp only [putK, fC, fN, kZ, kS, vV, vA, sI, sZ, sS, e3_3]
    have hBt3 := hBt2.trans hB3
    clear hV3 hX3 hA3
    go_upto_region 4 with fail
    refine rg0 (n := 9) (t16 := 48) w.heap.size [.val (.bool true)] [(0, 6)] hBt3.size ?st4 ?en4
    case st4 =>
     intro zi zo ho hro a' u lc W hM
     match zi, ho, hro with
     | 0, ho, _ => cases ho; exact wn (kAssign rfl rfl)
     | zk + 1, ho, _ => simp at ho
    case en4 =>
     intro u4 lc4 W4 hK4 hB4 hO4 hV4 hX4 hA4
     simp only [putK, fC, fN, kZ, vV, sI, sZ, sS]
     have hBt4 := hBt3.trans hB4
     clear hV4 hX4 hA4
     go_wp2
     exact bodyPost_ret (v := .bool true) (by simp [results, Tryz.results8, go_sem]) rfl ⟨_, rfl, rfl, hBt4⟩
theorem Field_any {na0 nb0 na1 nb1 na2 nb2 : Bool} {Za0 Zb0 Za1 Zb1 Za2 Zb2 : List Int} {v0 v1 v2 : Value} {w : World} (rl0 : RawL Za0 Zb0) (k0 : Is (frw na0 Za0 nb0 Zb0) v0 w) (rl1 : RawL Za1 Zb1) (k1 : Is (frw na1 Za1 nb1 Zb1) v1 w) (rl2 : RawL Za2 Zb2) (k2 : Is (frw na2 Za2 nb2 Zb2) v2 w) : Calls Tryz.prog 8 #[v0, v1, v2] w (Ret (.val (.bool true)) w) := by
 by_cases hu : Us na0 Za0 nb0 Zb0 ∧ Us na1 Za1 nb1 Zb1 ∧ Us na2 Za2 nb2 Zb2
 · obtain ⟨a, h0, f0⟩ := us_frq k0 hu.1 rl0
   obtain ⟨b, h1, f1⟩ := us_frq k1 hu.2.1 rl1
   obtain ⟨c, h2, f2⟩ := us_frq k2 hu.2.2 rl2
   exact field_yes ⟨fun _ => hu, fun _ => rfl⟩ rl0 k0 f0 h0 rl1 k1 f1 h1 rl2 k2 f2 h2
 · exact field_no ⟨fun h => (by cases h), fun h => absurd h hu⟩ rl0 k0 rl1 k1 rl2 k2
end Go.Proofs.YtihdbjilolmfiaaGreatDoor
