import Derived.Test.YtihdbjilolmfiaaGreatDoorD33
import Derived.Test.YtihdbjilolmfiaaGreatDoorD01
set_option maxRecDepth 100000
set_option maxHeartbeats 4000000
namespace Go.Proofs.YtihdbjilolmfiaaGreatDoor
open Go.RowKit Go.WM Go.WR
attribute [local go_sem] Oper.semAt_some
theorem kBuild71 {n : Nat} {o : Oper} {a : Act} {w : World} {x0 x1 x2 x3 x4 x5 : Int} (ho : o.op = .build 71 #[(0, .const (.int .i64 x0)), (1, .const (.int .i64 x1)), (2, .const (.int .i64 x2)), (3, .const (.int .i64 x3)), (4, .const (.int .i64 x4)), (5, .const (.int .i64 x5))]) : Op1 n Tryz.prog o a w (fun v W' => KW (t16 := 48) (.val (.agg #[.int .i64 x0, .int .i64 x1, .int .i64 x2, .int .i64 x3, .int .i64 x4, .int .i64 x5])) v W' ∧ Below w.heap.size w W') := by
 refine Op1.of_run (v := .agg #[.int .i64 x0, .int .i64 x1, .int .i64 x2, .int .i64 x3, .int .i64 x4, .int .i64 x5]) ?_ ⟨rfl, Below.refl _ _⟩
 unfold execOp
 rw [ho]
 simp [go_sem]
theorem c16 {w : World} : Calls Tryz.prog 16 #[] w (Ret (.val (.bool true)) w) := by
 have hB0 := Below.refl w.heap.size w
 go_enter Tryz.func16, Tryz.ntmps16
 go_upto_region 0 with fail
 refine rg0 (n := 9) (t16 := 48) w.heap.size [vF] [(0, 0)] hB0.size ?st1 ?en1
 case st1 =>
  intro zi zo ho hro a' u lc W hM
  match zi, ho, hro with
  | 0, ho, _ => cases ho; exact wn (kAssign rfl rfl)
  | zk + 1, ho, _ => simp at ho
 case en1 =>
  intro u1 lc1 W1 hK1 hB1 hO1 hV1 hX1 hA1
  simp only [putK, fC, fN, kZ, vV, sI, sZ]
  have hBt1 := hB0.trans hB1
  clear hV1 hX1 hA1
  go_upto_region 1 with fail
  refine rg (n := 9) (t16 := 48) w.heap.size [] [.k (num 4), .k (num (-6)), .k (tup2 (.k (frq (Rat.divInt (-2) 3))) (vZ)), .k (tup2 (.k (frq (Rat.divInt (-2) 3))) (vZ)), .k (frq (Rat.divInt (-2) 3)), vZ, .any, .any, vZ] [(0, 18), (1, 19), (2, 20), (3, 17), (4, 21), (5, 22), (6, 1), (8, 2)] [⟨26, some 6, 0, pt, 4, [.c #[.bool false, .slice none 0 0, .bool false, .slice none 0 0]], [(7, 0, 4)]⟩] ?ok2 ?st2 ?al2 ?pu2 ?en2
  case ok2 => exact BxOK.fresh rfl hBt1.size
  case st2 =>
   intro zi zo ho hro a' u lc W hM
   match zi, ho, hro with
   | 0, ho, _ => cases ho; exact wn (kCall1 rfl may48 rfl (c48 (by decide) (by decide)))
   | 1, ho, _ => cases ho; exact wn (kCall1 rfl may48 rfl (c48 (by decide) (by decide)))
   | 2, ho, _ => cases ho; exact wn (kCall2 rfl may46 (hM.v 0 18 rfl) (hM.v 1 19 rfl) (a46 (hM.kd 0) (hM.kd 1)))
   | 3, ho, _ => cases ho; exact wn (kMove rfl (hM.d 2 20 rfl))
   | 4, ho, _ => cases ho; exact wn (kEx20 rfl (hM.d 3 17 rfl))
   | 5, ho, _ => cases ho; exact wn (kEx21 rfl (hM.d 3 17 rfl))
   | 6, _, hro => exact nr1 hro (by kernel_rfl)
   | 7, _, hro => exact nr1 hro (by kernel_rfl)
   | 8, ho, _ => cases ho; exact wn (kAssign rfl (hM.d 5 22 rfl))
   | zk + 9, ho, _ => simp at ho
  case al2 =>
   intro zk zb zi zo hk ha ho a' u lc W hM
   match zk, hk with
   | 0, hk => cases hk; cases ha; cases ho; exact ⟨rfl, rfl, rfl, rfl, kAlloc26 rfl⟩
   | zk + 1, hk => simp at hk
  case pu2 =>
   intro zk zb zs zo hk hs ho a' u lc W zc hM hc hcs
   match zk, hk with
   | 0, hk =>
    cases hk
    simp only [List.mem_cons, List.not_mem_nil, or_false] at hs
    rcases hs with rfl
    · cases ho
      obtain ⟨sb, sp, sl, sc, sb2, sp2, sl2, sc2, e, _⟩ := (show Is (frq (Rat.divInt (-2) 3)) (u 4) W from (hM.kd 4))
      exact kPut rfl e ((hM.v 6 1 rfl).trans (hM.loc 0 _ 6 rfl rfl (by kernel_rfl))) (hM.v 4 21 rfl) hc hcs sz26
   | zk + 1, hk => simp at hk
  case en2 =>
   intro u2 lc2 W2 hK2 hB2 hO2 hV2 hX2 hA2
   have k2_4 := kk (hV2 4 21 rfl) rfl
   obtain ⟨qr, ho, hl⟩ := hX2 0 _ rfl
   have e2_6 : u2 6 = .pointer (some ⟨lc2 0, 0, none⟩) := (hl 6 rfl).1
   have g2_0 := (hl 6 rfl).2
   obtain ⟨x2_7, y2_7, z2_7, c2_7, x22_7, y22_7, z22_7, c22_7, es2_7, sa2_7, sb2_7⟩ := id k2_4
   have sk2_7 : Is (frq (Rat.divInt (-2) 3)) (.agg #[.bool x2_7, .slice y2_7 z2_7 c2_7, .bool x22_7, .slice y22_7 z22_7 c22_7]) W2 := by rw [← es2_7]; exact k2_4
   have q2_0 : W2.heap[(lc2 0)]? = some (.cells #[.bool x2_7, .slice y2_7 z2_7 c2_7, .bool x22_7, .slice y22_7 z22_7 c22_7] 26) := by
    rw [contAll_one rfl (cs := #[.bool x2_7, .slice y2_7 z2_7 c2_7, .bool x22_7, .slice y22_7 z22_7 c22_7]) (by rw [es2_7]; rfl) rfl] at qr; exact qr
   simp only [putK, fC, fN, kZ, kS, vV, vA, vK, sI, sZ, sS, e2_6]
   have hBt2 := hBt1.trans hB2
   clear hV2 hX2 hA2
   go_upto_region 2 with fail
   refine rg (n := 9) (t16 := 48) w.heap.size [] [.k (frq (Rat.divInt 1 6)), .k (frq (Rat.divInt 1 3)), .k (tup2 (.k (frq (Rat.divInt 1 2))) (vZ)), .k (tup2 (.k (frq (Rat.divInt 1 2))) (vZ)), .k (frq (Rat.divInt 1 2)), vZ, .any, .any, vZ] [(0, 24), (1, 25), (2, 26), (3, 23), (4, 27), (5, 28), (6, 3), (8, 4)] [⟨26, some 6, 0, pt, 4, [.c #[.bool false, .slice none 0 0, .bool false, .slice none 0 0]], [(7, 0, 4)]⟩] ?ok3 ?st3 ?al3 ?pu3 ?en3
   case ok3 => exact BxOK.fresh rfl hBt2.size
   case st3 =>
    intro zi zo ho hro a' u lc W hM
    match zi, ho, hro with
    | 0, ho, _ => cases ho; exact wn (kCall2 rfl may22 rfl rfl (c22 (by decide) (by decide) (by decide)))
    | 1, ho, _ => cases ho; exact wn (kCall2 rfl may22 rfl rfl (c22 (by decide) (by decide) (by decide)))
    | 2, ho, _ => cases ho; exact wn (kCall2 rfl may27 (hM.v 0 24 rfl) (hM.v 1 25 rfl) (a27 (hM.kd 0) (hM.kd 1)))
    | 3, ho, _ => cases ho; exact wn (kMove rfl (hM.d 2 26 rfl))
    | 4, ho, _ => cases ho; exact wn (kEx20 rfl (hM.d 3 23 rfl))
    | 5, ho, _ => cases ho; exact wn (kEx21 rfl (hM.d 3 23 rfl))
    | 6, _, hro => exact nr1 hro (by kernel_rfl)
    | 7, _, hro => exact nr1 hro (by kernel_rfl)
    | 8, ho, _ => cases ho; exact wn (kAssign rfl (hM.d 5 28 rfl))
    | zk + 9, ho, _ => simp at ho
   case al3 =>
    intro zk zb zi zo hk ha ho a' u lc W hM
    match zk, hk with
    | 0, hk => cases hk; cases ha; cases ho; exact ⟨rfl, rfl, rfl, rfl, kAlloc26 rfl⟩
    | zk + 1, hk => simp at hk
   case pu3 =>
    intro zk zb zs zo hk hs ho a' u lc W zc hM hc hcs
    match zk, hk with
    | 0, hk =>
     cases hk
     simp only [List.mem_cons, List.not_mem_nil, or_false] at hs
     rcases hs with rfl
     · cases ho
       obtain ⟨sb, sp, sl, sc, sb2, sp2, sl2, sc2, e, _⟩ := (show Is (frq (Rat.divInt 1 2)) (u 4) W from (hM.kd 4))
       exact kPut rfl e ((hM.v 6 3 rfl).trans (hM.loc 0 _ 6 rfl rfl (by kernel_rfl))) (hM.v 4 27 rfl) hc hcs sz26
    | zk + 1, hk => simp at hk
   case en3 =>
    intro u3 lc3 W3 hK3 hB3 hO3 hV3 hX3 hA3
    have k3_4 := kk (hV3 4 27 rfl) rfl
    obtain ⟨qr, ho, hl⟩ := hX3 0 _ rfl
    have e3_6 : u3 6 = .pointer (some ⟨lc3 0, 0, none⟩) := (hl 6 rfl).1
    have g3_0 := (hl 6 rfl).2
    obtain ⟨x3_7, y3_7, z3_7, c3_7, x23_7, y23_7, z23_7, c23_7, es3_7, sa3_7, sb3_7⟩ := id k3_4
    have sk3_7 : Is (frq (Rat.divInt 1 2)) (.agg #[.bool x3_7, .slice y3_7 z3_7 c3_7, .bool x23_7, .slice y23_7 z23_7 c23_7]) W3 := by rw [← es3_7]; exact k3_4
    have q3_0 : W3.heap[(lc3 0)]? = some (.cells #[.bool x3_7, .slice y3_7 z3_7 c3_7, .bool x23_7, .slice y23_7 z23_7 c23_7] 26) := by
     rw [contAll_one rfl (cs := #[.bool x3_7, .slice y3_7 z3_7 c3_7, .bool x23_7, .slice y23_7 z23_7 c23_7]) (by rw [es3_7]; rfl) rfl] at qr; exact qr
    have q3_2_0 := oth0 hO3 q2_0
    have f3_0 := sk2_7.kept hK3
    simp only [putK, fC, fN, kZ, kS, vV, vA, vK, sI, sZ, sS, e3_6]
    have hBt3 := hBt2.trans hB3
    clear hV3 hX3 hA3
    go_upto_region 3 with fail
    refine rg (n := 9) (t16 := 48) w.heap.size [] [.k (frq (Rat.divInt (-2) 3)), .k (tup2 (.k (frq (Rat.divInt (-27) 8))) (vZ)), .k (tup2 (.k (frq (Rat.divInt (-27) 8))) (vZ)), .k (frq (Rat.divInt (-27) 8)), vZ, .any, .any, vZ] [(0, 30), (1, 31), (2, 29), (3, 32), (4, 33), (5, 5), (7, 6)] [⟨26, some 5, 0, pt, 4, [.c #[.bool false, .slice none 0 0, .bool false, .slice none 0 0]], [(6, 0, 3)]⟩] ?ok4 ?st4 ?al4 ?pu4 ?en4
    case ok4 => exact BxOK.fresh rfl hBt3.size
    case st4 =>
     intro zi zo ho hro a' u lc W hM
     match zi, ho, hro with
     | 0, ho, _ => cases ho; exact wn (kCall2 rfl may22 rfl rfl (c22 (by decide) (by decide) (by decide)))
     | 1, ho, _ => cases ho; exact wn (kCall2 rfl may23 (hM.v 0 30 rfl) rfl (a23 (hM.kd 0)))
     | 2, ho, _ => cases ho; exact wn (kMove rfl (hM.d 1 31 rfl))
     | 3, ho, _ => cases ho; exact wn (kEx20 rfl (hM.d 2 29 rfl))
     | 4, ho, _ => cases ho; exact wn (kEx21 rfl (hM.d 2 29 rfl))
     | 5, _, hro => exact nr1 hro (by kernel_rfl)
     | 6, _, hro => exact nr1 hro (by kernel_rfl)
     | 7, ho, _ => cases ho; exact wn (kAssign rfl (hM.d 4 33 rfl))
     | zk + 8, ho, _ => simp at ho
    case al4 =>
     intro zk zb zi zo hk ha ho a' u lc W hM
     match zk, hk with
     | 0, hk => cases hk; cases ha; cases ho; exact ⟨rfl, rfl, rfl, rfl, kAlloc26 rfl⟩
     | zk + 1, hk => simp at hk
    case pu4 =>
     intro zk zb zs zo hk hs ho a' u lc W zc hM hc hcs
     match zk, hk with
     | 0, hk =>
      cases hk
      simp only [List.mem_cons, List.not_mem_nil, or_false] at hs
      rcases hs with rfl
      · cases ho
        obtain ⟨sb, sp, sl, sc, sb2, sp2, sl2, sc2, e, _⟩ := (show Is (frq (Rat.divInt (-27) 8)) (u 3) W from (hM.kd 3))
        exact kPut rfl e ((hM.v 5 5 rfl).trans (hM.loc 0 _ 5 rfl rfl (by kernel_rfl))) (hM.v 3 32 rfl) hc hcs sz26
     | zk + 1, hk => simp at hk
    case en4 =>
     intro u4 lc4 W4 hK4 hB4 hO4 hV4 hX4 hA4
     have k4_3 := kk (hV4 3 32 rfl) rfl
     obtain ⟨qr, ho, hl⟩ := hX4 0 _ rfl
     have e4_5 : u4 5 = .pointer (some ⟨lc4 0, 0, none⟩) := (hl 5 rfl).1
     have g4_0 := (hl 5 rfl).2
     obtain ⟨x4_6, y4_6, z4_6, c4_6, x24_6, y24_6, z24_6, c24_6, es4_6, sa4_6, sb4_6⟩ := id k4_3
     have sk4_6 : Is (frq (Rat.divInt (-27) 8)) (.agg #[.bool x4_6, .slice y4_6 z4_6 c4_6, .bool x24_6, .slice y24_6 z24_6 c24_6]) W4 := by rw [← es4_6]; exact k4_3
     have q4_0 : W4.heap[(lc4 0)]? = some (.cells #[.bool x4_6, .slice y4_6 z4_6 c4_6, .bool x24_6, .slice y24_6 z24_6 c24_6] 26) := by
      rw [contAll_one rfl (cs := #[.bool x4_6, .slice y4_6 z4_6 c4_6, .bool x24_6, .slice y24_6 z24_6 c24_6]) (by rw [es4_6]; rfl) rfl] at qr; exact qr
     have q4_2_0 := oth0 hO4 q3_2_0
     have f4_0 := f3_0.kept hK4
     have q4_3_0 := oth0 hO4 q3_0
     have f4_3 := sk3_7.kept hK4
     simp only [putK, fC, fN, kZ, kS, vV, vA, vK, sI, sZ, sS, e4_5]
     have hBt4 := hBt3.trans hB4
     clear hV4 hX4 hA4
     go_upto_region 4 with fail
     refine rg (n := 9) (t16 := 48) w.heap.size [] [.k (frq (Rat.divInt (-1) 2)), .k (tup2 (.k (num (-1))) (vZ)), .k (tup2 (.k (num (-1))) (vZ)), .k (num (-1)), vZ, .any, .any, vZ] [(0, 35), (1, 36), (2, 34), (3, 37), (4, 38), (5, 7), (7, 8)] [⟨24, some 5, 0, pt, 2, [.c #[.bool false, .slice none 0 0]], [(6, 0, 3)]⟩] ?ok5 ?st5 ?al5 ?pu5 ?en5
     case ok5 => exact BxOK.fresh rfl hBt4.size
     case st5 =>
      intro zi zo ho hro a' u lc W hM
      match zi, ho, hro with
      | 0, ho, _ => cases ho; exact wn (kCall2 rfl may22 rfl rfl (c22 (by decide) (by decide) (by decide)))
      | 1, ho, _ => cases ho; exact wn (kCall1 rfl may51 (hM.v 0 35 rfl) (a51 (hM.kd 0)))
      | 2, ho, _ => cases ho; exact wn (kMove rfl (hM.d 1 36 rfl))
      | 3, ho, _ => cases ho; exact wn (kEx20 rfl (hM.d 2 34 rfl))
      | 4, ho, _ => cases ho; exact wn (kEx21 rfl (hM.d 2 34 rfl))
      | 5, _, hro => exact nr1 hro (by kernel_rfl)
      | 6, _, hro => exact nr1 hro (by kernel_rfl)
      | 7, ho, _ => cases ho; exact wn (kAssign rfl (hM.d 4 38 rfl))
      | zk + 8, ho, _ => simp at ho
     case al5 =>
      intro zk zb zi zo hk ha ho a' u lc W hM
      match zk, hk with
      | 0, hk => cases hk; cases ha; cases ho; exact ⟨rfl, rfl, rfl, rfl, kAlloc24 rfl⟩
      | zk + 1, hk => simp at hk
     case pu5 =>
      intro zk zb zs zo hk hs ho a' u lc W zc hM hc hcs
      match zk, hk with
      | 0, hk =>
       cases hk
       simp only [List.mem_cons, List.not_mem_nil, or_false] at hs
       rcases hs with rfl
       · cases ho
         obtain ⟨sb, sp, sl, sc, e⟩ := (show Is (num (-1)) (u 3) W from (hM.kd 3)).form
         exact kPut rfl e ((hM.v 5 7 rfl).trans (hM.loc 0 _ 5 rfl rfl (by kernel_rfl))) (hM.v 3 37 rfl) hc hcs sz24
      | zk + 1, hk => simp at hk
     case en5 =>
      intro u5 lc5 W5 hK5 hB5 hO5 hV5 hX5 hA5
      have k5_3 := kk (hV5 3 37 rfl) rfl
      obtain ⟨qr, ho, hl⟩ := hX5 0 _ rfl
      have e5_5 : u5 5 = .pointer (some ⟨lc5 0, 0, none⟩) := (hl 5 rfl).1
      have g5_0 := (hl 5 rfl).2
      obtain ⟨x5_6, y5_6, z5_6, c5_6, es5_6⟩ := k5_3.form
      have sk5_6 : Is (num (-1)) (.agg #[.bool x5_6, .slice y5_6 z5_6 c5_6]) W5 := by rw [← es5_6]; exact k5_3
      have q5_0 : W5.heap[(lc5 0)]? = some (.cells #[.bool x5_6, .slice y5_6 z5_6 c5_6] 24) := by
       rw [contAll_one rfl (cs := #[.bool x5_6, .slice y5_6 z5_6 c5_6]) (by rw [es5_6]; rfl) rfl] at qr; exact qr
      have q5_2_0 := oth0 hO5 q4_2_0
      have f5_0 := f4_0.kept hK5
      have q5_3_0 := oth0 hO5 q4_3_0
      have f5_3 := f4_3.kept hK5
      have q5_4_0 := oth0 hO5 q4_0
      have f5_6 := sk4_6.kept hK5
      simp only [putK, fC, fN, kZ, kS, vV, vA, vK, sI, sZ, sS, e5_5]
      have hBt5 := hBt4.trans hB5
      clear hV5 hX5 hA5
      go_upto_region 5 with fail
      refine rg (n := 9) (t16 := 48) w.heap.size [] [.k (frq (Rat.divInt (-1) 2)), .k (tup2 (.k (num 0)) (vZ)), .k (tup2 (.k (num 0)) (vZ)), .k (num 0), vZ, .any, .any, vZ] [(0, 40), (1, 41), (2, 39), (3, 42), (4, 43), (5, 9), (7, 10)] [⟨24, some 5, 0, pt, 2, [.c #[.bool false, .slice none 0 0]], [(6, 0, 3)]⟩] ?ok6 ?st6 ?al6 ?pu6 ?en6
      case ok6 => exact BxOK.fresh rfl hBt5.size
      case st6 =>
       intro zi zo ho hro a' u lc W hM
       match zi, ho, hro with
       | 0, ho, _ => cases ho; exact wn (kCall2 rfl may22 rfl rfl (c22 (by decide) (by decide) (by decide)))
       | 1, ho, _ => cases ho; exact wn (kCall1 rfl may52 (hM.v 0 40 rfl) (a52 (hM.kd 0)))
       | 2, ho, _ => cases ho; exact wn (kMove rfl (hM.d 1 41 rfl))
       | 3, ho, _ => cases ho; exact wn (kEx20 rfl (hM.d 2 39 rfl))
       | 4, ho, _ => cases ho; exact wn (kEx21 rfl (hM.d 2 39 rfl))
       | 5, _, hro => exact nr1 hro (by kernel_rfl)
       | 6, _, hro => exact nr1 hro (by kernel_rfl)
       | 7, ho, _ => cases ho; exact wn (kAssign rfl (hM.d 4 43 rfl))
       | zk + 8, ho, _ => simp at ho
      case al6 =>
       intro zk zb zi zo hk ha ho a' u lc W hM
       match zk, hk with
       | 0, hk => cases hk; cases ha; cases ho; exact ⟨rfl, rfl, rfl, rfl, kAlloc24 rfl⟩
       | zk + 1, hk => simp at hk
      case pu6 =>
       intro zk zb zs zo hk hs ho a' u lc W zc hM hc hcs
       match zk, hk with
       | 0, hk =>
        cases hk
        simp only [List.mem_cons, List.not_mem_nil, or_false] at hs
        rcases hs with rfl
        · cases ho
          obtain ⟨sb, sp, sl, sc, e⟩ := (show Is (num 0) (u 3) W from (hM.kd 3)).form
          exact kPut rfl e ((hM.v 5 9 rfl).trans (hM.loc 0 _ 5 rfl rfl (by kernel_rfl))) (hM.v 3 42 rfl) hc hcs sz24
       | zk + 1, hk => simp at hk
      case en6 =>
       intro u6 lc6 W6 hK6 hB6 hO6 hV6 hX6 hA6
       have k6_3 := kk (hV6 3 42 rfl) rfl
       obtain ⟨qr, ho, hl⟩ := hX6 0 _ rfl
       have e6_5 : u6 5 = .pointer (some ⟨lc6 0, 0, none⟩) := (hl 5 rfl).1
       have g6_0 := (hl 5 rfl).2
       obtain ⟨x6_6, y6_6, z6_6, c6_6, es6_6⟩ := k6_3.form
       have sk6_6 : Is (num 0) (.agg #[.bool x6_6, .slice y6_6 z6_6 c6_6]) W6 := by rw [← es6_6]; exact k6_3
       have q6_0 : W6.heap[(lc6 0)]? = some (.cells #[.bool x6_6, .slice y6_6 z6_6 c6_6] 24) := by
        rw [contAll_one rfl (cs := #[.bool x6_6, .slice y6_6 z6_6 c6_6]) (by rw [es6_6]; rfl) rfl] at qr; exact qr
       have q6_2_0 := oth0 hO6 q5_2_0
       have f6_0 := f5_0.kept hK6
       have q6_3_0 := oth0 hO6 q5_3_0
       have f6_3 := f5_3.kept hK6
       have q6_4_0 := oth0 hO6 q5_4_0
       have f6_6 := f5_6.kept hK6
       have q6_5_0 := oth0 hO6 q5_0
       have f6_9 := sk5_6.kept hK6
       simp only [putK, fC, fN, kZ, kS, vV, vA, vK, sI, sZ, sS, e6_5]
       have hBt6 := hBt5.trans hB6
       clear hV6 hX6 hA6
       go_upto_region 6 with fail
       refine rg (n := 9) (t16 := 48) w.heap.size [] [.k (frq (Rat.divInt 1 1)), .k (frq (Rat.divInt 3 10)), .k (tup2 (.k (frq (Rat.divInt 9 10))) (vZ)), .k (tup2 (.k (frq (Rat.divInt 9 10))) (vZ)), .k (frq (Rat.divInt 9 10)), vZ, .any, .any, vZ] [(0, 45), (1, 46), (2, 47), (3, 44), (4, 48), (5, 49), (6, 11), (8, 12)] [⟨26, some 6, 0, pt, 4, [.c #[.bool false, .slice none 0 0, .bool false, .slice none 0 0]], [(7, 0, 4)]⟩] ?ok7 ?st7 ?al7 ?pu7 ?en7
       case ok7 => exact BxOK.fresh rfl hBt6.size
       case st7 =>
        intro zi zo ho hro a' u lc W hM
        match zi, ho, hro with
        | 0, ho, _ => cases ho; exact wn (kCall2 rfl may22 rfl rfl (c22 (by decide) (by decide) (by decide)))
        | 1, ho, _ => cases ho; exact wn (kCall2 rfl may22 rfl rfl (c22 (by decide) (by decide) (by decide)))
        | 2, ho, _ => cases ho; exact wn (kCall3 rfl may17 (hM.v 0 45 rfl) (hM.v 1 46 rfl) rfl (a17a (hM.kd 0) (hM.kd 1)))
        | 3, ho, _ => cases ho; exact wn (kMove rfl (hM.d 2 47 rfl))
        | 4, ho, _ => cases ho; exact wn (kEx20 rfl (hM.d 3 44 rfl))
        | 5, ho, _ => cases ho; exact wn (kEx21 rfl (hM.d 3 44 rfl))
        | 6, _, hro => exact nr1 hro (by kernel_rfl)
        | 7, _, hro => exact nr1 hro (by kernel_rfl)
        | 8, ho, _ => cases ho; exact wn (kAssign rfl (hM.d 5 49 rfl))
        | zk + 9, ho, _ => simp at ho
       case al7 =>
        intro zk zb zi zo hk ha ho a' u lc W hM
        match zk, hk with
        | 0, hk => cases hk; cases ha; cases ho; exact ⟨rfl, rfl, rfl, rfl, kAlloc26 rfl⟩
        | zk + 1, hk => simp at hk
       case pu7 =>
        intro zk zb zs zo hk hs ho a' u lc W zc hM hc hcs
        match zk, hk with
        | 0, hk =>
         cases hk
         simp only [List.mem_cons, List.not_mem_nil, or_false] at hs
         rcases hs with rfl
         · cases ho
           obtain ⟨sb, sp, sl, sc, sb2, sp2, sl2, sc2, e, _⟩ := (show Is (frq (Rat.divInt 9 10)) (u 4) W from (hM.kd 4))
           exact kPut rfl e ((hM.v 6 11 rfl).trans (hM.loc 0 _ 6 rfl rfl (by kernel_rfl))) (hM.v 4 48 rfl) hc hcs sz26
        | zk + 1, hk => simp at hk
       case en7 =>
        intro u7 lc7 W7 hK7 hB7 hO7 hV7 hX7 hA7
        have k7_4 := kk (hV7 4 48 rfl) rfl
        obtain ⟨qr, ho, hl⟩ := hX7 0 _ rfl
        have e7_6 : u7 6 = .pointer (some ⟨lc7 0, 0, none⟩) := (hl 6 rfl).1
        have g7_0 := (hl 6 rfl).2
        obtain ⟨x7_7, y7_7, z7_7, c7_7, x27_7, y27_7, z27_7, c27_7, es7_7, sa7_7, sb7_7⟩ := id k7_4
        have sk7_7 : Is (frq (Rat.divInt 9 10)) (.agg #[.bool x7_7, .slice y7_7 z7_7 c7_7, .bool x27_7, .slice y27_7 z27_7 c27_7]) W7 := by rw [← es7_7]; exact k7_4
        have q7_0 : W7.heap[(lc7 0)]? = some (.cells #[.bool x7_7, .slice y7_7 z7_7 c7_7, .bool x27_7, .slice y27_7 z27_7 c27_7] 26) := by
         rw [contAll_one rfl (cs := #[.bool x7_7, .slice y7_7 z7_7 c7_7, .bool x27_7, .slice y27_7 z27_7 c27_7]) (by rw [es7_7]; rfl) rfl] at qr; exact qr
        have q7_2_0 := oth0 hO7 q6_2_0
        have f7_0 := f6_0.kept hK7
        have q7_3_0 := oth0 hO7 q6_3_0
        have f7_3 := f6_3.kept hK7
        have q7_4_0 := oth0 hO7 q6_4_0
        have f7_6 := f6_6.kept hK7
        have q7_5_0 := oth0 hO7 q6_5_0
        have f7_9 := f6_9.kept hK7
        have q7_6_0 := oth0 hO7 q6_0
        have f7_10 := sk6_6.kept hK7
        simp only [putK, fC, fN, kZ, kS, vV, vA, vK, sI, sZ, sS, e7_6]
        have hBt7 := hBt6.trans hB7
        clear hV7 hX7 hA7
        go_upto_region 7 with fail
        refine rg (n := 9) (t16 := 48) w.heap.size [] [.k (tup2 (.val (.agg #[.bool false, .slice none 0 0, .bool false, .slice none 0 0])) (.val (.int .i64 21))), .k (tup2 (.val (.agg #[.bool false, .slice none 0 0, .bool false, .slice none 0 0])) (.val (.int .i64 21))), .val (.agg #[.bool false, .slice none 0 0, .bool false, .slice none 0 0]), .val (.int .i64 21), .any, .any, .val (.int .i64 21)] [(0, 51), (1, 50), (2, 52), (3, 53), (4, 13), (6, 14)] [⟨26, some 4, 0, pt, 4, [.c #[.bool false, .slice none 0 0, .bool false, .slice none 0 0]], [(5, 0, 2)]⟩] ?ok8 ?st8 ?al8 ?pu8 ?en8
        case ok8 => exact BxOK.fresh rfl hBt7.size
        case st8 =>
         intro zi zo ho hro a' u lc W hM
         match zi, ho, hro with
         | 0, ho, _ => cases ho; exact wn (kCall1 rfl may55 rfl (a55a))
         | 1, ho, _ => cases ho; exact wn (kMove rfl (hM.d 0 51 rfl))
         | 2, ho, _ => cases ho; exact wn (kEx20 rfl (hM.d 1 50 rfl))
         | 3, ho, _ => cases ho; exact wn (kEx21 rfl (hM.d 1 50 rfl))
         | 4, _, hro => exact nr1 hro (by kernel_rfl)
         | 5, _, hro => exact nr1 hro (by kernel_rfl)
         | 6, ho, _ => cases ho; exact wn (kAssign rfl (hM.d 3 53 rfl))
         | zk + 7, ho, _ => simp at ho
        case al8 =>
         intro zk zb zi zo hk ha ho a' u lc W hM
         match zk, hk with
         | 0, hk => cases hk; cases ha; cases ho; exact ⟨rfl, rfl, rfl, rfl, kAlloc26 rfl⟩
         | zk + 1, hk => simp at hk
        case pu8 =>
         intro zk zb zs zo hk hs ho a' u lc W zc hM hc hcs
         match zk, hk with
         | 0, hk =>
          cases hk
          simp only [List.mem_cons, List.not_mem_nil, or_false] at hs
          rcases hs with rfl
          · cases ho
            have e : u 2 = .agg #[.bool false, .slice none 0 0, .bool false, .slice none 0 0] := hM.kd 2
            exact kPut rfl e ((hM.v 4 13 rfl).trans (hM.loc 0 _ 4 rfl rfl (by kernel_rfl))) (hM.v 2 52 rfl) hc hcs sz26
         | zk + 1, hk => simp at hk
        case en8 =>
         intro u8 lc8 W8 hK8 hB8 hO8 hV8 hX8 hA8
         obtain ⟨qr, ho, hl⟩ := hX8 0 _ rfl
         have e8_4 : u8 4 = .pointer (some ⟨lc8 0, 0, none⟩) := (hl 4 rfl).1
         have g8_0 := (hl 4 rfl).2
         have q8_2_0 := oth0 hO8 q7_2_0
         have f8_0 := f7_0.kept hK8
         have q8_3_0 := oth0 hO8 q7_3_0
         have f8_3 := f7_3.kept hK8
         have q8_4_0 := oth0 hO8 q7_4_0
         have f8_6 := f7_6.kept hK8
         have q8_5_0 := oth0 hO8 q7_5_0
         have f8_9 := f7_9.kept hK8
         have q8_6_0 := oth0 hO8 q7_6_0
         have f8_10 := f7_10.kept hK8
         have q8_7_0 := oth0 hO8 q7_0
         have f8_11 := sk7_7.kept hK8
         simp only [putK, fC, fN, kZ, kS, vV, vA, vK, sI, sZ, sS, e8_4]
         have hBt8 := hBt7.trans hB8
         clear hV8 hX8 hA8
         go_upto_region 8 with fail
         refine rg (n := 9) (t16 := 48) w.heap.size [] [.k (tup2 (.val (.agg #[.bool false, .slice none 0 0, .bool false, .slice none 0 0])) (.val (.int .i64 21))), .k (tup2 (.val (.agg #[.bool false, .slice none 0 0, .bool false, .slice none 0 0])) (.val (.int .i64 21))), .val (.agg #[.bool false, .slice none 0 0, .bool false, .slice none 0 0]), .val (.int .i64 21), .any, .any, .val (.int .i64 21)] [(0, 55), (1, 54), (2, 56), (3, 57), (4, 15), (6, 16)] [⟨26, some 4, 0, pt, 4, [.c #[.bool false, .slice none 0 0, .bool false, .slice none 0 0]], [(5, 0, 2)]⟩] ?ok9 ?st9 ?al9 ?pu9 ?en9
         case ok9 => exact BxOK.fresh rfl hBt8.size
         case st9 =>
          intro zi zo ho hro a' u lc W hM
          match zi, ho, hro with
          | 0, ho, _ => cases ho; exact wn (kCall1 rfl may55 rfl (a55b))
          | 1, ho, _ => cases ho; exact wn (kMove rfl (hM.d 0 55 rfl))
          | 2, ho, _ => cases ho; exact wn (kEx20 rfl (hM.d 1 54 rfl))
          | 3, ho, _ => cases ho; exact wn (kEx21 rfl (hM.d 1 54 rfl))
          | 4, _, hro => exact nr1 hro (by kernel_rfl)
          | 5, _, hro => exact nr1 hro (by kernel_rfl)
          | 6, ho, _ => cases ho; exact wn (kAssign rfl (hM.d 3 57 rfl))
          | zk + 7, ho, _ => simp at ho
         case al9 =>
          intro zk zb zi zo hk ha ho a' u lc W hM
          match zk, hk with
          | 0, hk => cases hk; cases ha; cases ho; exact ⟨rfl, rfl, rfl, rfl, kAlloc26 rfl⟩
          | zk + 1, hk => simp at hk
         case pu9 =>
          intro zk zb zs zo hk hs ho a' u lc W zc hM hc hcs
          match zk, hk with
          | 0, hk =>
           cases hk
           simp only [List.mem_cons, List.not_mem_nil, or_false] at hs
           rcases hs with rfl
           · cases ho
             have e : u 2 = .agg #[.bool false, .slice none 0 0, .bool false, .slice none 0 0] := hM.kd 2
             exact kPut rfl e ((hM.v 4 15 rfl).trans (hM.loc 0 _ 4 rfl rfl (by kernel_rfl))) (hM.v 2 56 rfl) hc hcs sz26
          | zk + 1, hk => simp at hk
         case en9 =>
          intro u9 lc9 W9 hK9 hB9 hO9 hV9 hX9 hA9
          obtain ⟨qr, ho, hl⟩ := hX9 0 _ rfl
          have e9_4 : u9 4 = .pointer (some ⟨lc9 0, 0, none⟩) := (hl 4 rfl).1
          have g9_0 := (hl 4 rfl).2
          have q9_2_0 := oth0 hO9 q8_2_0
          have f9_0 := f8_0.kept hK9
          have q9_3_0 := oth0 hO9 q8_3_0
          have f9_3 := f8_3.kept hK9
          have q9_4_0 := oth0 hO9 q8_4_0
          have f9_6 := f8_6.kept hK9
          have q9_5_0 := oth0 hO9 q8_5_0
          have f9_9 := f8_9.kept hK9
          have q9_6_0 := oth0 hO9 q8_6_0
          have f9_10 := f8_10.kept hK9
          have q9_7_0 := oth0 hO9 q8_7_0
          have f9_11 := f8_11.kept hK9
          simp only [putK, fC, fN, kZ, kS, vV, vA, vK, sI, sZ, sS, e9_4]
          have hBt9 := hBt8.trans hB9
          clear hV9 hX9 hA9
          go_upto_region 9 with fail
          refine rg0 (n := 9) (t16 := 48) w.heap.size [.val (.agg #[.bool x2_7, .slice y2_7 z2_7 c2_7, .bool x22_7, .slice y22_7 z22_7 c22_7]), vZ, vT, vF, vF, .val (.agg #[.bool x3_7, .slice y3_7 z3_7 c3_7, .bool x23_7, .slice y23_7 z23_7 c23_7]), vZ, vT, vF, vF, vF, .val (.agg #[.bool x4_6, .slice y4_6 z4_6 c4_6, .bool x24_6, .slice y24_6 z24_6 c24_6]), vZ, vT, vF, vF, vF, vZ, vF, vF, vF, .val (.agg #[.bool x7_7, .slice y7_7 z7_7 c7_7, .bool x27_7, .slice y27_7 z27_7 c27_7]), vZ, vT, vF, vF, vF, .val (.int .i64 21), vF, vF, vF, .val (.int .i64 21), vF, vF] [(0, 58), (1, 59), (2, 60), (3, 61), (4, 62), (5, 63), (6, 64), (7, 65), (8, 66), (9, 67), (10, 68), (11, 69), (12, 70), (13, 71), (14, 72), (15, 73), (16, 74), (17, 75), (18, 76), (19, 77), (20, 78), (21, 79), (22, 80), (23, 81), (24, 82), (25, 83), (26, 84), (27, 85), (28, 86), (29, 87), (30, 88), (31, 89), (32, 90), (33, 91)] hBt9.size ?st10 ?en10
          case st10 =>
           intro zi zo ho hro a' u lc W hM
           match zi, ho, hro with
           | 0, ho, _ => cases ho; exact wn (kL26 rfl (hM.ol 1) (hM.o0 q9_2_0))
           | 1, ho, _ => cases ho; exact wn (kMove rfl (hM.ol 2))
           | 2, ho, _ => cases ho; exact wn (kCall4 rfl may42 (hM.d 0 58 rfl) (hM.d 1 59 rfl) rfl rfl (c42 (by decide) (by decide) (by decide) (decide_eq_true rfl) (f9_0.kept hM.kept)))
           | 3, ho, _ => cases ho; exact wn (kNot rfl (hM.d 2 60 rfl) rfl)
           | 4, ho, _ => cases ho; exact wn (kMove rfl (hM.d 3 61 rfl))
           | 5, ho, _ => cases ho; exact hM.wg (hM.d 4 62 rfl) (kL26 rfl (hM.ol 3) (hM.o0 q9_3_0))
           | 6, ho, _ => cases ho; exact hM.wg (hM.d 4 62 rfl) (kMove rfl (hM.ol 4))
           | 7, ho, _ => cases ho; exact hM.wg (hM.d 4 62 rfl) (kCall4 rfl may42 (hM.d 5 63 rfl) (hM.d 6 64 rfl) rfl rfl (c42 (by decide) (by decide) (by decide) (decide_eq_true rfl) (f9_3.kept hM.kept)))
           | 8, ho, _ => cases ho; exact hM.wg (hM.d 4 62 rfl) (kNot rfl (hM.d 7 65 rfl) rfl)
           | 9, ho, _ => cases ho; exact wn (kPick rfl (hM.d 4 62 rfl) (hM.d 8 66 rfl))
           | 10, ho, _ => cases ho; exact wn (kMove rfl (hM.d 9 67 rfl))
           | 11, ho, _ => cases ho; exact hM.wg (hM.d 10 68 rfl) (kL26 rfl (hM.ol 5) (hM.o0 q9_4_0))
           | 12, ho, _ => cases ho; exact hM.wg (hM.d 10 68 rfl) (kMove rfl (hM.ol 6))
           | 13, ho, _ => cases ho; exact hM.wg (hM.d 10 68 rfl) (kCall4 rfl may42 (hM.d 11 69 rfl) (hM.d 12 70 rfl) rfl rfl (c42 (by decide) (by decide) (by decide) (decide_eq_true rfl) (f9_6.kept hM.kept)))
           | 14, ho, _ => cases ho; exact hM.wg (hM.d 10 68 rfl) (kNot rfl (hM.d 13 71 rfl) rfl)
           | 15, ho, _ => cases ho; exact wn (kPick rfl (hM.d 10 68 rfl) (hM.d 14 72 rfl))
           | 16, ho, _ => cases ho; exact wn (kMove rfl (hM.d 15 73 rfl))
           | 17, ho, _ => cases ho; exact hM.wg (hM.d 16 74 rfl) (kMove rfl (hM.ol 4))
           | 18, ho, _ => cases ho; exact hM.wg (hM.d 16 74 rfl) (kNeq29 rfl (hM.d 17 75 rfl) rfl (by decide))
           | 19, ho, _ => cases ho; exact wn (kPick rfl (hM.d 16 74 rfl) (hM.d 18 76 rfl))
           | 20, ho, _ => cases ho; exact wn (kMove rfl (hM.d 19 77 rfl))
           | 21, ho, _ => cases ho; exact hM.wg (hM.d 20 78 rfl) (kL26 rfl (hM.ol 11) (hM.o0 q9_7_0))
           | 22, ho, _ => cases ho; exact hM.wg (hM.d 20 78 rfl) (kMove rfl (hM.ol 12))
           | 23, ho, _ => cases ho; exact hM.wg (hM.d 20 78 rfl) (kCall4 rfl may42 (hM.d 21 79 rfl) (hM.d 22 80 rfl) rfl rfl (c42 (by decide) (by decide) (by decide) (decide_eq_true rfl) (f9_11.kept hM.kept)))
           | 24, ho, _ => cases ho; exact hM.wg (hM.d 20 78 rfl) (kNot rfl (hM.d 23 81 rfl) rfl)
           | 25, ho, _ => cases ho; exact wn (kPick rfl (hM.d 20 78 rfl) (hM.d 24 82 rfl))
           | 26, ho, _ => cases ho; exact wn (kMove rfl (hM.d 25 83 rfl))
           | 27, ho, _ => cases ho; exact hM.wg (hM.d 26 84 rfl) (kMove rfl (hM.ol 14))
           | 28, ho, _ => cases ho; exact hM.wg (hM.d 26 84 rfl) (kNeq29 rfl (hM.d 27 85 rfl) rfl (by decide))
           | 29, ho, _ => cases ho; exact wn (kPick rfl (hM.d 26 84 rfl) (hM.d 28 86 rfl))
           | 30, ho, _ => cases ho; exact wn (kMove rfl (hM.d 29 87 rfl))
           | 31, ho, _ => cases ho; exact hM.wg (hM.d 30 88 rfl) (kMove rfl (hM.ol 16))
           | 32, ho, _ => cases ho; exact hM.wg (hM.d 30 88 rfl) (kNeq29 rfl (hM.d 31 89 rfl) rfl (by decide))
           | 33, ho, _ => cases ho; exact wn (kPick rfl (hM.d 30 88 rfl) (hM.d 32 90 rfl))
           | zk + 34, ho, _ => simp at ho
          case en10 =>
           intro u10 lc10 W10 hK10 hB10 hO10 hV10 hX10 hA10
           have q10_5_0 := oth0 hO10 q9_5_0
           have f10_9 := f9_9.kept hK10
           have q10_6_0 := oth0 hO10 q9_6_0
           have f10_10 := f9_10.kept hK10
           simp only [putK, fC, fN, kZ, kS, vV, sI, sZ, sS]
           have hBt10 := hBt9.trans hB10
           clear hV10 hX10 hA10
           have hln := (num_len f10_10).2 rfl
           have HLN := Lib.hid hln
           clear hln
           go_upto_region 11 with fail
           refine rg0 (n := 9) (t16 := 48) w.heap.size [vZ, vT, vT, vZ, vT, vT, vT, .val (.agg #[.bool x5_6, .slice y5_6 z5_6 c5_6]), .k (num (-1)), vT, vT, vT, .val (.pointer (some ⟨(lc6 0), 1, none⟩)), .val (.slice y6_6 z6_6 c6_6), .val (.int .i64 ((z6_6 : Nat) : Int)), vT, vT, vT, .k (frq (Rat.divInt 7 2)), .val (.agg #[.int .i64 3, .int .i64 4, .int .i64 3, .int .i64 4, .int .i64 4, .int .i64 4]), vT, vT, vT, .k (frq (Rat.divInt (-5) 2)), .val (.agg #[.int .i64 (-2), .int .i64 (-3), .int .i64 (-3), .int .i64 (-2), .int .i64 (-3), .int .i64 (-2)]), vT, vT, vT] [(0, 92), (1, 93), (2, 94), (3, 95), (4, 96), (5, 97), (6, 98), (7, 99), (8, 100), (9, 101), (10, 102), (11, 103), (12, 104), (13, 105), (14, 106), (15, 107), (16, 108), (17, 109), (18, 110), (19, 111), (20, 112), (21, 113), (22, 114), (23, 115), (24, 116), (25, 117), (26, 118), (27, 0)] hBt10.size ?st11 ?en11
           case st11 =>
            intro zi zo ho hro a' u lc W hM
            match zi, ho, hro with
            | 0, ho, _ => cases ho; exact wn (kMove rfl (hM.ol 8))
            | 1, ho, _ => cases ho; exact wn (kEql29 rfl (hM.d 0 92 rfl) rfl (by decide))
            | 2, ho, _ => cases ho; exact wn (kMove rfl (hM.d 1 93 rfl))
            | 3, ho, _ => cases ho; exact hM.wg (hM.d 2 94 rfl) (kMove rfl (hM.ol 10))
            | 4, ho, _ => cases ho; exact hM.wg (hM.d 2 94 rfl) (kEql29 rfl (hM.d 3 95 rfl) rfl (by decide))
            | 5, ho, _ => cases ho; exact wn (kPick rfl (hM.d 2 94 rfl) (hM.d 4 96 rfl))
            | 6, ho, _ => cases ho; exact wn (kMove rfl (hM.d 5 97 rfl))
            | 7, ho, _ => cases ho; exact hM.wg (hM.d 6 98 rfl) (kL24 rfl (hM.ol 7) (hM.o0 q10_5_0) rfl)
            | 8, ho, _ => cases ho; exact hM.wg (hM.d 6 98 rfl) (kCall1 rfl may48 rfl (c48 (by decide) (by decide)))
            | 9, ho, _ => cases ho; exact hM.wg (hM.d 6 98 rfl) (kCall2 rfl may63 (hM.d 7 99 rfl) (hM.v 8 100 rfl) (c63 (by decide) (f10_9.kept hM.kept) (hM.kd 8)))
            | 10, ho, _ => cases ho; exact wn (kPick rfl (hM.d 6 98 rfl) (hM.d 9 101 rfl))
            | 11, ho, _ => cases ho; exact wn (kMove rfl (hM.d 10 102 rfl))
            | 12, ho, _ => cases ho; exact hM.wg (hM.d 11 103 rfl) (kField24_1 rfl (hM.ol 9))
            | 13, ho, _ => cases ho; exact hM.wg (hM.d 11 103 rfl) (kLoad1 Tryz.underlying22 rfl rfl (hM.d 12 104 rfl) (hM.o0 q10_6_0) rfl rfl)
            | 14, ho, _ => cases ho; exact hM.wg (hM.d 11 103 rfl) (kLen rfl (hM.d 13 105 rfl))
            | 15, ho, _ => cases ho; exact hM.wg (hM.d 11 103 rfl) (kEql3 rfl (hM.d 14 106 rfl) rfl (decide_eq_true (by rw [HLN.out]; rfl)))
            | 16, ho, _ => cases ho; exact wn (kPick rfl (hM.d 11 103 rfl) (hM.d 15 107 rfl))
            | 17, ho, _ => cases ho; exact wn (kMove rfl (hM.d 16 108 rfl))
            | 18, ho, _ => cases ho; exact hM.wg (hM.d 17 109 rfl) (kCall2 rfl may22 rfl rfl (c22 (by decide) (by decide) (by decide)))
            | 19, ho, _ => cases ho; exact hM.wg (hM.d 17 109 rfl) (kBuild71 rfl)
            | 20, ho, _ => cases ho; exact hM.wg (hM.d 17 109 rfl) (kCall2 rfl may64 (hM.v 18 110 rfl) (hM.d 19 111 rfl) (a64a (hM.kd 18)))
            | 21, ho, _ => cases ho; exact wn (kPick rfl (hM.d 17 109 rfl) (hM.d 20 112 rfl))
            | 22, ho, _ => cases ho; exact wn (kMove rfl (hM.d 21 113 rfl))
            | 23, ho, _ => cases ho; exact hM.wg (hM.d 22 114 rfl) (kCall2 rfl may22 rfl rfl (c22 (by decide) (by decide) (by decide)))
            | 24, ho, _ => cases ho; exact hM.wg (hM.d 22 114 rfl) (kBuild71 rfl)
            | 25, ho, _ => cases ho; exact hM.wg (hM.d 22 114 rfl) (kCall2 rfl may64 (hM.v 23 115 rfl) (hM.d 24 116 rfl) (a64b (hM.kd 23)))
            | 26, ho, _ => cases ho; exact wn (kPick rfl (hM.d 22 114 rfl) (hM.d 25 117 rfl))
            | 27, ho, _ => cases ho; exact wn (kAssign rfl (hM.d 26 118 rfl))
            | zk + 28, ho, _ => simp at ho
           case en11 =>
            intro u11 lc11 W11 hK11 hB11 hO11 hV11 hX11 hA11
            simp only [putK, fC, fN, kZ, kS, vV, vK, sI, sZ, sS]
            have hBt11 := hBt10.trans hB11
            clear hV11 hX11 hA11
            go_wp2
            exact bodyPost_ret (v := .bool true) (by simp [results, Tryz.results16, go_sem]) rfl ⟨_, rfl, rfl, hBt11⟩
end Go.Proofs.YtihdbjilolmfiaaGreatDoor
