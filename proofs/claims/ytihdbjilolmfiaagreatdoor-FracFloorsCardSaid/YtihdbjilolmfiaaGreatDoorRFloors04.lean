import Derived.Test.YtihdbjilolmfiaaGreatDoorRFloors03
namespace Go.Proofs.YtihdbjilolmfiaaGreatDoor
open Go.RowKit Go.WM Go.WR
attribute [local go_sem] Oper.semAt_some
theorem neg_back {z m : Int} (hz : z < 0) (e : m = z.natAbs) (h : m ≤ 9223372036854775808) : -9223372036854775808 ≤ z ∧ z < 9223372036854775808 ∧ wrap64 (IntKind.u64.wrap (-m)) = z ∧ (0 : Int) = 0 := by
 refine ⟨by omega, by omega, ?_, rfl⟩
 have e1 : IntKind.u64.wrap (-m) = 18446744073709551616 - m := by rw [IntKind.wrap_u64]; omega
 rw [e1]
 unfold wrap64
 omega
set_option maxRecDepth 100000 in
set_option maxHeartbeats 2000000 in
theorem Int_short (va : Value) (z : Int) (w : World) (hA : Wn w.heap.size w va z) (hsmall : (z.natAbs : Int) < 18446744073709551616) : Calls Tryz.prog 93 #[va] w (IntPost z w) := by
 obtain ⟨zs, hr, hR, hc, hlen, hok⟩ := hA.raw
 obtain ⟨sv, rfl, hL⟩ := hr
 obtain ⟨p, l, c, rfl⟩ := hL.form
 have hl := hL.cells.1
 have h4 : l ≤ 4 := by
  have := hR.len_le_iff 4
  have e : (65536 : Int) ^ 4 = 18446744073709551616 := by decide
  rw [e] at this
  omega
 obtain ⟨ng, hng⟩ : ∃ ng, ng = decide (z < 0) := ⟨_, rfl⟩
 rw [← hng] at hok ⊢
 have HNG := Lib.hid hng
 have HOK := Lib.hid hok
 have HL := Lib.hid hl
 clear hok hl hng
 obtain ⟨w1, hw1⟩ : ∃ w1, w1 = w.alloc (.cells #[.bool ng, .slice p l c] 24) := ⟨_, rfl⟩
 have hB1 : Below w.heap.size w w1 := by rw [hw1]; exact (Below.refl _ w).alloc (Nat.le_refl _) _
 have hs1 : w1.heap.size = w.heap.size + 1 := by rw [hw1]; simp
 have q0 : w1.heap[w.heap.size]? = some (.cells #[.bool ng, .slice p l c] 24) := by rw [hw1]; exact alloc_new _ _ rfl
 have HW := Lib.hid hw1
 clear hw1
 refine (callsIn_wide (n := 9)).1 ?_
 refine callsIn_of_wp_marks Tryz.func93 rfl trivial ?_ rfl
 simp only [Tryz.ntmps93, List.size_toArray, List.length_cons, List.length_nil, Nat.reduceAdd, Nat.reduceSub, Array.replicate_succ, Array.replicate_zero, List.push_toArray, List.append_toArray, List.nil_append, List.cons_append]
 gi_wp2_with (first | (refine ⟨trivial, ?_⟩; gi_at_call 43; rw [← HW.out]; refine ((callsIn_wide (n := 8)).2 (Valid_any (.agg #[.bool ng, .slice p l c]) ng zs w1 ⟨_, rfl, (hL.below hB1).mono hB1.size⟩ (by omega))).mono ?_; rintro e w2 ⟨rfl, hb2⟩; rw [HOK.out]; have p0 := (hb2.block _ (show w.heap.size < w1.heap.size by omega)).trans q0; have c0 := cell_of p0 0 rfl; have c1 := cell_of p0 1 rfl; have hs2 : w.heap.size + 1 ≤ w2.heap.size := (by have := hb2.size; omega); have hB2 := hB1.trans (hb2.mono hB1.size); have d1 := cell_of (alloc_old w2 (.cells #[.int .u64 0] 84) p0) 1 rfl; clear hs1 q0 hb2 hsmall hc) | (refine ⟨trivial, ?_⟩; gi_at_call 145; refine ((callsIn_wide (n := 8)).2 (down_any _ _ _ _)).mono ?_; rintro e w' ⟨rfl, rfl⟩))
 have bU := (Boxed.new w2 84 (.int .u64 0)).alloc (.cells #[.slice p l c] 22)
 have bA := Boxed.new (w2.alloc (.cells #[.int .u64 0] 84)) 22 (.slice p l c)
 rw [World.size_alloc] at bA
 have hBW : Below w.heap.size w ((w2.alloc (.cells #[.int .u64 0] 84)).alloc (.cells #[.slice p l c] 22)) := (hB2.alloc hB2.size _).alloc (by simp; omega) _
 have p1 := alloc_old _ (.cells #[.slice p l c] 22) (alloc_old w2 (.cells #[.int .u64 0] 84) p0)
 have hz : ((w2.alloc (.cells #[.int .u64 0] 84)).alloc (.cells #[.slice p l c] 22)).heap.size = w2.heap.size + 2 := by simp
 clear d1 c0 c1 p0
 generalize (w2.alloc (.cells #[.int .u64 0] 84)).alloc (.cells #[.slice p l c] 22) = W0 at *
 refine' wpIn_range (n := 9) (gf := 176) (lb := #[.pointer (some ⟨w2.heap.size + 1, 0, none⟩)]) (N := zs.length) rfl (by omega) rfl trivial (enters_of Tryz.func176 (by kernel_rfl) rfl)
  (down_seq Fence.wide 8 trivial rfl (by omega) _ w.heap.size _ zs (by omega) W0 (by omega) bA (hL.below hBW)) keep1_t (keep1_b (by omega)) (fun _ => rfl)
  (fun k W => Boxed W w2.heap.size 84 (.int .u64 (val (zs.drop (l - k)))) ∧ W.heap[w.heap.size]? = some (.cells #[.bool ng, .slice p l c] 24) ∧ Below w.heap.size w W)
  (fun c _ W => False)
  ?hI ?hIx ?h0 _ ?assign ?body ?done ?stop
 case hI =>
  rintro k W W' row ⟨bU, hp, hB⟩ hg hr
  exact ⟨bU.kept hg (fun e => by obtain ⟨_, o, ho, hc⟩ := hr _ e.symm; rw [show W.heap[_]? = _ from bU] at ho; cases ho; cases hc), (hg.block _ (Array.getElem?_eq_some_iff.1 hp).1 (fun e => by obtain ⟨h, _⟩ := hr _ e.symm; omega)).trans hp, hB.grown hg (by have := hB.size; omega) (fun k e => by have := (hr k e).1; omega)⟩
 case hIx => exact fun c => ownFrom_pure _ _
 case h0 => exact ⟨by have := HL.out; rw [Nat.sub_zero, List.drop_eq_nil_of_le (by omega)]; exact bU, p1, hBW⟩
 case assign =>
  intro l' x W K hK
  simp only [downs]
  gi_wp2
  exact hK
 case body =>
  rintro l' k W ⟨bU, hp, hB⟩ hk
  have hlen' := HL.out
  obtain ⟨m, hm⟩ : ∃ m : Nat, m = zs.length - 1 - k := ⟨_, rfl⟩
  rw [← hm]
  have hd := val_drop (l := zs) (k := m) (by omega)
  rw [show m + 1 = l - k by omega] at hd
  have hu1 := val_lt (hR.lm.drop (l - k))
  have hu0 := val_nonneg (hR.lm.drop (l - k))
  have hp3 := pow_le_pow' (show (zs.drop (l - k)).length ≤ 3 by rw [List.length_drop]; omega)
  rw [show (65536 : Int) ^ 3 = 281474976710656 by decide] at hp3
  obtain ⟨x0, x1⟩ := hR.lm.getD m
  have hm' : m = l - (k + 1) := by omega
  have HD := Lib.hid hd
  have HM := Lib.hid hm'
  clear hlen' hm hd hm'
  generalize val (zs.drop (l - k)) = u at *
  generalize zs[m]?.getD 0 = x at *
  have hu2 : u < 281474976710656 := by omega
  have hor := WB.or_16 (k := .u64) (r := u) (x := x) rfl hu0 x0 x1 (show _ < (18446744073709551616 : Int) by omega)
  have hcU := bU.cell
  have hfU := bU.frozen
  clear hu1 hp3
  gi_wp2
  refine ⟨(KeepsOthers.setCell _ _ _).from _, Keep1.set (by show w.heap.size ≤ w2.heap.size; omega) (by show w2.heap.size + 1 ≠ w2.heap.size; omega) _, ?_, (Below.heap_setCell _ _ _ _ (by show w.heap.size ≠ w2.heap.size; omega)).trans hp, hB.setCell (p := ⟨w2.heap.size, 0, none⟩) (by show w.heap.size ≤ w2.heap.size; omega) _⟩
  rw [← HM.out, HD.out, show x + 65536 * u = u * 65536 + x by omega]
  exact bU.set _
 case done =>
  rintro D W hD ⟨bU, hp, hB⟩ hK
  have hv : val (zs.drop (l - zs.length)) = z.natAbs := by have := HL.out; rw [show l - zs.length = 0 by omega, List.drop_zero]; exact hR.eq
  rw [hv] at bU
  obtain ⟨m, hm⟩ : ∃ m : Int, m = z.natAbs := ⟨_, rfl⟩
  rw [← hm] at bU
  have hcU := bU.cell
  have e0 := cell_of hp 0 rfl
  have hm0 : 0 ≤ m := by omega
  have hfin : ∀ (k er : Int), ((-9223372036854775808 ≤ z ∧ z < 9223372036854775808 ∧ k = z ∧ er = 0) ∨ (¬ (-9223372036854775808 ≤ z ∧ z < 9223372036854775808) ∧ k = 0 ∧ er = 3)) → IntPost z w (.returned (.tuple #[.int .i64 k, .int .i64 er])) (W.putObj D (.deferred none)) := fun k er h => ⟨k, er, rfl, h, hB.trans (belowK_b (w := w) (Nat.le_refl _) W D _ _ (by have := hB.size; omega) hK rfl rfl)⟩
  have HF := Lib.hid hfin
  have HMZ := Lib.hid hm
  clear hfin hv hm
  gi_wp2
  · have h1 : ng = true := by assumption
    have h2 : m ≤ 9223372036854775808 := by assumption
    refine ⟨by simp, .inl ⟨_, _, rfl, run_takeDeferred (b := D) hK, ?_⟩⟩
    refine ⟨.tuple #[.int .i64 (wrap64 (IntKind.u64.wrap (-m))), .int .i64 0], by simp [results, Tryz.f93, go_sem], HF.out _ _ (.inl ?_)⟩
    have hz : z < 0 := of_decide_eq_true (by rw [← HNG.out]; exact h1)
    have e := HMZ.out
    exact neg_back hz e h2
  · have h1 : ng = true := by assumption
    have h2 : 9223372036854775808 < m := by assumption
    refine ⟨by simp, .inl ⟨_, _, rfl, run_takeDeferred (b := D) hK, ?_⟩⟩
    refine ⟨.tuple #[.int .i64 0, .int .i64 3], by simp [results, Tryz.f93, go_sem], HF.out _ _ (.inr ?_)⟩
    have hz : z < 0 := of_decide_eq_true (by rw [← HNG.out]; exact h1)
    have e := HMZ.out
    exact ⟨by omega, rfl, rfl⟩
  · have h1 : ¬ ng = true := by assumption
    have h2 : m < 9223372036854775808 := by assumption
    refine ⟨by simp, .inl ⟨_, _, rfl, run_takeDeferred (b := D) hK, ?_⟩⟩
    refine ⟨.tuple #[.int .i64 m, .int .i64 0], by simp [results, Tryz.f93, go_sem], HF.out _ _ (.inl ?_)⟩
    have hz : ¬ z < 0 := fun h => h1 (by rw [HNG.out]; exact decide_eq_true h)
    have e := HMZ.out
    exact ⟨by omega, by omega, by omega, rfl⟩
  · have h1 : ¬ ng = true := by assumption
    have h2 : 9223372036854775808 ≤ m := by assumption
    refine ⟨by simp, .inl ⟨_, _, rfl, run_takeDeferred (b := D) hK, ?_⟩⟩
    refine ⟨.tuple #[.int .i64 0, .int .i64 3], by simp [results, Tryz.f93, go_sem], HF.out _ _ (.inr ?_)⟩
    have hz : ¬ z < 0 := fun h => h1 (by rw [HNG.out]; exact decide_eq_true h)
    have e := HMZ.out
    exact ⟨by omega, rfl, rfl⟩
 case stop =>
  rintro D c k W hD hk h
  exact h.elim
theorem Int_ok (va : Value) (z : Int) (w : World) (hA : Wn w.heap.size w va z) : Calls Tryz.prog 93 #[va] w (IntPost z w) := by
 by_cases h : (z.natAbs : Int) < 18446744073709551616
 · exact Int_short va z w hA h
 · exact Int_long va z w hA h
theorem lim_of {x : Int} {b : Bool} {p : Option Addr} {l c : Nat} {W : World} (h : Is (num x) (.agg #[.bool b, .slice p l c]) W) : ∃ zs, Is (lim zs) (.slice p l c) W ∧ Rep zs x.natAbs ∧ (x.natAbs : Int) < Cap ∧ zs.length ≤ 70368744177662 := by
 obtain ⟨sv, zs, e, hL, hR, hC⟩ := h
 cases e
 exact ⟨zs, ⟨_, _, _, rfl, hL⟩, hR, hC, by have := hR.cap.2 hC; omega⟩
set_option maxRecDepth 100000 in
set_option maxHeartbeats 4000000 in
theorem c39 {r : Rat} {v0 : Value} {w : World} (hr : Fs r) (h0 : Is (frq r) v0 w) : Calls Tryz.prog 39 #[v0] w (Ret (.k (tup2 (.k (fr (-r.num) ((r.den : Nat) : Int))) (.val (.int .i64 0)))) w) := by
 obtain ⟨ya0, yp0, yl0, yd0, ye0, yq0, ym0, yr0, rfl, yg0, yk0⟩ := id h0
 obtain rfl : ye0 = false := (num_sign (W := w) yk0).trans (decide_eq_false (by have := rat_pos r; omega))
 replace yg0 : Is (num r.num) (.agg #[.bool ya0, .slice yp0 yl0 yd0]) w := yg0
 replace yk0 : Is (num ((r.den : Nat) : Int)) (.agg #[.bool false, .slice yq0 ym0 yr0]) w := yk0
 obtain ⟨zs, hlim, hRz, hCz, hcl⟩ := lim_of yk0
 have HR := Lib.hid hr
 have HRZ := Lib.hid hRz
 have HCZ := Lib.hid hCz
 have HCL := Lib.hid hcl
 have hsg : false = decide (((r.den : Nat) : Int) < 0) := (decide_eq_false (by have := rat_pos r; omega)).symm
 have HS := Lib.hid hsg
 clear hr hRz hCz hcl hsg
 have hB0 := Below.refl w.heap.size w
 go_enter Tryz.func39, Tryz.ntmps39
 go_upto_region 0 with fail
 refine rg (n := 9) (t16 := 48) w.heap.size [] [.any, .any, .val (.int .i64 0)] [(0, 1), (1, 2), (2, 3)] [⟨26, some 0, 0, pt, 4, [.c #[.bool ya0, .slice yp0 yl0 yd0, .bool false, .slice yq0 ym0 yr0]], []⟩, ⟨26, some 1, 0, pt, 4, [.c #[.bool false, .slice none 0 0, .bool false, .slice none 0 0]], []⟩] ?ok1 ?st1 ?al1 ?pu1 ?en1
 case ok1 => exact BxOK.fresh rfl hB0.size
 case st1 =>
  intro zi zo ho hro a' u lc W hM
  match zi, ho, hro with
  | 0, _, hro => exact nr1 hro (by kernel_rfl)
  | 1, _, hro => exact nr1 hro (by kernel_rfl)
  | 2, ho, _ => cases ho; exact wn (kAssign rfl rfl)
  | zk + 3, ho, _ => simp at ho
 case al1 =>
  intro zk zb zi zo hk ha ho a' u lc W hM
  match zk, hk with
  | 0, hk => cases hk; cases ha; cases ho; exact ⟨rfl, rfl, rfl, rfl, kBox rfl (hM.ol 0)⟩
  | 1, hk => cases hk; cases ha; cases ho; exact ⟨rfl, rfl, rfl, rfl, kAlloc26 rfl⟩
  | zk + 2, hk => simp at hk
 case pu1 =>
  intro zk zb zs zo hk hs ho a' u lc W zc hM hc hcs
  match zk, hk with
  | 0, hk => cases hk; simp at hs
  | 1, hk => cases hk; simp at hs
  | zk + 2, hk => simp at hk
 case en1 =>
  intro u1 lc1 W1 hK1 hB1 hO1 hV1 hX1 hA1
  obtain ⟨qr, ho, hl⟩ := hX1 0 _ rfl
  have e1_0 : u1 0 = .pointer (some ⟨lc1 0, 0, none⟩) := (hl 0 rfl).1
  have g1_0 := (hl 0 rfl).2
  have f1_0 := h0.kept hK1
  have f1_1 := yg0.kept hK1
  have f1_3 := hlim.kept hK1
  have q1_0 : W1.heap[(lc1 0)]? = some (.cells #[.bool ya0, .slice yp0 yl0 yd0, .bool false, .slice yq0 ym0 yr0] 26) := by
   exact qr
  obtain ⟨qr, ho, hl⟩ := hX1 1 _ rfl
  have e1_1 : u1 1 = .pointer (some ⟨lc1 1, 0, none⟩) := (hl 1 rfl).1
  have g1_1 := (hl 1 rfl).2
  have q1_1 : W1.heap[(lc1 1)]? = some (.cells #[.bool false, .slice none 0 0, .bool false, .slice none 0 0] 26) := by
   exact qr
  have ne1_0_1 := hA1 0 1 _ _ rfl rfl (by decide)
  simp only [putK, fC, fN, kZ, kS, vV, vA, sI, sZ, sS, e1_0, e1_1]
  have hBt1 := hB0.trans hB1
  clear hV1 hX1 hA1
  go_upto_region 1 with fail
  refine rg0 (n := 9) (t16 := 48) w.heap.size [.val (.agg #[.bool ya0, .slice yp0 yl0 yd0, .bool false, .slice yq0 ym0 yr0]), .val (.bool true), .val (.bool false)] [(0, 4), (1, 5), (2, 6)] hBt1.size ?st2 ?en2
  case st2 =>
   intro zi zo ho hro a' u lc W hM
   match zi, ho, hro with
   | 0, ho, _ => cases ho; exact wn (kL26 rfl (hM.ol 1) (hM.o0 q1_0))
   | 1, ho, _ => cases ho; exact wn (kCall1 rfl may44 (hM.d 0 4 rfl) (c44_ok HR.out (f1_0.kept hM.kept)))
   | 2, ho, _ => cases ho; exact wn (kNot rfl (hM.d 1 5 rfl) rfl)
   | zk + 3, ho, _ => simp at ho
  case en2 =>
   intro u2 lc2 W2 hK2 hB2 hO2 hV2 hX2 hA2
   have q2_1_0 := oth0 hO2 q1_0
   have f2_1 := f1_1.kept hK2
   have f2_3 := f1_3.kept hK2
   have q2_1_1 := oth0 hO2 q1_1
   simp only [putK, fC, fN, kZ, kS, vV, sI, sZ, sS]
   have hBt2 := hBt1.trans hB2
   clear hV2 hX2 hA2
   go_upto_region 3 with fail
   refine rg (n := 9) (t16 := 48) w.heap.size [(lc1 1)] [.val (.pointer (some ⟨(lc1 0), 0, none⟩)), .val (.agg #[.bool ya0, .slice yp0 yl0 yd0]), .k (num (-r.num)), .val (.pointer (some ⟨(lc1 0), 2, none⟩)), .val (.pointer (some ⟨(lc1 0), 3, none⟩)), .val (.slice yq0 ym0 yr0), .k (lim zs), .k (num ((r.den : Nat) : Int)), .k (fr (-r.num) ((r.den : Nat) : Int)), .any, .val (.int .i64 0)] [(0, 8), (1, 9), (2, 10), (3, 11), (4, 12), (5, 13), (6, 14), (7, 15), (8, 16), (10, 3)] [⟨26, none, (lc1 1), pt, 4, [.c #[.bool false, .slice none 0 0, .bool false, .slice none 0 0]], [(9, 0, 8)]⟩] ?ok3 ?st3 ?al3 ?pu3 ?en3
   case ok3 => exact BxOK.one ⟨(Nat.le_trans hB0.size g1_1), ⟨_, q2_1_1, rfl, rfl, rfl⟩, by simp, (by decide : (26 : Nat) ≠ 48)⟩ rfl hBt2.size
   case st3 =>
    intro zi zo ho hro a' u lc W hM
    match zi, ho, hro with
    | 0, ho, _ => cases ho; exact wn (kField26_0 rfl (hM.ol 1))
    | 1, ho, _ => cases ho; exact wn (kL24 rfl (hM.d 0 8 rfl) (hM.o1 q2_1_0 (by omega)) rfl)
    | 2, ho, _ => cases ho; exact wn (kCall1 rfl may91 (hM.d 1 9 rfl) (c91n (f2_1.kept hM.kept)))
    | 3, ho, _ => cases ho; exact wn (kField26_1 rfl (hM.ol 1))
    | 4, ho, _ => cases ho; exact wn (kField24_1 rfl (hM.d 3 11 rfl))
    | 5, ho, _ => cases ho; exact wn (kLoad1 Tryz.underlying22 rfl rfl (hM.d 4 12 rfl) (hM.o1 q2_1_0 (by omega)) rfl rfl)
    | 6, ho, _ => cases ho; exact wn (kCall1 rfl may92 (hM.d 5 13 rfl) (c92 HCL.out (f2_3.kept hM.kept)))
    | 7, ho, _ =>
     cases ho
     refine .inl ⟨wanted_none rfl, ?_⟩
     obtain ⟨sp, sl, sc, e, hl⟩ := (show Is (lim zs) _ W from (hM.kd 6))
     rw [e] at hl
     exact kBuild24s rfl ((hM.v 6 14 rfl).trans e) (num_mk HS.out hl HRZ.out HCZ.out)
    | 8, ho, _ =>
     cases ho
     refine .inl ⟨wanted_none rfl, ?_⟩
     obtain ⟨sbx, spx, slx, scx, ex⟩ := (show Is (num (-r.num)) _ W from (hM.kd 2)).form
     obtain ⟨sby, spy, sly, scy, ey⟩ := (show Is (num ((r.den : Nat) : Int)) _ W from (hM.kd 7)).form
     exact kBuild26 rfl ((hM.v 2 10 rfl).trans ex) ((hM.v 7 15 rfl).trans ey) ⟨_, _, _, _, _, _, _, _, rfl, (by rw [← ex]; exact (hM.kd 2)), (by rw [← ey]; exact (hM.kd 7))⟩
    | 9, _, hro => exact nr1 hro (by kernel_rfl)
    | 10, ho, _ => cases ho; exact wn (kAssign rfl rfl)
    | zk + 11, ho, _ => simp at ho
   case al3 =>
    intro zk zb zi zo hk ha ho a' u lc W hM
    match zk, hk with
    | 0, hk => cases hk; cases ha
    | zk + 1, hk => simp at hk
   case pu3 =>
    intro zk zb zs zo hk hs ho a' u lc W zc hM hc hcs
    match zk, hk with
    | 0, hk =>
     cases hk
     simp only [List.mem_cons, List.not_mem_nil, or_false] at hs
     rcases hs with rfl
     · cases ho
       obtain ⟨sb, sp, sl, sc, sb2, sp2, sl2, sc2, e, _⟩ := (show Is (fr (-r.num) ((r.den : Nat) : Int)) (u 8) W from (hM.kd 8))
       refine ⟨rfl, rfl, ?_, ?_, kStore ?_ rfl ((hM.ol 2).trans (show _ = Value.pointer (some ⟨lc 0, 0, none⟩) from by rw [show lc 0 = (lc1 1) from hM.locO 0 _ rfl rfl]; rfl)) (hM.v 8 16 rfl) hc ?_ ?_⟩ <;> rw [e]
       · exact Nat.le_of_ble_eq_true rfl
       · rfl
       · exact sz26
       · rw [hcs]; exact Nat.le_of_ble_eq_true rfl
       · rfl
    | zk + 1, hk => simp at hk
   case en3 =>
    intro u3 lc3 W3 hK3 hB3 hO3 hV3 hX3 hA3
    have k3_8 := kk (hV3 8 16 rfl) rfl
    obtain ⟨qr, ho, hl⟩ := hX3 0 _ rfl
    have elc : lc3 0 = (lc1 1) := ho rfl
    rw [elc] at qr
    obtain ⟨x3_9, y3_9, z3_9, c3_9, x23_9, y23_9, z23_9, c23_9, es3_9, sa3_9, sb3_9⟩ := id k3_8
    have sk3_9 : Is (fr (-r.num) ((r.den : Nat) : Int)) (.agg #[.bool x3_9, .slice y3_9 z3_9 c3_9, .bool x23_9, .slice y23_9 z23_9 c23_9]) W3 := by rw [← es3_9]; exact k3_8
    have q3_0 : W3.heap[(lc1 1)]? = some (.cells #[.bool x3_9, .slice y3_9 z3_9 c3_9, .bool x23_9, .slice y23_9 z23_9 c23_9] 26) := by
     rw [contAll_one rfl (cs := #[.bool x3_9, .slice y3_9 z3_9 c3_9, .bool x23_9, .slice y23_9 z23_9 c23_9]) (by rw [es3_9]; rfl) rfl] at qr; exact qr
    simp only [putK, fC, fN, kZ, kS, vV, vK, sI, sZ, sS]
    have hBt3 := hBt2.trans hB3
    clear hV3 hX3 hA3
    have cr0 := cell_of q3_0 0 rfl
    have cr1 := cell_of q3_0 1 rfl
    have cr2 := cell_of q3_0 2 rfl
    have cr3 := cell_of q3_0 3 rfl
    go_wp2
    exact bodyPost_ret (v := .tuple #[.agg #[.bool x3_9, .slice y3_9 z3_9 c3_9, .bool x23_9, .slice y23_9 z23_9 c23_9], .int .i64 0]) (by simp [results, Tryz.results39, go_sem, cr0, cr1, cr2, cr3]) rfl ⟨_, rfl, ⟨_, _, rfl, sk3_9, rfl⟩, hBt3⟩
set_option maxRecDepth 100000 in
set_option maxHeartbeats 4000000 in
theorem c46b {n d g N D : Int} {v0 v1 : Value} {w : World} (hd0 : d ≠ 0) (hd : ¬ d < 0) (hg : ((Int.gcd n d : Nat) : Int) = g) (g0 : ¬ g < 0) (g1 : g ≠ 0) (f1 : Floor n g N 0) (f2 : Floor d g D 0) (ht : (decide ((N.natAbs : Int) < CapF) && decide ((D.natAbs : Int) < CapF)) = true) (h0 : Is (num n) v0 w) (h1 : Is (num d) v1 w) : Calls Tryz.prog 46 #[v0, v1] w (Ret (.k (tup2 (.k (fr N D)) (.val (.int .i64 0)))) w) := by
 obtain ⟨ya0, yp0, yl0, yd0, rfl⟩ := h0.form
 obtain ⟨ya1, yp1, yl1, yd1, rfl⟩ := h1.form
 obtain rfl : ya1 = false := (num_sign (W := w) h1).trans (decide_eq_false hd)
 have hz : decide (((yl1 : Nat) : Int) = 0) = false := decide_eq_false (by have := num_len (W := w) h1; omega)
 have HZ := Lib.hid hz
 have HG := Lib.hid hg
 have G0 := Lib.hid g0
 have G1 := Lib.hid g1
 have F1 := Lib.hid f1
 have F2 := Lib.hid f2
 have HT := Lib.hid ht
 clear hz hg g0 g1 f1 f2 ht hd hd0
 have hB0 := Below.refl w.heap.size w
 go_enter Tryz.func46, Tryz.ntmps46
 go_upto_region 0 with fail
 refine rg (n := 9) (t16 := 48) w.heap.size [] [.any, .any, .any, .val (.int .i64 0)] [(0, 2), (1, 3), (2, 4), (3, 5)] [⟨24, some 0, 0, pt, 2, [.c #[.bool ya0, .slice yp0 yl0 yd0]], []⟩, ⟨24, some 1, 0, pt, 2, [.c #[.bool false, .slice yp1 yl1 yd1]], []⟩, ⟨26, some 2, 0, pt, 4, [.c #[.bool false, .slice none 0 0, .bool false, .slice none 0 0]], []⟩] ?ok1 ?st1 ?al1 ?pu1 ?en1
 case ok1 => exact BxOK.fresh rfl hB0.size
 case st1 =>
  intro zi zo ho hro a' u lc W hM
  match zi, ho, hro with
  | 0, _, hro => exact nr1 hro (by kernel_rfl)
  | 1, _, hro => exact nr1 hro (by kernel_rfl)
  | 2, _, hro => exact nr1 hro (by kernel_rfl)
  | 3, ho, _ => cases ho; exact wn (kAssign rfl rfl)
  | zk + 4, ho, _ => simp at ho
 case al1 =>
  intro zk zb zi zo hk ha ho a' u lc W hM
  match zk, hk with
  | 0, hk => cases hk; cases ha; cases ho; exact ⟨rfl, rfl, rfl, rfl, kBox rfl (hM.ol 0)⟩
  | 1, hk => cases hk; cases ha; cases ho; exact ⟨rfl, rfl, rfl, rfl, kBox rfl (hM.ol 1)⟩
  | 2, hk => cases hk; cases ha; cases ho; exact ⟨rfl, rfl, rfl, rfl, kAlloc26 rfl⟩
  | zk + 3, hk => simp at hk
 case pu1 =>
  intro zk zb zs zo hk hs ho a' u lc W zc hM hc hcs
  match zk, hk with
  | 0, hk => cases hk; simp at hs
  | 1, hk => cases hk; simp at hs
  | 2, hk => cases hk; simp at hs
  | zk + 3, hk => simp at hk
 case en1 =>
  intro u1 lc1 W1 hK1 hB1 hO1 hV1 hX1 hA1
  obtain ⟨qr, ho, hl⟩ := hX1 0 _ rfl
  have e1_0 : u1 0 = .pointer (some ⟨lc1 0, 0, none⟩) := (hl 0 rfl).1
  have g1_0 := (hl 0 rfl).2
  have f1_0 := h0.kept hK1
  have q1_0 : W1.heap[(lc1 0)]? = some (.cells #[.bool ya0, .slice yp0 yl0 yd0] 24) := by
   exact qr
  obtain ⟨qr, ho, hl⟩ := hX1 1 _ rfl
  have e1_1 : u1 1 = .pointer (some ⟨lc1 1, 0, none⟩) := (hl 1 rfl).1
  have g1_1 := (hl 1 rfl).2
  have f1_1 := h1.kept hK1
  have q1_1 : W1.heap[(lc1 1)]? = some (.cells #[.bool false, .slice yp1 yl1 yd1] 24) := by
   exact qr
  obtain ⟨qr, ho, hl⟩ := hX1 2 _ rfl
  have e1_2 : u1 2 = .pointer (some ⟨lc1 2, 0, none⟩) := (hl 2 rfl).1
  have g1_2 := (hl 2 rfl).2
  have q1_2 : W1.heap[(lc1 2)]? = some (.cells #[.bool false, .slice none 0 0, .bool false, .slice none 0 0] 26) := by
   exact qr
  have ne1_0_2 := hA1 0 2 _ _ rfl rfl (by decide)
  have ne1_1_2 := hA1 1 2 _ _ rfl rfl (by decide)
  simp only [putK, fC, fN, kZ, kS, vV, vA, sI, sZ, sS, e1_0, e1_1, e1_2]
  have hBt1 := hB0.trans hB1
  clear hV1 hX1 hA1
  go_upto_region 1 with fail
  refine rg0 (n := 9) (t16 := 48) w.heap.size [.val (.agg #[.bool ya0, .slice yp0 yl0 yd0]), .val (.bool true), .val (.bool false), .val (.bool false), .val (.agg #[.bool false, .slice yp1 yl1 yd1]), .val (.bool true), .val (.bool false), .val (.bool false), .val (.bool false)] [(0, 8), (1, 9), (2, 10), (3, 11), (4, 12), (5, 13), (6, 14), (7, 15), (8, 7)] hBt1.size ?st2 ?en2
  case st2 =>
   intro zi zo ho hro a' u lc W hM
   match zi, ho, hro with
   | 0, ho, _ => cases ho; exact wn (kL24 rfl (hM.ol 2) (hM.o0 q1_0) rfl)
   | 1, ho, _ => cases ho; exact wn (kCall1 rfl may43 (hM.d 0 8 rfl) (c43n (f1_0.kept hM.kept)))
   | 2, ho, _ => cases ho; exact wn (kNot rfl (hM.d 1 9 rfl) rfl)
   | 3, ho, _ => cases ho; exact wn (kMove rfl (hM.d 2 10 rfl))
   | 4, ho, _ => cases ho; exact hM.wg (hM.d 3 11 rfl) (kL24 rfl (hM.ol 3) (hM.o0 q1_1) rfl)
   | 5, ho, _ => cases ho; exact hM.wg (hM.d 3 11 rfl) (kCall1 rfl may43 (hM.d 4 12 rfl) (c43n (f1_1.kept hM.kept)))
   | 6, ho, _ => cases ho; exact hM.wg (hM.d 3 11 rfl) (kNot rfl (hM.d 5 13 rfl) rfl)
   | 7, ho, _ => cases ho; exact wn (kPick rfl (hM.d 3 11 rfl) (hM.d 6 14 rfl))
   | 8, ho, _ => cases ho; exact wn (kAssign rfl (hM.d 7 15 rfl))
   | zk + 9, ho, _ => simp at ho
  case en2 =>
   intro u2 lc2 W2 hK2 hB2 hO2 hV2 hX2 hA2
   have q2_1_0 := oth0 hO2 q1_0
   have f2_0 := f1_0.kept hK2
   have q2_1_1 := oth0 hO2 q1_1
   have f2_1 := f1_1.kept hK2
   have q2_1_2 := oth0 hO2 q1_2
   simp only [putK, fC, fN, kZ, kS, vV, sI, sZ, sS]
   have hBt2 := hBt1.trans hB2
   clear hV2 hX2 hA2
   go_upto_region 3 with fail
   refine rg0 (n := 9) (t16 := 48) w.heap.size [.val (.pointer (some ⟨(lc1 1), 1, none⟩)), .val (.slice yp1 yl1 yd1), .val (.int .i64 ((yl1 : Nat) : Int)), .val (.bool false), .val (.bool false)] [(0, 18), (1, 19), (2, 20), (3, 21), (4, 17)] hBt2.size ?st3 ?en3
   case st3 =>
    intro zi zo ho hro a' u lc W hM
    match zi, ho, hro with
    | 0, ho, _ => cases ho; exact wn (kField24_1 rfl (hM.ol 3))
    | 1, ho, _ => cases ho; exact wn (kLoad1 Tryz.underlying22 rfl rfl (hM.d 0 18 rfl) (hM.o0 q2_1_1) rfl rfl)
    | 2, ho, _ => cases ho; exact wn (kLen rfl (hM.d 1 19 rfl))
    | 3, ho, _ => cases ho; exact wn (kEql3 rfl (hM.d 2 20 rfl) rfl HZ.out)
    | 4, ho, _ => cases ho; exact wn (kAssign rfl (hM.d 3 21 rfl))
    | zk + 5, ho, _ => simp at ho
   case en3 =>
    intro u3 lc3 W3 hK3 hB3 hO3 hV3 hX3 hA3
    have q3_1_0 := oth0 hO3 q2_1_0
    have f3_0 := f2_0.kept hK3
    have q3_1_1 := oth0 hO3 q2_1_1
    have f3_1 := f2_1.kept hK3
    have q3_1_2 := oth0 hO3 q2_1_2
    simp only [putK, fC, fN, kZ, kS, vV, sI, sZ, sS]
    have hBt3 := hBt2.trans hB3
    clear hV3 hX3 hA3
    go_upto_region 5 with fail
    refine rg (n := 9) (t16 := 48) w.heap.size [] [.val (.agg #[.bool ya0, .slice yp0 yl0 yd0]), .val (.agg #[.bool false, .slice yp1 yl1 yd1]), .k (num g), .any, .any] [(0, 23), (1, 24), (2, 25), (3, 6)] [⟨24, some 3, 0, pt, 2, [.c #[.bool false, .slice none 0 0]], [(4, 0, 2)]⟩] ?ok4 ?st4 ?al4 ?pu4 ?en4
    case ok4 => exact BxOK.fresh rfl hBt3.size
    case st4 =>
     intro zi zo ho hro a' u lc W hM
     match zi, ho, hro with
     | 0, ho, _ => cases ho; exact wn (kL24 rfl (hM.ol 2) (hM.o0 q3_1_0) rfl)
     | 1, ho, _ => cases ho; exact wn (kL24 rfl (hM.ol 3) (hM.o0 q3_1_1) rfl)
     | 2, ho, _ => cases ho; exact wn (kCall2 rfl may73 (hM.d 0 23 rfl) (hM.d 1 24 rfl) (c73 HG.out (f3_0.kept hM.kept) (f3_1.kept hM.kept)))
     | 3, _, hro => exact nr1 hro (by kernel_rfl)
     | 4, _, hro => exact nr1 hro (by kernel_rfl)
     | zk + 5, ho, _ => simp at ho
    case al4 =>
     intro zk zb zi zo hk ha ho a' u lc W hM
     match zk, hk with
     | 0, hk => cases hk; cases ha; cases ho; exact ⟨rfl, rfl, rfl, rfl, kAlloc24 rfl⟩
     | zk + 1, hk => simp at hk
    case pu4 =>
     intro zk zb zs zo hk hs ho a' u lc W zc hM hc hcs
     match zk, hk with
     | 0, hk =>
      cases hk
      simp only [List.mem_cons, List.not_mem_nil, or_false] at hs
      rcases hs with rfl
      · cases ho
        obtain ⟨sb, sp, sl, sc, e⟩ := (show Is (num g) (u 2) W from (hM.kd 2)).form
        refine ⟨rfl, rfl, ?_, ?_, kStore ?_ rfl ((hM.v 3 6 rfl).trans (hM.loc 0 _ 3 rfl rfl (by kernel_rfl))) (hM.v 2 25 rfl) hc ?_ ?_⟩ <;> rw [e]
        · exact Nat.le_of_ble_eq_true rfl
        · rfl
        · exact sz24
        · rw [hcs]; exact Nat.le_of_ble_eq_true rfl
        · rfl
     | zk + 1, hk => simp at hk
    case en4 =>
     intro u4 lc4 W4 hK4 hB4 hO4 hV4 hX4 hA4
     have e4_0 := kv (hV4 0 23 rfl) rfl
     have k4_2 := kk (hV4 2 25 rfl) rfl
     obtain ⟨qr, ho, hl⟩ := hX4 0 _ rfl
     have e4_3 : u4 3 = .pointer (some ⟨lc4 0, 0, none⟩) := (hl 3 rfl).1
     have g4_0 := (hl 3 rfl).2
     obtain ⟨x4_4, y4_4, z4_4, c4_4, es4_4⟩ := k4_2.form
     have sk4_4 : Is (num g) (.agg #[.bool x4_4, .slice y4_4 z4_4 c4_4]) W4 := by rw [← es4_4]; exact k4_2
     have q4_0 : W4.heap[(lc4 0)]? = some (.cells #[.bool x4_4, .slice y4_4 z4_4 c4_4] 24) := by
      rw [contAll_one rfl (cs := #[.bool x4_4, .slice y4_4 z4_4 c4_4]) (by rw [es4_4]; rfl) rfl] at qr; exact qr
     have ne4_0_1_2 := Nat.ne_of_lt (Nat.lt_of_lt_of_le (Array.getElem?_eq_some_iff.1 q3_1_2).1 g4_0)
     have q4_1_0 := oth0 hO4 q3_1_0
     have f4_0 := f3_0.kept hK4
     have q4_1_1 := oth0 hO4 q3_1_1
     have f4_1 := f3_1.kept hK4
     have q4_1_2 := oth0 hO4 q3_1_2
     simp only [putK, fC, fN, kZ, kS, vV, vA, vK, sI, sZ, sS, e4_3]
     have hBt4 := hBt3.trans hB4
     clear hV4 hX4 hA4
     go_upto_region 6 with fail
     refine rg0 (n := 9) (t16 := 48) w.heap.size [.val (.pointer (some ⟨(lc1 1), 0, none⟩)), .val (.bool false)] [(0, 26), (1, 27)] hBt4.size ?st5 ?en5
     case st5 =>
      intro zi zo ho hro a' u lc W hM
      match zi, ho, hro with
      | 0, ho, _ => cases ho; exact wn (kField24_0 rfl (hM.ol 3))
      | 1, ho, _ => cases ho; exact wn (kLoad1 Tryz.underlying4 rfl rfl (hM.d 0 26 rfl) (hM.o0 q4_1_1) rfl rfl)
      | zk + 2, ho, _ => simp at ho
     case en5 =>
      intro u5 lc5 W5 hK5 hB5 hO5 hV5 hX5 hA5
      have q5_1_0 := oth0 hO5 q4_1_0
      have f5_0 := f4_0.kept hK5
      have q5_1_1 := oth0 hO5 q4_1_1
      have f5_1 := f4_1.kept hK5
      have q5_1_2 := oth0 hO5 q4_1_2
      have q5_4_0 := oth0 hO5 q4_0
      have f5_2 := sk4_4.kept hK5
      simp only [putK, fC, fN, kZ, kS, vV, sI, sZ, sS]
      have hBt5 := hBt4.trans hB5
      clear hV5 hX5 hA5
      go_upto_region 8 with fail
      refine rg (n := 9) (t16 := 48) w.heap.size [(lc1 2)] [.val (.agg #[.bool ya0, .slice yp0 yl0 yd0]), .val (.agg #[.bool x4_4, .slice y4_4 z4_4 c4_4]), .k (num N), .val (.agg #[.bool false, .slice yp1 yl1 yd1]), .val (.agg #[.bool x4_4, .slice y4_4 z4_4 c4_4]), .k (num D), .k (fr N D), .k (fr N D), .k (tup2 (.k (fr N D)) (.val (.int .i64 0))), .k (fr N D), .val (.int .i64 0), .any, .val (.int .i64 0)] [(0, 30), (1, 31), (2, 32), (3, 33), (4, 34), (5, 35), (6, 36), (7, 37), (8, 38), (9, 39), (10, 40), (12, 5)] [⟨26, none, (lc1 2), pt, 4, [.c #[.bool false, .slice none 0 0, .bool false, .slice none 0 0]], [(11, 0, 9)]⟩] ?ok6 ?st6 ?al6 ?pu6 ?en6
      case ok6 => exact BxOK.one ⟨(Nat.le_trans hB0.size g1_2), ⟨_, q5_1_2, rfl, rfl, rfl⟩, by simp, (by decide : (26 : Nat) ≠ 48)⟩ rfl hBt5.size
      case st6 =>
       intro zi zo ho hro a' u lc W hM
       match zi, ho, hro with
       | 0, ho, _ => cases ho; exact wn (kL24 rfl (hM.ol 2) (hM.o1 q5_1_0 (by omega)) rfl)
       | 1, ho, _ => cases ho; exact wn (kL24 rfl (hM.ol 6) (hM.o1 q5_4_0 (by omega)) rfl)
       | 2, ho, _ => cases ho; exact wn (kCall2 rfl may74 (hM.d 0 30 rfl) (hM.d 1 31 rfl) (c74 G1.out F1.out (f5_0.kept hM.kept) (f5_2.kept hM.kept)))
       | 3, ho, _ => cases ho; exact wn (kL24 rfl (hM.ol 3) (hM.o1 q5_1_1 (by omega)) rfl)
       | 4, ho, _ => cases ho; exact wn (kL24 rfl (hM.ol 6) (hM.o1 q5_4_0 (by omega)) rfl)
       | 5, ho, _ => cases ho; exact wn (kCall2 rfl may74 (hM.d 3 33 rfl) (hM.d 4 34 rfl) (c74 G1.out F2.out (f5_1.kept hM.kept) (f5_2.kept hM.kept)))
       | 6, ho, _ =>
        cases ho
        refine .inl ⟨wanted_none rfl, ?_⟩
        obtain ⟨sbx, spx, slx, scx, ex⟩ := (show Is (num N) _ W from (hM.kd 2)).form
        obtain ⟨sby, spy, sly, scy, ey⟩ := (show Is (num D) _ W from (hM.kd 5)).form
        exact kBuild26 rfl ((hM.v 2 32 rfl).trans ex) ((hM.v 5 35 rfl).trans ey) ⟨_, _, _, _, _, _, _, _, rfl, (by rw [← ex]; exact (hM.kd 2)), (by rw [← ey]; exact (hM.kd 5))⟩
       | 7, ho, _ =>
        cases ho
        refine .inl ⟨wanted_none rfl, ?_⟩
        obtain ⟨sb1, sp1, sl1, sc1, sb2, sp2, sl2, sc2, e, sh1, sh2⟩ := (show Is (fr N D) _ W from (hM.kd 6))
        exact kBuild73 rfl ((hM.v 6 36 rfl).trans e) ⟨_, _, _, _, _, _, _, _, rfl, sh1, sh2⟩
       | 8, ho, _ => cases ho; exact wn (kCall1 rfl may75 (hM.v 7 37 rfl) (c75fit HT.out (hM.kd 7)))
       | 9, ho, _ => cases ho; exact wn (kEx20 rfl (hM.d 8 38 rfl))
       | 10, ho, _ => cases ho; exact wn (kEx21 rfl (hM.d 8 38 rfl))
       | 11, _, hro => exact nr1 hro (by kernel_rfl)
       | 12, ho, _ => cases ho; exact wn (kAssign rfl (hM.d 10 40 rfl))
       | zk + 13, ho, _ => simp at ho
      case al6 =>
       intro zk zb zi zo hk ha ho a' u lc W hM
       match zk, hk with
       | 0, hk => cases hk; cases ha
       | zk + 1, hk => simp at hk
      case pu6 =>
       intro zk zb zs zo hk hs ho a' u lc W zc hM hc hcs
       match zk, hk with
       | 0, hk =>
        cases hk
        simp only [List.mem_cons, List.not_mem_nil, or_false] at hs
        rcases hs with rfl
        · cases ho
          obtain ⟨sb, sp, sl, sc, sb2, sp2, sl2, sc2, e, _⟩ := (show Is (fr N D) (u 9) W from (hM.kd 9))
          refine ⟨rfl, rfl, ?_, ?_, kStore ?_ rfl ((hM.ol 4).trans (show _ = Value.pointer (some ⟨lc 0, 0, none⟩) from by rw [show lc 0 = (lc1 2) from hM.locO 0 _ rfl rfl]; rfl)) (hM.v 9 39 rfl) hc ?_ ?_⟩ <;> rw [e]
          · exact Nat.le_of_ble_eq_true rfl
          · rfl
          · exact sz26
          · rw [hcs]; exact Nat.le_of_ble_eq_true rfl
          · rfl
       | zk + 1, hk => simp at hk
      case en6 =>
       intro u6 lc6 W6 hK6 hB6 hO6 hV6 hX6 hA6
       have k6_9 := kk (hV6 9 39 rfl) rfl
       obtain ⟨qr, ho, hl⟩ := hX6 0 _ rfl
       have elc : lc6 0 = (lc1 2) := ho rfl
       rw [elc] at qr
       obtain ⟨x6_11, y6_11, z6_11, c6_11, x26_11, y26_11, z26_11, c26_11, es6_11, sa6_11, sb6_11⟩ := id k6_9
       have sk6_11 : Is (fr N D) (.agg #[.bool x6_11, .slice y6_11 z6_11 c6_11, .bool x26_11, .slice y26_11 z26_11 c26_11]) W6 := by rw [← es6_11]; exact k6_9
       have q6_0 : W6.heap[(lc1 2)]? = some (.cells #[.bool x6_11, .slice y6_11 z6_11 c6_11, .bool x26_11, .slice y26_11 z26_11 c26_11] 26) := by
        rw [contAll_one rfl (cs := #[.bool x6_11, .slice y6_11 z6_11 c6_11, .bool x26_11, .slice y26_11 z26_11 c26_11]) (by rw [es6_11]; rfl) rfl] at qr; exact qr
       simp only [putK, fC, fN, kZ, kS, vV, vK, sI, sZ, sS]
       have hBt6 := hBt5.trans hB6
       clear hV6 hX6 hA6
       have cr0 := cell_of q6_0 0 rfl
       have cr1 := cell_of q6_0 1 rfl
       have cr2 := cell_of q6_0 2 rfl
       have cr3 := cell_of q6_0 3 rfl
       go_wp2
       exact bodyPost_ret (v := .tuple #[.agg #[.bool x6_11, .slice y6_11 z6_11 c6_11, .bool x26_11, .slice y26_11 z26_11 c26_11], .int .i64 0]) (by simp [results, Tryz.results46, go_sem, cr0, cr1, cr2, cr3]) rfl ⟨_, rfl, ⟨_, _, rfl, sk6_11, rfl⟩, hBt6⟩
set_option maxRecDepth 100000 in
set_option maxHeartbeats 4000000 in
theorem c52a {r : Rat} {q t : Int} {v0 : Value} {w : World} (hr : Fs r) (hf : Floor r.num (r.den : Int) q t) (ht : decide (t = 0) = true) (h0 : Is (frq r) v0 w) : Calls Tryz.prog 52 #[v0] w (Ret (.k (tup2 (.k (num q)) (.val (.int .i64 0)))) w) := by
 obtain ⟨ya0, yp0, yl0, yd0, ye0, yq0, ym0, yr0, rfl, yg0, yk0⟩ := id h0
 replace yg0 : Is (num r.num) (.agg #[.bool ya0, .slice yp0 yl0 yd0]) w := yg0
 replace yk0 : Is (num ((r.den : Nat) : Int)) (.agg #[.bool ye0, .slice yq0 ym0 yr0]) w := yk0
 have hB0 := Below.refl w.heap.size w
 have HR := Lib.hid hr
 have HF := Lib.hid hf
 have HT := Lib.hid ht
 clear hr hf ht
 go_enter Tryz.func52, Tryz.ntmps52
 go_upto_region 0 with fail
 refine rg (n := 9) (t16 := 48) w.heap.size [] [.any, .any, .val (.int .i64 0)] [(0, 1), (1, 2), (2, 3)] [⟨26, some 0, 0, pt, 4, [.c #[.bool ya0, .slice yp0 yl0 yd0, .bool ye0, .slice yq0 ym0 yr0]], []⟩, ⟨24, some 1, 0, pt, 2, [.c #[.bool false, .slice none 0 0]], []⟩] ?ok1 ?st1 ?al1 ?pu1 ?en1
 case ok1 => exact BxOK.fresh rfl hB0.size
 case st1 =>
  intro zi zo ho hro a' u lc W hM
  match zi, ho, hro with
  | 0, _, hro => exact nr1 hro (by kernel_rfl)
  | 1, _, hro => exact nr1 hro (by kernel_rfl)
  | 2, ho, _ => cases ho; exact wn (kAssign rfl rfl)
  | zk + 3, ho, _ => simp at ho
 case al1 =>
  intro zk zb zi zo hk ha ho a' u lc W hM
  match zk, hk with
  | 0, hk => cases hk; cases ha; cases ho; exact ⟨rfl, rfl, rfl, rfl, kBox rfl (hM.ol 0)⟩
  | 1, hk => cases hk; cases ha; cases ho; exact ⟨rfl, rfl, rfl, rfl, kAlloc24 rfl⟩
  | zk + 2, hk => simp at hk
 case pu1 =>
  intro zk zb zs zo hk hs ho a' u lc W zc hM hc hcs
  match zk, hk with
  | 0, hk => cases hk; simp at hs
  | 1, hk => cases hk; simp at hs
  | zk + 2, hk => simp at hk
 case en1 =>
  intro u1 lc1 W1 hK1 hB1 hO1 hV1 hX1 hA1
  obtain ⟨qr, ho, hl⟩ := hX1 0 _ rfl
  have e1_0 : u1 0 = .pointer (some ⟨lc1 0, 0, none⟩) := (hl 0 rfl).1
  have g1_0 := (hl 0 rfl).2
  have f1_0 := h0.kept hK1
  have q1_0 : W1.heap[(lc1 0)]? = some (.cells #[.bool ya0, .slice yp0 yl0 yd0, .bool ye0, .slice yq0 ym0 yr0] 26) := by
   exact qr
  obtain ⟨qr, ho, hl⟩ := hX1 1 _ rfl
  have e1_1 : u1 1 = .pointer (some ⟨lc1 1, 0, none⟩) := (hl 1 rfl).1
  have g1_1 := (hl 1 rfl).2
  have q1_1 : W1.heap[(lc1 1)]? = some (.cells #[.bool false, .slice none 0 0] 24) := by
   exact qr
  have ne1_0_1 := hA1 0 1 _ _ rfl rfl (by decide)
  simp only [putK, fC, fN, kZ, kS, vV, vA, sI, sZ, sS, e1_0, e1_1]
  have hBt1 := hB0.trans hB1
  clear hV1 hX1 hA1
  go_upto_region 1 with fail
  refine rg0 (n := 9) (t16 := 48) w.heap.size [.val (.agg #[.bool ya0, .slice yp0 yl0 yd0, .bool ye0, .slice yq0 ym0 yr0]), .val (.bool true), .val (.bool false)] [(0, 6), (1, 7), (2, 8)] hBt1.size ?st2 ?en2
  case st2 =>
   intro zi zo ho hro a' u lc W hM
   match zi, ho, hro with
   | 0, ho, _ => cases ho; exact wn (kL26 rfl (hM.ol 1) (hM.o0 q1_0))
   | 1, ho, _ => cases ho; exact wn (kCall1 rfl may44 (hM.d 0 6 rfl) (c44_ok HR.out (f1_0.kept hM.kept)))
   | 2, ho, _ => cases ho; exact wn (kNot rfl (hM.d 1 7 rfl) rfl)
   | zk + 3, ho, _ => simp at ho
  case en2 =>
   intro u2 lc2 W2 hK2 hB2 hO2 hV2 hX2 hA2
   have q2_1_0 := oth0 hO2 q1_0
   have f2_0 := f1_0.kept hK2
   have q2_1_1 := oth0 hO2 q1_1
   simp only [putK, fC, fN, kZ, kS, vV, sI, sZ, sS]
   have hBt2 := hBt1.trans hB2
   clear hV2 hX2 hA2
   go_upto_region 3 with fail
   refine rg (n := 9) (t16 := 48) w.heap.size [] [.val (.agg #[.bool ya0, .slice yp0 yl0 yd0, .bool ye0, .slice yq0 ym0 yr0]), .val (.agg #[.bool ya0, .slice yp0 yl0 yd0, .bool ye0, .slice yq0 ym0 yr0]), .k (tup2 (.k (num q)) (.val (.bool true))), .k (tup2 (.k (num q)) (.val (.bool true))), .k (num q), .val (.bool true), .any, .any, .val (.bool true)] [(0, 11), (1, 12), (2, 13), (3, 10), (4, 14), (5, 15), (6, 4), (8, 5)] [⟨24, some 6, 0, pt, 2, [.c #[.bool false, .slice none 0 0]], [(7, 0, 4)]⟩] ?ok3 ?st3 ?al3 ?pu3 ?en3
   case ok3 => exact BxOK.fresh rfl hBt2.size
   case st3 =>
    intro zi zo ho hro a' u lc W hM
    match zi, ho, hro with
    | 0, ho, _ => cases ho; exact wn (kL26 rfl (hM.ol 1) (hM.o0 q2_1_0))
    | 1, ho, _ => cases ho; exact wn (kBuild73 rfl (hM.d 0 11 rfl) rfl)
    | 2, ho, _ => cases ho; exact wn (kCall1 rfl may99 (hM.d 1 12 rfl) (c99 (by have := rat_pos r; omega) HF.out HT.out (f2_0.kept hM.kept)))
    | 3, ho, _ => cases ho; exact wn (kMove rfl (hM.d 2 13 rfl))
    | 4, ho, _ => cases ho; exact wn (kEx20 rfl (hM.d 3 10 rfl))
    | 5, ho, _ => cases ho; exact wn (kEx21 rfl (hM.d 3 10 rfl))
    | 6, _, hro => exact nr1 hro (by kernel_rfl)
    | 7, _, hro => exact nr1 hro (by kernel_rfl)
    | 8, ho, _ => cases ho; exact wn (kAssign rfl (hM.d 5 15 rfl))
    | zk + 9, ho, _ => simp at ho
   case al3 =>
    intro zk zb zi zo hk ha ho a' u lc W hM
    match zk, hk with
    | 0, hk => cases hk; cases ha; cases ho; exact ⟨rfl, rfl, rfl, rfl, kAlloc24 rfl⟩
    | zk + 1, hk => simp at hk
   case pu3 =>
    intro zk zb zs zo hk hs ho a' u lc W zc hM hc hcs
    match zk, hk with
    | 0, hk =>
     cases hk
     simp only [List.mem_cons, List.not_mem_nil, or_false] at hs
     rcases hs with rfl
     · cases ho
       obtain ⟨sb, sp, sl, sc, e⟩ := (show Is (num q) (u 4) W from (hM.kd 4)).form
       refine ⟨rfl, rfl, ?_, ?_, kStore ?_ rfl ((hM.v 6 4 rfl).trans (hM.loc 0 _ 6 rfl rfl (by kernel_rfl))) (hM.v 4 14 rfl) hc ?_ ?_⟩ <;> rw [e]
       · exact Nat.le_of_ble_eq_true rfl
       · rfl
       · exact sz24
       · rw [hcs]; exact Nat.le_of_ble_eq_true rfl
       · rfl
    | zk + 1, hk => simp at hk
   case en3 =>
    intro u3 lc3 W3 hK3 hB3 hO3 hV3 hX3 hA3
    have e3_0 := kv (hV3 0 11 rfl) rfl
    have k3_4 := kk (hV3 4 14 rfl) rfl
    obtain ⟨qr, ho, hl⟩ := hX3 0 _ rfl
    have e3_6 : u3 6 = .pointer (some ⟨lc3 0, 0, none⟩) := (hl 6 rfl).1
    have g3_0 := (hl 6 rfl).2
    obtain ⟨x3_7, y3_7, z3_7, c3_7, es3_7⟩ := k3_4.form
    have sk3_7 : Is (num q) (.agg #[.bool x3_7, .slice y3_7 z3_7 c3_7]) W3 := by rw [← es3_7]; exact k3_4
    have q3_0 : W3.heap[(lc3 0)]? = some (.cells #[.bool x3_7, .slice y3_7 z3_7 c3_7] 24) := by
     rw [contAll_one rfl (cs := #[.bool x3_7, .slice y3_7 z3_7 c3_7]) (by rw [es3_7]; rfl) rfl] at qr; exact qr
    have ne3_0_1_1 := Nat.ne_of_lt (Nat.lt_of_lt_of_le (Array.getElem?_eq_some_iff.1 q2_1_1).1 g3_0)
    have q3_1_1 := oth0 hO3 q2_1_1
    simp only [putK, fC, fN, kZ, kS, vV, vA, vK, sI, sZ, sS, e3_6]
    have hBt3 := hBt2.trans hB3
    clear hV3 hX3 hA3
    go_upto_region 4 with fail
    refine rg0 (n := 9) (t16 := 48) w.heap.size [.val (.bool true), .val (.bool false)] [(0, 16), (1, 17)] hBt3.size ?st4 ?en4
    case st4 =>
     intro zi zo ho hro a' u lc W hM
     match zi, ho, hro with
     | 0, ho, _ => cases ho; exact wn (kMove rfl (hM.ol 5))
     | 1, ho, _ => cases ho; exact wn (kNot rfl (hM.d 0 16 rfl) rfl)
     | zk + 2, ho, _ => simp at ho
    case en4 =>
     intro u4 lc4 W4 hK4 hB4 hO4 hV4 hX4 hA4
     have q4_1_1 := oth0 hO4 q3_1_1
     have q4_3_0 := oth0 hO4 q3_0
     have f4_3 := sk3_7.kept hK4
     simp only [putK, fC, fN, kZ, kS, vV, sI, sZ, sS]
     have hBt4 := hBt3.trans hB4
     clear hV4 hX4 hA4
     go_upto_region 6 with fail
     refine rg (n := 9) (t16 := 48) w.heap.size [(lc1 1)] [.val (.agg #[.bool x3_7, .slice y3_7 z3_7 c3_7]), .any, .val (.int .i64 0)] [(0, 21), (2, 3)] [⟨24, none, (lc1 1), pt, 2, [.c #[.bool false, .slice none 0 0]], [(1, 0, 0)]⟩] ?ok5 ?st5 ?al5 ?pu5 ?en5
     case ok5 => exact BxOK.one ⟨(Nat.le_trans hB0.size g1_1), ⟨_, q4_1_1, rfl, rfl, rfl⟩, by simp, (by decide : (24 : Nat) ≠ 48)⟩ rfl hBt4.size
     case st5 =>
      intro zi zo ho hro a' u lc W hM
      match zi, ho, hro with
      | 0, ho, _ => cases ho; exact wn (kL24 rfl (hM.ol 4) (hM.o1 q4_3_0 (by omega)) rfl)
      | 1, _, hro => exact nr1 hro (by kernel_rfl)
      | 2, ho, _ => cases ho; exact wn (kAssign rfl rfl)
      | zk + 3, ho, _ => simp at ho
     case al5 =>
      intro zk zb zi zo hk ha ho a' u lc W hM
      match zk, hk with
      | 0, hk => cases hk; cases ha
      | zk + 1, hk => simp at hk
     case pu5 =>
      intro zk zb zs zo hk hs ho a' u lc W zc hM hc hcs
      match zk, hk with
      | 0, hk =>
       cases hk
       simp only [List.mem_cons, List.not_mem_nil, or_false] at hs
       rcases hs with rfl
       · cases ho
         have e : u 0 = .agg #[.bool x3_7, .slice y3_7 z3_7 c3_7] := hM.kd 0
         refine ⟨rfl, rfl, ?_, ?_, kStore ?_ rfl ((hM.ol 2).trans (show _ = Value.pointer (some ⟨lc 0, 0, none⟩) from by rw [show lc 0 = (lc1 1) from hM.locO 0 _ rfl rfl]; rfl)) (hM.v 0 21 rfl) hc ?_ ?_⟩ <;> rw [e]
         · exact Nat.le_of_ble_eq_true rfl
         · rfl
         · exact sz24
         · rw [hcs]; exact Nat.le_of_ble_eq_true rfl
         · rfl
      | zk + 1, hk => simp at hk
     case en5 =>
      intro u5 lc5 W5 hK5 hB5 hO5 hV5 hX5 hA5
      have e5_0 := kv (hV5 0 21 rfl) rfl
      obtain ⟨qr, ho, hl⟩ := hX5 0 _ rfl
      have elc : lc5 0 = (lc1 1) := ho rfl
      rw [elc] at qr
      have f5_0 := f4_3.kept hK5
      have q5_0 : W5.heap[(lc1 1)]? = some (.cells #[.bool x3_7, .slice y3_7 z3_7 c3_7] 24) := by
       rw [contAll_one rfl (cs := #[.bool x3_7, .slice y3_7 z3_7 c3_7]) (by rw [e5_0]; rfl) rfl] at qr; exact qr
      simp only [putK, fC, fN, kZ, kS, vV, sI, sZ, sS]
      have hBt5 := hBt4.trans hB5
      clear hV5 hX5 hA5
      have cr0 := cell_of q5_0 0 rfl
      have cr1 := cell_of q5_0 1 rfl
      go_wp2
      exact bodyPost_ret (v := .tuple #[.agg #[.bool x3_7, .slice y3_7 z3_7 c3_7], .int .i64 0]) (by simp [results, Tryz.results52, go_sem, cr0, cr1]) rfl ⟨_, rfl, ⟨_, _, rfl, f5_0, rfl⟩, hBt5⟩
end Go.Proofs.YtihdbjilolmfiaaGreatDoor
namespace Go.Proofs.YtihdbjilolmfiaaGreatDoor
open Go.RowKit Go.WM Go.WR
attribute [local go_sem] Oper.semAt_some
variable {n : Nat} {o : Oper} {a : Act} {w : World}
theorem kSlice1 {x : Nat} {b1 s1 b2 s2 : Value} (ho : o.op = .buildSlice 38 1 #[(0, .tmp x)]) (hx : a.tmps.getD x undef = .agg #[b1, s1, b2, s2]) :
 Op1 n Tryz.prog o a w (fun v W' => v = .slice (some ⟨w.heap.size, 0, none⟩) 1 1 ∧ W' = w.alloc (.cells #[b1, s1, b2, s2] 26)) := by
 refine Op1.of_run (v := .slice (some ⟨w.heap.size, 0, none⟩) 1 1) (w' := w.alloc (.cells #[b1, s1, b2, s2] 26)) ?_ ⟨rfl, rfl⟩
 unfold execOp
 rw [ho]
 simp only [Array.getD_eq_getD_getElem?] at hx
 simp [go_sem, hx]
end Go.Proofs.YtihdbjilolmfiaaGreatDoor
namespace Go.Proofs.YtihdbjilolmfiaaGreatDoor
open Go.RowKit Go.WM Go.WR
attribute [local go_sem] Oper.semAt_some
theorem c93 {z k er : Int} {v0 : Value} {w : World} (h : (-9223372036854775808 ≤ z ∧ z < 9223372036854775808 ∧ k = z ∧ er = 0) ∨ (¬ (-9223372036854775808 ≤ z ∧ z < 9223372036854775808) ∧ k = 0 ∧ er = 3)) (h0 : Is (num z) v0 w) : Calls Tryz.prog 93 #[v0] w (Ret (.k (tup2 (.val (.int .i64 k)) (.val (.int .i64 er)))) w) := by
 refine (Int_ok v0 z w h0).mono ?_
 rintro e w' ⟨k', er', rfl, h', hb⟩
 obtain ⟨rfl, rfl⟩ : k' = k ∧ er' = er := by omega
 exact ⟨_, rfl, ⟨_, _, rfl, rfl, rfl⟩, hb⟩
set_option maxRecDepth 100000 in
set_option maxHeartbeats 4000000 in
theorem c41n {r : Rat} {v0 : Value} {w : World} (hr : Fs r) (hd : decide (((r.den : Nat) : Int) = 1) = false) (h0 : Is (frq r) v0 w) : Calls Tryz.prog 41 #[v0] w (Ret (.k (tup2 (.val (.int .i64 0)) (.val (.int .i64 22)))) w) := by
 obtain ⟨ya0, yp0, yl0, yd0, ye0, yq0, ym0, yr0, rfl, yg0, yk0⟩ := id h0
 replace yg0 : Is (num r.num) (.agg #[.bool ya0, .slice yp0 yl0 yd0]) w := yg0
 replace yk0 : Is (num ((r.den : Nat) : Int)) (.agg #[.bool ye0, .slice yq0 ym0 yr0]) w := yk0
 have HR := Lib.hid hr
 have HD := Lib.hid hd
 clear hr hd
 have hB0 := Below.refl w.heap.size w
 go_enter Tryz.func41, Tryz.ntmps41
 go_upto_region 0 with fail
 refine rg (n := 9) (t16 := 48) w.heap.size [] [.any, .val (.int .i64 0), .val (.int .i64 0)] [(0, 1), (1, 2), (2, 3)] [⟨26, some 0, 0, pt, 4, [.c #[.bool ya0, .slice yp0 yl0 yd0, .bool ye0, .slice yq0 ym0 yr0]], []⟩] ?ok1 ?st1 ?al1 ?pu1 ?en1
 case ok1 => exact BxOK.fresh rfl hB0.size
 case st1 =>
  intro zi zo ho hro a' u lc W hM
  match zi, ho, hro with
  | 0, _, hro => exact nr1 hro (by kernel_rfl)
  | 1, ho, _ => cases ho; exact wn (kAssign rfl rfl)
  | 2, ho, _ => cases ho; exact wn (kAssign rfl rfl)
  | zk + 3, ho, _ => simp at ho
 case al1 =>
  intro zk zb zi zo hk ha ho a' u lc W hM
  match zk, hk with
  | 0, hk => cases hk; cases ha; cases ho; exact ⟨rfl, rfl, rfl, rfl, kBox rfl (hM.ol 0)⟩
  | zk + 1, hk => simp at hk
 case pu1 =>
  intro zk zb zs zo hk hs ho a' u lc W zc hM hc hcs
  match zk, hk with
  | 0, hk => cases hk; simp at hs
  | zk + 1, hk => simp at hk
 case en1 =>
  intro u1 lc1 W1 hK1 hB1 hO1 hV1 hX1 hA1
  obtain ⟨qr, ho, hl⟩ := hX1 0 _ rfl
  have e1_0 : u1 0 = .pointer (some ⟨lc1 0, 0, none⟩) := (hl 0 rfl).1
  have g1_0 := (hl 0 rfl).2
  have f1_0 := h0.kept hK1
  have f1_2 := yk0.kept hK1
  have q1_0 : W1.heap[(lc1 0)]? = some (.cells #[.bool ya0, .slice yp0 yl0 yd0, .bool ye0, .slice yq0 ym0 yr0] 26) := by
   exact qr
  simp only [putK, fC, fN, kZ, kS, vV, vA, sI, sZ, sS, e1_0]
  have hBt1 := hB0.trans hB1
  clear hV1 hX1 hA1
  go_upto_region 1 with fail
  refine rg0 (n := 9) (t16 := 48) w.heap.size [.val (.agg #[.bool ya0, .slice yp0 yl0 yd0, .bool ye0, .slice yq0 ym0 yr0]), .val (.bool true), .val (.bool false), .val (.bool false)] [(0, 5), (1, 6), (2, 7), (3, 4)] hBt1.size ?st2 ?en2
  case st2 =>
   intro zi zo ho hro a' u lc W hM
   match zi, ho, hro with
   | 0, ho, _ => cases ho; exact wn (kL26 rfl (hM.ol 1) (hM.o0 q1_0))
   | 1, ho, _ => cases ho; exact wn (kCall1 rfl may44 (hM.d 0 5 rfl) (c44_ok HR.out (f1_0.kept hM.kept)))
   | 2, ho, _ => cases ho; exact wn (kNot rfl (hM.d 1 6 rfl) rfl)
   | 3, ho, _ => cases ho; exact wn (kAssign rfl (hM.d 2 7 rfl))
   | zk + 4, ho, _ => simp at ho
  case en2 =>
   intro u2 lc2 W2 hK2 hB2 hO2 hV2 hX2 hA2
   have q2_1_0 := oth0 hO2 q1_0
   have f2_2 := f1_2.kept hK2
   simp only [putK, fC, fN, kZ, kS, vV, sI, sZ, sS]
   have hBt2 := hBt1.trans hB2
   clear hV2 hX2 hA2
   go_upto_region 3 with fail
   refine rg0 (n := 9) (t16 := 48) w.heap.size [.val (.pointer (some ⟨(lc1 0), 2, none⟩)), .val (.agg #[.bool ye0, .slice yq0 ym0 yr0]), .val (.bool false), .val (.bool true), .val (.bool true)] [(0, 9), (1, 10), (2, 11), (3, 12), (4, 8)] hBt2.size ?st3 ?en3
   case st3 =>
    intro zi zo ho hro a' u lc W hM
    match zi, ho, hro with
    | 0, ho, _ => cases ho; exact wn (kField26_1 rfl (hM.ol 1))
    | 1, ho, _ => cases ho; exact wn (kL24 rfl (hM.d 0 9 rfl) (hM.o0 q2_1_0) rfl)
    | 2, ho, _ => cases ho; exact wn (kCall1 rfl may86 (hM.d 1 10 rfl) (c86 HD.out (f2_2.kept hM.kept)))
    | 3, ho, _ => cases ho; exact wn (kNot rfl (hM.d 2 11 rfl) rfl)
    | 4, ho, _ => cases ho; exact wn (kAssign rfl (hM.d 3 12 rfl))
    | zk + 5, ho, _ => simp at ho
   case en3 =>
    intro u3 lc3 W3 hK3 hB3 hO3 hV3 hX3 hA3
    simp only [putK, fC, fN, kZ, kS, vV, sI, sZ, sS]
    have hBt3 := hBt2.trans hB3
    clear hV3 hX3 hA3
    go_upto_region 4 with fail
    refine rg0 (n := 9) (t16 := 48) w.heap.size [.val (.int .i64 0), .val (.int .i64 22)] [(0, 2), (1, 3)] hBt3.size ?st4 ?en4
    case st4 =>
     intro zi zo ho hro a' u lc W hM
     match zi, ho, hro with
     | 0, ho, _ => cases ho; exact wn (kAssign rfl rfl)
     | 1, ho, _ => cases ho; exact wn (kAssign rfl rfl)
     | zk + 2, ho, _ => simp at ho
    case en4 =>
     intro u4 lc4 W4 hK4 hB4 hO4 hV4 hX4 hA4
     simp only [putK, fC, fN, kZ, kS, vV, sI, sZ, sS]
     have hBt4 := hBt3.trans hB4
     clear hV4 hX4 hA4
     go_wp2
     exact bodyPost_ret (v := .tuple #[.int .i64 0, .int .i64 22]) (by simp [results, Tryz.results41, go_sem]) rfl ⟨_, rfl, ⟨_, _, rfl, rfl, rfl⟩, hBt4⟩
set_option maxRecDepth 100000 in
set_option maxHeartbeats 4000000 in
theorem c41 {r : Rat} {k er : Int} {v0 : Value} {w : World} (hr : Fs r) (hd : decide (((r.den : Nat) : Int) = 1) = true) (hk : (-9223372036854775808 ≤ r.num ∧ r.num < 9223372036854775808 ∧ k = r.num ∧ er = 0) ∨ (¬ (-9223372036854775808 ≤ r.num ∧ r.num < 9223372036854775808) ∧ k = 0 ∧ er = 3)) (h0 : Is (frq r) v0 w) : Calls Tryz.prog 41 #[v0] w (Ret (.k (tup2 (.val (.int .i64 k)) (.val (.int .i64 er)))) w) := by
 obtain ⟨ya0, yp0, yl0, yd0, ye0, yq0, ym0, yr0, rfl, yg0, yk0⟩ := id h0
 replace yg0 : Is (num r.num) (.agg #[.bool ya0, .slice yp0 yl0 yd0]) w := yg0
 replace yk0 : Is (num ((r.den : Nat) : Int)) (.agg #[.bool ye0, .slice yq0 ym0 yr0]) w := yk0
 have HR := Lib.hid hr
 have HD := Lib.hid hd
 have HK := Lib.hid hk
 clear hr hd hk
 have hB0 := Below.refl w.heap.size w
 go_enter Tryz.func41, Tryz.ntmps41
 go_upto_region 0 with fail
 refine rg (n := 9) (t16 := 48) w.heap.size [] [.any, .val (.int .i64 0), .val (.int .i64 0)] [(0, 1), (1, 2), (2, 3)] [⟨26, some 0, 0, pt, 4, [.c #[.bool ya0, .slice yp0 yl0 yd0, .bool ye0, .slice yq0 ym0 yr0]], []⟩] ?ok1 ?st1 ?al1 ?pu1 ?en1
 case ok1 => exact BxOK.fresh rfl hB0.size
 case st1 =>
  intro zi zo ho hro a' u lc W hM
  match zi, ho, hro with
  | 0, _, hro => exact nr1 hro (by kernel_rfl)
  | 1, ho, _ => cases ho; exact wn (kAssign rfl rfl)
  | 2, ho, _ => cases ho; exact wn (kAssign rfl rfl)
  | zk + 3, ho, _ => simp at ho
 case al1 =>
  intro zk zb zi zo hk ha ho a' u lc W hM
  match zk, hk with
  | 0, hk => cases hk; cases ha; cases ho; exact ⟨rfl, rfl, rfl, rfl, kBox rfl (hM.ol 0)⟩
  | zk + 1, hk => simp at hk
 case pu1 =>
  intro zk zb zs zo hk hs ho a' u lc W zc hM hc hcs
  match zk, hk with
  | 0, hk => cases hk; simp at hs
  | zk + 1, hk => simp at hk
 case en1 =>
  intro u1 lc1 W1 hK1 hB1 hO1 hV1 hX1 hA1
  obtain ⟨qr, ho, hl⟩ := hX1 0 _ rfl
  have e1_0 : u1 0 = .pointer (some ⟨lc1 0, 0, none⟩) := (hl 0 rfl).1
  have g1_0 := (hl 0 rfl).2
  have f1_0 := h0.kept hK1
  have f1_1 := yg0.kept hK1
  have f1_2 := yk0.kept hK1
  have q1_0 : W1.heap[(lc1 0)]? = some (.cells #[.bool ya0, .slice yp0 yl0 yd0, .bool ye0, .slice yq0 ym0 yr0] 26) := by
   exact qr
  simp only [putK, fC, fN, kZ, kS, vV, vA, sI, sZ, sS, e1_0]
  have hBt1 := hB0.trans hB1
  clear hV1 hX1 hA1
  go_upto_region 1 with fail
  refine rg0 (n := 9) (t16 := 48) w.heap.size [.val (.agg #[.bool ya0, .slice yp0 yl0 yd0, .bool ye0, .slice yq0 ym0 yr0]), .val (.bool true), .val (.bool false), .val (.bool false)] [(0, 5), (1, 6), (2, 7), (3, 4)] hBt1.size ?st2 ?en2
  case st2 =>
   intro zi zo ho hro a' u lc W hM
   match zi, ho, hro with
   | 0, ho, _ => cases ho; exact wn (kL26 rfl (hM.ol 1) (hM.o0 q1_0))
   | 1, ho, _ => cases ho; exact wn (kCall1 rfl may44 (hM.d 0 5 rfl) (c44_ok HR.out (f1_0.kept hM.kept)))
   | 2, ho, _ => cases ho; exact wn (kNot rfl (hM.d 1 6 rfl) rfl)
   | 3, ho, _ => cases ho; exact wn (kAssign rfl (hM.d 2 7 rfl))
   | zk + 4, ho, _ => simp at ho
  case en2 =>
   intro u2 lc2 W2 hK2 hB2 hO2 hV2 hX2 hA2
   have q2_1_0 := oth0 hO2 q1_0
   have f2_1 := f1_1.kept hK2
   have f2_2 := f1_2.kept hK2
   simp only [putK, fC, fN, kZ, kS, vV, sI, sZ, sS]
   have hBt2 := hBt1.trans hB2
   clear hV2 hX2 hA2
   go_upto_region 3 with fail
   refine rg0 (n := 9) (t16 := 48) w.heap.size [.val (.pointer (some ⟨(lc1 0), 2, none⟩)), .val (.agg #[.bool ye0, .slice yq0 ym0 yr0]), .val (.bool true), .val (.bool false), .val (.bool false)] [(0, 9), (1, 10), (2, 11), (3, 12), (4, 8)] hBt2.size ?st3 ?en3
   case st3 =>
    intro zi zo ho hro a' u lc W hM
    match zi, ho, hro with
    | 0, ho, _ => cases ho; exact wn (kField26_1 rfl (hM.ol 1))
    | 1, ho, _ => cases ho; exact wn (kL24 rfl (hM.d 0 9 rfl) (hM.o0 q2_1_0) rfl)
    | 2, ho, _ => cases ho; exact wn (kCall1 rfl may86 (hM.d 1 10 rfl) (c86 HD.out (f2_2.kept hM.kept)))
    | 3, ho, _ => cases ho; exact wn (kNot rfl (hM.d 2 11 rfl) rfl)
    | 4, ho, _ => cases ho; exact wn (kAssign rfl (hM.d 3 12 rfl))
    | zk + 5, ho, _ => simp at ho
   case en3 =>
    intro u3 lc3 W3 hK3 hB3 hO3 hV3 hX3 hA3
    have q3_1_0 := oth0 hO3 q2_1_0
    have f3_1 := f2_1.kept hK3
    simp only [putK, fC, fN, kZ, kS, vV, sI, sZ, sS]
    have hBt3 := hBt2.trans hB3
    clear hV3 hX3 hA3
    go_upto_region 5 with fail
    refine rg0 (n := 9) (t16 := 48) w.heap.size [.val (.pointer (some ⟨(lc1 0), 0, none⟩)), .val (.agg #[.bool ya0, .slice yp0 yl0 yd0]), .k (tup2 (.val (.int .i64 k)) (.val (.int .i64 er))), .val (.int .i64 k), .val (.int .i64 er), .val (.int .i64 k), .val (.int .i64 er)] [(0, 13), (1, 14), (2, 15), (3, 16), (4, 17), (5, 2), (6, 3)] hBt3.size ?st4 ?en4
    case st4 =>
     intro zi zo ho hro a' u lc W hM
     match zi, ho, hro with
     | 0, ho, _ => cases ho; exact wn (kField26_0 rfl (hM.ol 1))
     | 1, ho, _ => cases ho; exact wn (kL24 rfl (hM.d 0 13 rfl) (hM.o0 q3_1_0) rfl)
     | 2, ho, _ => cases ho; exact wn (kCall1 rfl may93 (hM.d 1 14 rfl) (c93 HK.out (f3_1.kept hM.kept)))
     | 3, ho, _ => cases ho; exact wn (kEx20 rfl (hM.d 2 15 rfl))
     | 4, ho, _ => cases ho; exact wn (kEx21 rfl (hM.d 2 15 rfl))
     | 5, ho, _ => cases ho; exact wn (kAssign rfl (hM.d 3 16 rfl))
     | 6, ho, _ => cases ho; exact wn (kAssign rfl (hM.d 4 17 rfl))
     | zk + 7, ho, _ => simp at ho
    case en4 =>
     intro u4 lc4 W4 hK4 hB4 hO4 hV4 hX4 hA4
     simp only [putK, fC, fN, kZ, kS, vV, vK, sI, sZ, sS]
     have hBt4 := hBt3.trans hB4
     clear hV4 hX4 hA4
     go_wp2
     exact bodyPost_ret (v := .tuple #[.int .i64 k, .int .i64 er]) (by simp [results, Tryz.results41, go_sem]) rfl ⟨_, rfl, ⟨_, _, rfl, rfl, rfl⟩, hBt4⟩
end Go.Proofs.YtihdbjilolmfiaaGreatDoor
namespace Go.Proofs.YtihdbjilolmfiaaGreatDoor
open Go.RowKit Go.WM Go.WR
theorem Fz.fs {n : Nat} {q : Rat} (h : Fz n q) (hn : n ≤ 256) : Fs q := by
 have h1 := h.mono hn
 unfold Fs
 rw [CapF.eq]
 exact h1
def cmpQ (a b : Rat) : Int := cmpI (a.num * (b.den : Int)) (b.num * (a.den : Int))
theorem c35q {r s : Rat} {v0 v1 : Value} {w : World} (hr : Fs r) (hs : Fs s) (h0 : Is (frq r) v0 w) (h1 : Is (frq s) v1 w) : Calls Tryz.prog 35 #[v0, v1] w (Ret (.val (.int .i64 (cmpQ r s))) w) :=
 c35 hr hs rfl rfl (by have := mul_cap hr.1 hs.2; omega) (by have := mul_cap hs.1 hr.2; omega) h0 h1
theorem cmpQ_def (a b : Rat) : cmpQ a b = if a < b then -1 else if a = b then 0 else 1 := by
 unfold cmpQ cmpI
 have h1 := Rat.lt_iff a b
 have h2 := Rat.lt_iff b a
 by_cases h : a < b
 · rw [if_pos h]
   have := h1.1 h
   simp [this]
 · rw [if_neg h]
   by_cases he : a = b
   · subst he; simp
   · rw [if_neg he]
     have hb : b < a := by grind
     have := h2.1 hb
     grind
end Go.Proofs.YtihdbjilolmfiaaGreatDoor
namespace Go.Proofs.YtihdbjilolmfiaaGreatDoor
open Go.RowKit Go.WM Go.WR
attribute [local go_sem] Oper.semAt_some
theorem c39q {r : Rat} {v0 : Value} {w : World} (hr : Fs r) (h0 : Is (fr r.num ((r.den : Nat) : Int)) v0 w) : Calls Tryz.prog 39 #[v0] w (Ret (.k (tup2 (.k (fr (-r).num (((-r).den : Nat) : Int))) (.val (.int .i64 0)))) w) := by
 have h := c39 hr h0
 rw [← Rat.neg_num] at h
 exact h
theorem cmpQ_self (a : Rat) : cmpQ a a = 0 := by rw [cmpQ_def]; simp
theorem cmpF (M : Int) (a : Rat) : cmpQ (M : Rat) a = cmpI (M * (a.den : Int)) a.num := by
 unfold cmpQ
 show cmpI (M * _) (a.num * 1) = _
 rw [Int.mul_one]
theorem fz_int {M : Int} {n : Nat} (h : (M.natAbs : Int) < 65536 ^ n) (hn : 1 ≤ n) : Fz n (M : Rat) := by
 refine ⟨h, ?_⟩
 have := pow_le_pow' hn
 show (((1 : Nat) : Int).natAbs : Int) < 65536 ^ n
 have h1 : (65536 : Int) ^ 1 = 65536 := by decide
 omega
theorem m46 {M : Int} {v0 v1 : Value} {w : World} (hM : Fs (M : Rat)) (h0 : Is (num M) v0 w) (h1 : Is (num 1) v1 w) : Calls Tryz.prog 46 #[v0, v1] w (Ret (.k (tup2 (.k (fr (M : Rat).num (((M : Rat).den : Nat) : Int))) (.val (.int .i64 0)))) w) :=
 c46b (n := M) (d := 1) (g := 1) (N := M) (D := 1) (by decide) (by decide) (by simp) (by decide) (by decide) ⟨by omega, by omega, by omega⟩ ⟨by decide, by decide, by decide⟩ hM.true h0 h1
set_option maxRecDepth 100000 in
set_option maxHeartbeats 4000000 in
theorem floors_yes {a : Rat} {na0 nb0 : Bool} {Za0 Zb0 : List Int} {v0 : Value} {M N er k : Int} {w : World} (us : true = true ↔ Us na0 Za0 nb0 Zb0) (rl0 : RawL Za0 Zb0) (k0 : Is (frw na0 Za0 nb0 Zb0) v0 w) (ha : Fz 40 a) (h0 : Is (frq a) v0 w) (h51 : ∀ v W, Is (frq a) v W → Calls Tryz.prog 51 #[v] W (Ret (.k (tup2 (.k (num M)) (.val (.int .i64 0)))) W)) (h52 : ∀ v W, Is (frq a) v W → Calls Tryz.prog 52 #[v] W (Ret (.k (tup2 (.k (num N)) (.val (.int .i64 0)))) W)) (h39 : ∀ v W, Is (frq a) v W → Calls Tryz.prog 39 #[v] W (Ret (.k (tup2 (.k (frq (-a))) (.val (.int .i64 0)))) W)) (h51m : ∀ v W, Is (frq (-a)) v W → Calls Tryz.prog 51 #[v] W (Ret (.k (tup2 (.k (num (-N))) (.val (.int .i64 0)))) W)) (h46m : ∀ v u W, Is (num M) v W → Is (num 1) u W → Calls Tryz.prog 46 #[v, u] W (Ret (.k (tup2 (.k (frq (M : Rat))) (.val (.int .i64 0)))) W)) (h46n : ∀ v u W, Is (num N) v W → Is (num 1) u W → Calls Tryz.prog 46 #[v, u] W (Ret (.k (tup2 (.k (frq (N : Rat))) (.val (.int .i64 0)))) W)) (h53n : ∀ v u W, Is (num M) v W → Is (num 1) u W → Calls Tryz.prog 53 #[v, u] W (Ret (.k (tup2 (.k (num (M + 1))) (.val (.int .i64 0)))) W)) (h53s : ∀ v u W, Is (num N) v W → Is (num (-N)) u W → Calls Tryz.prog 53 #[v, u] W (Ret (.k (tup2 (.k (num 0)) (.val (.int .i64 0)))) W)) (hcm : cmpQ (M : Rat) a ≤ 0) (hcn : 0 ≤ cmpQ (N : Rat) a) (h41 : ∀ v W, Is (frq a) v W → Calls Tryz.prog 41 #[v] W (Ret (.k (tup2 (.val (.int .i64 k)) (.val (.int .i64 er)))) W)) (h35 : ∀ v u W, Is (frq (M : Rat)) v W → Is (frq a) u W → Calls Tryz.prog 35 #[v, u] W (Ret (.val (.int .i64 (cmpQ (M : Rat) a))) W)) (h35n : ∀ v u W, Is (frq (N : Rat)) v W → Is (frq a) u W → Calls Tryz.prog 35 #[v, u] W (Ret (.val (.int .i64 (cmpQ (N : Rat) a))) W)) (hw : cmpQ (M : Rat) a = 0 → M = N ∧ er ≠ 22) (hn : cmpQ (M : Rat) a ≠ 0 → M + 1 = N ∧ er = 22 ∧ 0 < cmpQ (N : Rat) a) (hk : cmpQ (M : Rat) a = 0 → er = 0 → ∀ W, Calls Tryz.prog 33 #[.int .i64 k] W (Ret (.k (frq a)) W)) : Calls Tryz.prog 11 #[v0] w (Ret (.val (.bool true)) w) := by
 obtain ⟨ya0, yp0, yl0, yd0, ye0, yq0, ym0, yr0, rfl, yg0, yk0⟩ := id h0
 replace yg0 : Is (num a.num) (.agg #[.bool ya0, .slice yp0 yl0 yd0]) w := yg0
 replace yk0 : Is (num ((a.den : Nat) : Int)) (.agg #[.bool ye0, .slice yq0 ym0 yr0]) w := yk0
 have HUS := Lib.hid us
 have HRL0 := Lib.hid rl0
 have HA := Lib.hid ha
 have H51 := Lib.hid h51
 have H52 := Lib.hid h52
 have H39 := Lib.hid h39
 have H51M := Lib.hid h51m
 have H46M := Lib.hid h46m
 have H46N := Lib.hid h46n
 have H53N := Lib.hid h53n
 have H53S := Lib.hid h53s
 have HCM := Lib.hid hcm
 have HCN := Lib.hid hcn
 have H41 := Lib.hid h41
 have H35 := Lib.hid h35
 have H35N := Lib.hid h35n
 have HW := Lib.hid hw
 have HN := Lib.hid hn
 have HK := Lib.hid hk
 clear us rl0 ha h51 h52 h39 h51m h46m h46n h53n h53s hcm hcn h41 h35 h35n hw hn hk
 have hB0 := Below.refl w.heap.size w
 go_enter Tryz.func11, Tryz.ntmps11
 go_upto_region 0 with fail
 refine rg (n := 9) (t16 := 48) w.heap.size [] [.any, .val (.bool false)] [(0, 1), (1, 2)] [⟨26, some 0, 0, pt, 4, [.c #[.bool ya0, .slice yp0 yl0 yd0, .bool ye0, .slice yq0 ym0 yr0]], []⟩] ?ok1 ?st1 ?al1 ?pu1 ?en1
 case ok1 => exact BxOK.fresh rfl hB0.size
 case st1 =>
  intro zi zo ho hro a' u lc W hM
  match zi, ho, hro with
  | 0, _, hro => exact nr1 hro (by kernel_rfl)
  | 1, ho, _ => cases ho; exact wn (kAssign rfl rfl)
  | zk + 2, ho, _ => simp at ho
 case al1 =>
  intro zk zb zi zo hk ha ho a' u lc W hM
  match zk, hk with
  | 0, hk => cases hk; cases ha; cases ho; exact ⟨rfl, rfl, rfl, rfl, kBox rfl (hM.ol 0)⟩
  | zk + 1, hk => simp at hk
 case pu1 =>
  intro zk zb zs zo hk hs ho a' u lc W zc hM hc hcs
  match zk, hk with
  | 0, hk => cases hk; simp at hs
  | zk + 1, hk => simp at hk
 case en1 =>
  intro u1 lc1 W1 hK1 hB1 hO1 hV1 hX1 hA1
  obtain ⟨qr, ho, hl⟩ := hX1 0 _ rfl
  have e1_0 : u1 0 = .pointer (some ⟨lc1 0, 0, none⟩) := (hl 0 rfl).1
  have g1_0 := (hl 0 rfl).2
  have f1_0 := h0.kept hK1
  have f1_3 := k0.kept hK1
  have q1_0 : W1.heap[(lc1 0)]? = some (.cells #[.bool ya0, .slice yp0 yl0 yd0, .bool ye0, .slice yq0 ym0 yr0] 26) := by
   exact qr
  simp only [putK, fC, fN, kZ, kS, vV, vA, sI, sZ, sS, e1_0]
  have hBt1 := hB0.trans hB1
  clear hV1 hX1 hA1
  go_upto_region 1 with fail
  refine rg0 (n := 9) (t16 := 48) w.heap.size [.val (.bool true), .val (.bool false)] [(0, 23), (1, 24)] hBt1.size ?st2 ?en2
  case st2 =>
   intro zi zo ho hro a' u lc W hM
   match zi, ho, hro with
   | 0, ho, _ => cases ho; exact wn (kCall0 rfl may16 (c16))
   | 1, ho, _ => cases ho; exact wn (kNot rfl (hM.d 0 23 rfl) rfl)
   | zk + 2, ho, _ => simp at ho
  case en2 =>
   intro u2 lc2 W2 hK2 hB2 hO2 hV2 hX2 hA2
   have q2_1_0 := oth0 hO2 q1_0
   have f2_0 := f1_0.kept hK2
   have f2_3 := f1_3.kept hK2
   simp only [putK, fC, fN, kZ, kS, vV, sI, sZ, sS]
   have hBt2 := hBt1.trans hB2
   clear hV2 hX2 hA2
   go_upto_region 3 with fail
   refine rg (n := 9) (t16 := 48) w.heap.size [] [.val (.agg #[.bool ya0, .slice yp0 yl0 yd0, .bool ye0, .slice yq0 ym0 yr0]), .any, .val (.bool true), .val (.bool false)] [(0, 25), (1, 26), (2, 27), (3, 28)] [⟨26, some 1, 0, fun B => .slice (some ⟨B, 0, none⟩) 1 1, 4, [.c #[.bool ya0, .slice yp0 yl0 yd0, .bool ye0, .slice yq0 ym0 yr0]], []⟩] ?ok3 ?st3 ?al3 ?pu3 ?en3
   case ok3 => exact BxOK.fresh rfl hBt2.size
   case st3 =>
    intro zi zo ho hro a' u lc W hM
    match zi, ho, hro with
    | 0, ho, _ => cases ho; exact wn (kL26 rfl (hM.ol 1) (hM.o0 q2_1_0))
    | 1, _, hro => exact nr1 hro (by kernel_rfl)
    | 2, ho, _ => cases ho; exact wn (kCall1 rfl may31 ((hM.v 1 26 rfl).trans (hM.loc 0 _ 1 rfl rfl (by kernel_rfl))) (usable1 (hM.full 0 _ rfl (by kernel_rfl) rfl) (f2_3.kept hM.kept) HRL0.out HUS.out))
    | 3, ho, _ => cases ho; exact wn (kNot rfl (hM.d 2 27 rfl) rfl)
    | zk + 4, ho, _ => simp at ho
   case al3 =>
    intro zk zb zi zo hk ha ho a' u lc W hM
    match zk, hk with
    | 0, hk => cases hk; cases ha; cases ho; exact ⟨rfl, rfl, rfl, rfl, kSlice1 rfl (hM.d 0 25 rfl)⟩
    | zk + 1, hk => simp at hk
   case pu3 =>
    intro zk zb zs zo hk hs ho a' u lc W zc hM hc hcs
    match zk, hk with
    | 0, hk => cases hk; simp at hs
    | zk + 1, hk => simp at hk
   case en3 =>
    intro u3 lc3 W3 hK3 hB3 hO3 hV3 hX3 hA3
    obtain ⟨qr, ho, hl⟩ := hX3 0 _ rfl
    have e3_1 : u3 1 = .slice (some ⟨lc3 0, 0, none⟩) 1 1 := (hl 1 rfl).1
    have g3_0 := (hl 1 rfl).2
    have f3_0 := f2_0.kept hK3
    have q3_1_0 := oth0 hO3 q2_1_0
    simp only [putK, fC, fN, kZ, kS, vV, vA, sI, sZ, sS, e3_1]
    have hBt3 := hBt2.trans hB3
    clear hV3 hX3 hA3
    go_upto_region 5 with fail
    refine rg (n := 9) (t16 := 48) w.heap.size [] [.k (num 1), .any, .any] [(0, 29), (1, 3)] [⟨24, some 1, 0, pt, 2, [.c #[.bool false, .slice none 0 0]], [(2, 0, 0)]⟩] ?ok4 ?st4 ?al4 ?pu4 ?en4
    case ok4 => exact BxOK.fresh rfl hBt3.size
    case st4 =>
     intro zi zo ho hro a' u lc W hM
     match zi, ho, hro with
     | 0, ho, _ => cases ho; exact wn (kCall1 rfl may48 rfl (c48 (by decide) (by decide)))
     | 1, _, hro => exact nr1 hro (by kernel_rfl)
     | 2, _, hro => exact nr1 hro (by kernel_rfl)
     | zk + 3, ho, _ => simp at ho
    case al4 =>
     intro zk zb zi zo hk ha ho a' u lc W hM
     match zk, hk with
     | 0, hk => cases hk; cases ha; cases ho; exact ⟨rfl, rfl, rfl, rfl, kAlloc24 rfl⟩
     | zk + 1, hk => simp at hk
    case pu4 =>
     intro zk zb zs zo hk hs ho a' u lc W zc hM hc hcs
     match zk, hk with
     | 0, hk =>
      cases hk
      simp only [List.mem_cons, List.not_mem_nil, or_false] at hs
      rcases hs with rfl
      · cases ho
        obtain ⟨sb, sp, sl, sc, e⟩ := (show Is (num 1) (u 0) W from (hM.kd 0)).form
        refine ⟨rfl, rfl, ?_, ?_, kStore ?_ rfl ((hM.v 1 3 rfl).trans (hM.loc 0 _ 1 rfl rfl (by kernel_rfl))) (hM.v 0 29 rfl) hc ?_ ?_⟩ <;> rw [e]
        · exact Nat.le_of_ble_eq_true rfl
        · rfl
        · exact sz24
        · rw [hcs]; exact Nat.le_of_ble_eq_true rfl
        · rfl
     | zk + 1, hk => simp at hk
    case en4 =>
     intro u4 lc4 W4 hK4 hB4 hO4 hV4 hX4 hA4
     have k4_0 := kk (hV4 0 29 rfl) rfl
     obtain ⟨qr, ho, hl⟩ := hX4 0 _ rfl
     have e4_1 : u4 1 = .pointer (some ⟨lc4 0, 0, none⟩) := (hl 1 rfl).1
     have g4_0 := (hl 1 rfl).2
     obtain ⟨x4_2, y4_2, z4_2, c4_2, es4_2⟩ := k4_0.form
     have sk4_2 : Is (num 1) (.agg #[.bool x4_2, .slice y4_2 z4_2 c4_2]) W4 := by rw [← es4_2]; exact k4_0
     have q4_0 : W4.heap[(lc4 0)]? = some (.cells #[.bool x4_2, .slice y4_2 z4_2 c4_2] 24) := by
      rw [contAll_one rfl (cs := #[.bool x4_2, .slice y4_2 z4_2 c4_2]) (by rw [es4_2]; rfl) rfl] at qr; exact qr
     have q4_1_0 := oth0 hO4 q3_1_0
     have f4_0 := f3_0.kept hK4
     simp only [putK, fC, fN, kZ, kS, vA, vK, sI, sZ, sS, e4_1]
     have hBt4 := hBt3.trans hB4
     clear hV4 hX4 hA4
     go_upto_region 6 with fail
     refine rg (n := 9) (t16 := 48) w.heap.size [] [.val (.agg #[.bool ya0, .slice yp0 yl0 yd0, .bool ye0, .slice yq0 ym0 yr0]), .k (tup2 (.k (num M)) (.val (.int .i64 0))), .k (tup2 (.k (num M)) (.val (.int .i64 0))), .k (num M), .val (.int .i64 0), .any, .any, .val (.int .i64 0)] [(0, 31), (1, 32), (2, 30), (3, 33), (4, 34), (5, 4), (7, 5)] [⟨24, some 5, 0, pt, 2, [.c #[.bool false, .slice none 0 0]], [(6, 0, 3)]⟩] ?ok5 ?st5 ?al5 ?pu5 ?en5
     case ok5 => exact BxOK.fresh rfl hBt4.size
     case st5 =>
      intro zi zo ho hro a' u lc W hM
      match zi, ho, hro with
      | 0, ho, _ => cases ho; exact wn (kL26 rfl (hM.ol 1) (hM.o0 q4_1_0))
      | 1, ho, _ => cases ho; exact wn (kCall1 rfl may51 (hM.d 0 31 rfl) (H51.out _ _ (f4_0.kept hM.kept)))
      | 2, ho, _ => cases ho; exact wn (kMove rfl (hM.d 1 32 rfl))
      | 3, ho, _ => cases ho; exact wn (kEx20 rfl (hM.d 2 30 rfl))
      | 4, ho, _ => cases ho; exact wn (kEx21 rfl (hM.d 2 30 rfl))
      | 5, _, hro => exact nr1 hro (by kernel_rfl)
      | 6, _, hro => exact nr1 hro (by kernel_rfl)
      | 7, ho, _ => cases ho; exact wn (kAssign rfl (hM.d 4 34 rfl))
      | zk + 8, ho, _ => simp at ho
     case al5 =>
      intro zk zb zi zo hk ha ho a' u lc W hM
      match zk, hk with
      | 0, hk => cases hk; cases ha; cases ho; exact ⟨rfl, rfl, rfl, rfl, kAlloc24 rfl⟩
      | zk + 1, hk => simp at hk
     case pu5 =>
      intro zk zb zs zo hk hs ho a' u lc W zc hM hc hcs
      match zk, hk with
      | 0, hk =>
       cases hk
       simp only [List.mem_cons, List.not_mem_nil, or_false] at hs
       rcases hs with rfl
       · cases ho
         obtain ⟨sb, sp, sl, sc, e⟩ := (show Is (num M) (u 3) W from (hM.kd 3)).form
         refine ⟨rfl, rfl, ?_, ?_, kStore ?_ rfl ((hM.v 5 4 rfl).trans (hM.loc 0 _ 5 rfl rfl (by kernel_rfl))) (hM.v 3 33 rfl) hc ?_ ?_⟩ <;> rw [e]
         · exact Nat.le_of_ble_eq_true rfl
         · rfl
         · exact sz24
         · rw [hcs]; exact Nat.le_of_ble_eq_true rfl
         · rfl
      | zk + 1, hk => simp at hk
     case en5 =>
      intro u5 lc5 W5 hK5 hB5 hO5 hV5 hX5 hA5
      have k5_3 := kk (hV5 3 33 rfl) rfl
      obtain ⟨qr, ho, hl⟩ := hX5 0 _ rfl
      have e5_5 : u5 5 = .pointer (some ⟨lc5 0, 0, none⟩) := (hl 5 rfl).1
      have g5_0 := (hl 5 rfl).2
      obtain ⟨x5_6, y5_6, z5_6, c5_6, es5_6⟩ := k5_3.form
      have sk5_6 : Is (num M) (.agg #[.bool x5_6, .slice y5_6 z5_6 c5_6]) W5 := by rw [← es5_6]; exact k5_3
      have q5_0 : W5.heap[(lc5 0)]? = some (.cells #[.bool x5_6, .slice y5_6 z5_6 c5_6] 24) := by
       rw [contAll_one rfl (cs := #[.bool x5_6, .slice y5_6 z5_6 c5_6]) (by rw [es5_6]; rfl) rfl] at qr; exact qr
      have q5_1_0 := oth0 hO5 q4_1_0
      have f5_0 := f4_0.kept hK5
      have q5_4_0 := oth0 hO5 q4_0
      have f5_4 := sk4_2.kept hK5
      simp only [putK, fC, fN, kZ, kS, vV, vA, vK, sI, sZ, sS, e5_5]
      have hBt5 := hBt4.trans hB5
      clear hV5 hX5 hA5
      go_upto_region 7 with fail
      refine rg (n := 9) (t16 := 48) w.heap.size [] [.val (.agg #[.bool ya0, .slice yp0 yl0 yd0, .bool ye0, .slice yq0 ym0 yr0]), .k (tup2 (.k (num N)) (.val (.int .i64 0))), .k (tup2 (.k (num N)) (.val (.int .i64 0))), .k (num N), .val (.int .i64 0), .any, .any, .val (.int .i64 0)] [(0, 36), (1, 37), (2, 35), (3, 38), (4, 39), (5, 6), (7, 7)] [⟨24, some 5, 0, pt, 2, [.c #[.bool false, .slice none 0 0]], [(6, 0, 3)]⟩] ?ok6 ?st6 ?al6 ?pu6 ?en6
      case ok6 => exact BxOK.fresh rfl hBt5.size
      case st6 =>
       intro zi zo ho hro a' u lc W hM
       match zi, ho, hro with
       | 0, ho, _ => cases ho; exact wn (kL26 rfl (hM.ol 1) (hM.o0 q5_1_0))
       | 1, ho, _ => cases ho; exact wn (kCall1 rfl may52 (hM.d 0 36 rfl) (H52.out _ _ (f5_0.kept hM.kept)))
       | 2, ho, _ => cases ho; exact wn (kMove rfl (hM.d 1 37 rfl))
       | 3, ho, _ => cases ho; exact wn (kEx20 rfl (hM.d 2 35 rfl))
       | 4, ho, _ => cases ho; exact wn (kEx21 rfl (hM.d 2 35 rfl))
       | 5, _, hro => exact nr1 hro (by kernel_rfl)
       | 6, _, hro => exact nr1 hro (by kernel_rfl)
       | 7, ho, _ => cases ho; exact wn (kAssign rfl (hM.d 4 39 rfl))
       | zk + 8, ho, _ => simp at ho
      case al6 =>
       intro zk zb zi zo hk ha ho a' u lc W hM
       match zk, hk with
       | 0, hk => cases hk; cases ha; cases ho; exact ⟨rfl, rfl, rfl, rfl, kAlloc24 rfl⟩
       | zk + 1, hk => simp at hk
      case pu6 =>
       intro zk zb zs zo hk hs ho a' u lc W zc hM hc hcs
       match zk, hk with
       | 0, hk =>
        cases hk
        simp only [List.mem_cons, List.not_mem_nil, or_false] at hs
        rcases hs with rfl
        · cases ho
          obtain ⟨sb, sp, sl, sc, e⟩ := (show Is (num N) (u 3) W from (hM.kd 3)).form
          refine ⟨rfl, rfl, ?_, ?_, kStore ?_ rfl ((hM.v 5 6 rfl).trans (hM.loc 0 _ 5 rfl rfl (by kernel_rfl))) (hM.v 3 38 rfl) hc ?_ ?_⟩ <;> rw [e]
          · exact Nat.le_of_ble_eq_true rfl
          · rfl
          · exact sz24
          · rw [hcs]; exact Nat.le_of_ble_eq_true rfl
          · rfl
       | zk + 1, hk => simp at hk
      case en6 =>
       intro u6 lc6 W6 hK6 hB6 hO6 hV6 hX6 hA6
       have k6_3 := kk (hV6 3 38 rfl) rfl
       obtain ⟨qr, ho, hl⟩ := hX6 0 _ rfl
       have e6_5 : u6 5 = .pointer (some ⟨lc6 0, 0, none⟩) := (hl 5 rfl).1
       have g6_0 := (hl 5 rfl).2
       obtain ⟨x6_6, y6_6, z6_6, c6_6, es6_6⟩ := k6_3.form
       have sk6_6 : Is (num N) (.agg #[.bool x6_6, .slice y6_6 z6_6 c6_6]) W6 := by rw [← es6_6]; exact k6_3
       have q6_0 : W6.heap[(lc6 0)]? = some (.cells #[.bool x6_6, .slice y6_6 z6_6 c6_6] 24) := by
        rw [contAll_one rfl (cs := #[.bool x6_6, .slice y6_6 z6_6 c6_6]) (by rw [es6_6]; rfl) rfl] at qr; exact qr
       have q6_1_0 := oth0 hO6 q5_1_0
       have f6_0 := f5_0.kept hK6
       have q6_4_0 := oth0 hO6 q5_4_0
       have f6_4 := f5_4.kept hK6
       have q6_5_0 := oth0 hO6 q5_0
       have f6_5 := sk5_6.kept hK6
       simp only [putK, fC, fN, kZ, kS, vV, vA, vK, sI, sZ, sS, e6_5]
       have hBt6 := hBt5.trans hB6
       clear hV6 hX6 hA6
       go_upto_region 8 with fail
       refine rg (n := 9) (t16 := 48) w.heap.size [] [.val (.agg #[.bool ya0, .slice yp0 yl0 yd0, .bool ye0, .slice yq0 ym0 yr0]), .k (tup2 (.k (frq (-a))) (.val (.int .i64 0))), .k (tup2 (.k (frq (-a))) (.val (.int .i64 0))), .k (frq (-a)), .val (.int .i64 0), .any, .any, .val (.int .i64 0)] [(0, 41), (1, 42), (2, 40), (3, 43), (4, 44), (5, 8), (7, 9)] [⟨26, some 5, 0, pt, 4, [.c #[.bool false, .slice none 0 0, .bool false, .slice none 0 0]], [(6, 0, 3)]⟩] ?ok7 ?st7 ?al7 ?pu7 ?en7
       case ok7 => exact BxOK.fresh rfl hBt6.size
       case st7 =>
        intro zi zo ho hro a' u lc W hM
        match zi, ho, hro with
        | 0, ho, _ => cases ho; exact wn (kL26 rfl (hM.ol 1) (hM.o0 q6_1_0))
        | 1, ho, _ => cases ho; exact wn (kCall1 rfl may39 (hM.d 0 41 rfl) (H39.out _ _ (f6_0.kept hM.kept)))
        | 2, ho, _ => cases ho; exact wn (kMove rfl (hM.d 1 42 rfl))
        | 3, ho, _ => cases ho; exact wn (kEx20 rfl (hM.d 2 40 rfl))
        | 4, ho, _ => cases ho; exact wn (kEx21 rfl (hM.d 2 40 rfl))
        | 5, _, hro => exact nr1 hro (by kernel_rfl)
        | 6, _, hro => exact nr1 hro (by kernel_rfl)
        | 7, ho, _ => cases ho; exact wn (kAssign rfl (hM.d 4 44 rfl))
        | zk + 8, ho, _ => simp at ho
       case al7 =>
        intro zk zb zi zo hk ha ho a' u lc W hM
        match zk, hk with
        | 0, hk => cases hk; cases ha; cases ho; exact ⟨rfl, rfl, rfl, rfl, kAlloc26 rfl⟩
        | zk + 1, hk => simp at hk
       case pu7 =>
        intro zk zb zs zo hk hs ho a' u lc W zc hM hc hcs
        match zk, hk with
        | 0, hk =>
         cases hk
         simp only [List.mem_cons, List.not_mem_nil, or_false] at hs
         rcases hs with rfl
         · cases ho
           obtain ⟨sb, sp, sl, sc, sb2, sp2, sl2, sc2, e, _⟩ := (show Is (frq (-a)) (u 3) W from (hM.kd 3))
           refine ⟨rfl, rfl, ?_, ?_, kStore ?_ rfl ((hM.v 5 8 rfl).trans (hM.loc 0 _ 5 rfl rfl (by kernel_rfl))) (hM.v 3 43 rfl) hc ?_ ?_⟩ <;> rw [e]
           · exact Nat.le_of_ble_eq_true rfl
           · rfl
           · exact sz26
           · rw [hcs]; exact Nat.le_of_ble_eq_true rfl
           · rfl
        | zk + 1, hk => simp at hk
       case en7 =>
        intro u7 lc7 W7 hK7 hB7 hO7 hV7 hX7 hA7
        have k7_3 := kk (hV7 3 43 rfl) rfl
        obtain ⟨qr, ho, hl⟩ := hX7 0 _ rfl
        have e7_5 : u7 5 = .pointer (some ⟨lc7 0, 0, none⟩) := (hl 5 rfl).1
        have g7_0 := (hl 5 rfl).2
        obtain ⟨x7_6, y7_6, z7_6, c7_6, x27_6, y27_6, z27_6, c27_6, es7_6, sa7_6, sb7_6⟩ := id k7_3
        have sk7_6 : Is (frq (-a)) (.agg #[.bool x7_6, .slice y7_6 z7_6 c7_6, .bool x27_6, .slice y27_6 z27_6 c27_6]) W7 := by rw [← es7_6]; exact k7_3
        have q7_0 : W7.heap[(lc7 0)]? = some (.cells #[.bool x7_6, .slice y7_6 z7_6 c7_6, .bool x27_6, .slice y27_6 z27_6 c27_6] 26) := by
         rw [contAll_one rfl (cs := #[.bool x7_6, .slice y7_6 z7_6 c7_6, .bool x27_6, .slice y27_6 z27_6 c27_6]) (by rw [es7_6]; rfl) rfl] at qr; exact qr
        have q7_1_0 := oth0 hO7 q6_1_0
        have f7_0 := f6_0.kept hK7
        have q7_4_0 := oth0 hO7 q6_4_0
        have f7_4 := f6_4.kept hK7
        have q7_5_0 := oth0 hO7 q6_5_0
        have f7_5 := f6_5.kept hK7
        have q7_6_0 := oth0 hO7 q6_0
        have f7_6 := sk6_6.kept hK7
        simp only [putK, fC, fN, kZ, kS, vV, vA, vK, sI, sZ, sS, e7_5]
        have hBt7 := hBt6.trans hB7
        clear hV7 hX7 hA7
        go_upto_region 9 with fail
        refine rg (n := 9) (t16 := 48) w.heap.size [] [.val (.agg #[.bool x7_6, .slice y7_6 z7_6 c7_6, .bool x27_6, .slice y27_6 z27_6 c27_6]), .k (tup2 (.k (num (-N))) (.val (.int .i64 0))), .k (tup2 (.k (num (-N))) (.val (.int .i64 0))), .k (num (-N)), .val (.int .i64 0), .any, .any, .val (.int .i64 0)] [(0, 46), (1, 47), (2, 45), (3, 48), (4, 49), (5, 10), (7, 11)] [⟨24, some 5, 0, pt, 2, [.c #[.bool false, .slice none 0 0]], [(6, 0, 3)]⟩] ?ok8 ?st8 ?al8 ?pu8 ?en8
        case ok8 => exact BxOK.fresh rfl hBt7.size
        case st8 =>
         intro zi zo ho hro a' u lc W hM
         match zi, ho, hro with
         | 0, ho, _ => cases ho; exact wn (kL26 rfl (hM.ol 8) (hM.o0 q7_0))
         | 1, ho, _ => cases ho; exact wn (kCall1 rfl may51 (hM.d 0 46 rfl) (H51M.out _ _ (sk7_6.kept hM.kept)))
         | 2, ho, _ => cases ho; exact wn (kMove rfl (hM.d 1 47 rfl))
         | 3, ho, _ => cases ho; exact wn (kEx20 rfl (hM.d 2 45 rfl))
         | 4, ho, _ => cases ho; exact wn (kEx21 rfl (hM.d 2 45 rfl))
         | 5, _, hro => exact nr1 hro (by kernel_rfl)
         | 6, _, hro => exact nr1 hro (by kernel_rfl)
         | 7, ho, _ => cases ho; exact wn (kAssign rfl (hM.d 4 49 rfl))
         | zk + 8, ho, _ => simp at ho
        case al8 =>
         intro zk zb zi zo hk ha ho a' u lc W hM
         match zk, hk with
         | 0, hk => cases hk; cases ha; cases ho; exact ⟨rfl, rfl, rfl, rfl, kAlloc24 rfl⟩
         | zk + 1, hk => simp at hk
        case pu8 =>
         intro zk zb zs zo hk hs ho a' u lc W zc hM hc hcs
         match zk, hk with
         | 0, hk =>
          cases hk
          simp only [List.mem_cons, List.not_mem_nil, or_false] at hs
          rcases hs with rfl
          · cases ho
            obtain ⟨sb, sp, sl, sc, e⟩ := (show Is (num (-N)) (u 3) W from (hM.kd 3)).form
            refine ⟨rfl, rfl, ?_, ?_, kStore ?_ rfl ((hM.v 5 10 rfl).trans (hM.loc 0 _ 5 rfl rfl (by kernel_rfl))) (hM.v 3 48 rfl) hc ?_ ?_⟩ <;> rw [e]
            · exact Nat.le_of_ble_eq_true rfl
            · rfl
            · exact sz24
            · rw [hcs]; exact Nat.le_of_ble_eq_true rfl
            · rfl
         | zk + 1, hk => simp at hk
        case en8 =>
         intro u8 lc8 W8 hK8 hB8 hO8 hV8 hX8 hA8
         have k8_3 := kk (hV8 3 48 rfl) rfl
         obtain ⟨qr, ho, hl⟩ := hX8 0 _ rfl
         have e8_5 : u8 5 = .pointer (some ⟨lc8 0, 0, none⟩) := (hl 5 rfl).1
         have g8_0 := (hl 5 rfl).2
         obtain ⟨x8_6, y8_6, z8_6, c8_6, es8_6⟩ := k8_3.form
         have sk8_6 : Is (num (-N)) (.agg #[.bool x8_6, .slice y8_6 z8_6 c8_6]) W8 := by rw [← es8_6]; exact k8_3
         have q8_0 : W8.heap[(lc8 0)]? = some (.cells #[.bool x8_6, .slice y8_6 z8_6 c8_6] 24) := by
          rw [contAll_one rfl (cs := #[.bool x8_6, .slice y8_6 z8_6 c8_6]) (by rw [es8_6]; rfl) rfl] at qr; exact qr
         have q8_1_0 := oth0 hO8 q7_1_0
         have f8_0 := f7_0.kept hK8
         have q8_4_0 := oth0 hO8 q7_4_0
         have f8_4 := f7_4.kept hK8
         have q8_5_0 := oth0 hO8 q7_5_0
         have f8_5 := f7_5.kept hK8
         have q8_6_0 := oth0 hO8 q7_6_0
         have f8_6 := f7_6.kept hK8
         simp only [putK, fC, fN, kZ, kS, vV, vA, vK, sI, sZ, sS, e8_5]
         have hBt8 := hBt7.trans hB8
         clear hV8 hX8 hA8
         go_upto_region 10 with fail
         refine rg0 (n := 9) (t16 := 48) w.heap.size [.val (.int .i64 0), .val (.bool false), .val (.bool false), .val (.int .i64 0), .val (.bool false), .val (.bool false), .val (.bool false), .val (.int .i64 0), .val (.bool false), .val (.bool false), .val (.bool false), .val (.int .i64 0), .val (.bool false), .val (.bool false)] [(0, 50), (1, 51), (2, 52), (3, 53), (4, 54), (5, 55), (6, 56), (7, 57), (8, 58), (9, 59), (10, 60), (11, 61), (12, 62), (13, 63)] hBt8.size ?st9 ?en9
         case st9 =>
          intro zi zo ho hro a' u lc W hM
          match zi, ho, hro with
          | 0, ho, _ => cases ho; exact wn (kMove rfl (hM.ol 5))
          | 1, ho, _ => cases ho; exact wn (kNeq29 rfl (hM.d 0 50 rfl) rfl (by decide))
          | 2, ho, _ => cases ho; exact wn (kMove rfl (hM.d 1 51 rfl))
          | 3, ho, _ => cases ho; exact hM.wg (hM.d 2 52 rfl) (kMove rfl (hM.ol 7))
          | 4, ho, _ => cases ho; exact hM.wg (hM.d 2 52 rfl) (kNeq29 rfl (hM.d 3 53 rfl) rfl (by decide))
          | 5, ho, _ => cases ho; exact wn (kPick rfl (hM.d 2 52 rfl) (hM.d 4 54 rfl))
          | 6, ho, _ => cases ho; exact wn (kMove rfl (hM.d 5 55 rfl))
          | 7, ho, _ => cases ho; exact hM.wg (hM.d 6 56 rfl) (kMove rfl (hM.ol 9))
          | 8, ho, _ => cases ho; exact hM.wg (hM.d 6 56 rfl) (kNeq29 rfl (hM.d 7 57 rfl) rfl (by decide))
          | 9, ho, _ => cases ho; exact wn (kPick rfl (hM.d 6 56 rfl) (hM.d 8 58 rfl))
          | 10, ho, _ => cases ho; exact wn (kMove rfl (hM.d 9 59 rfl))
          | 11, ho, _ => cases ho; exact hM.wg (hM.d 10 60 rfl) (kMove rfl (hM.ol 11))
          | 12, ho, _ => cases ho; exact hM.wg (hM.d 10 60 rfl) (kNeq29 rfl (hM.d 11 61 rfl) rfl (by decide))
          | 13, ho, _ => cases ho; exact wn (kPick rfl (hM.d 10 60 rfl) (hM.d 12 62 rfl))
          | zk + 14, ho, _ => simp at ho
         case en9 =>
          intro u9 lc9 W9 hK9 hB9 hO9 hV9 hX9 hA9
          have q9_1_0 := oth0 hO9 q8_1_0
          have f9_0 := f8_0.kept hK9
          have q9_4_0 := oth0 hO9 q8_4_0
          have f9_4 := f8_4.kept hK9
          have q9_5_0 := oth0 hO9 q8_5_0
          have f9_5 := f8_5.kept hK9
          have q9_6_0 := oth0 hO9 q8_6_0
          have f9_6 := f8_6.kept hK9
          have q9_8_0 := oth0 hO9 q8_0
          have f9_10 := sk8_6.kept hK9
          simp only [putK, fC, fN, kZ, kS, vV, sI, sZ, sS]
          have hBt9 := hBt8.trans hB9
          clear hV9 hX9 hA9
          go_upto_region 12 with fail
          refine rg (n := 9) (t16 := 48) w.heap.size [] [.val (.agg #[.bool x5_6, .slice y5_6 z5_6 c5_6]), .val (.agg #[.bool x4_2, .slice y4_2 z4_2 c4_2]), .k (tup2 (.k (frq (M : Rat))) (.val (.int .i64 0))), .k (tup2 (.k (frq (M : Rat))) (.val (.int .i64 0))), .k (frq (M : Rat)), .val (.int .i64 0), .any, .any, .val (.int .i64 0)] [(0, 65), (1, 66), (2, 67), (3, 64), (4, 68), (5, 69), (6, 12), (8, 13)] [⟨26, some 6, 0, pt, 4, [.c #[.bool false, .slice none 0 0, .bool false, .slice none 0 0]], [(7, 0, 4)]⟩] ?ok10 ?st10 ?al10 ?pu10 ?en10
          case ok10 => exact BxOK.fresh rfl hBt9.size
          case st10 =>
           intro zi zo ho hro a' u lc W hM
           match zi, ho, hro with
           | 0, ho, _ => cases ho; exact wn (kL24 rfl (hM.ol 4) (hM.o0 q9_5_0) rfl)
           | 1, ho, _ => cases ho; exact wn (kL24 rfl (hM.ol 3) (hM.o0 q9_4_0) rfl)
           | 2, ho, _ => cases ho; exact wn (kCall2 rfl may46 (hM.d 0 65 rfl) (hM.d 1 66 rfl) (H46M.out _ _ _ (f9_5.kept hM.kept) (f9_4.kept hM.kept)))
           | 3, ho, _ => cases ho; exact wn (kMove rfl (hM.d 2 67 rfl))
           | 4, ho, _ => cases ho; exact wn (kEx20 rfl (hM.d 3 64 rfl))
           | 5, ho, _ => cases ho; exact wn (kEx21 rfl (hM.d 3 64 rfl))
           | 6, _, hro => exact nr1 hro (by kernel_rfl)
           | 7, _, hro => exact nr1 hro (by kernel_rfl)
           | 8, ho, _ => cases ho; exact wn (kAssign rfl (hM.d 5 69 rfl))
           | zk + 9, ho, _ => simp at ho
          case al10 =>
           intro zk zb zi zo hk ha ho a' u lc W hM
           match zk, hk with
           | 0, hk => cases hk; cases ha; cases ho; exact ⟨rfl, rfl, rfl, rfl, kAlloc26 rfl⟩
           | zk + 1, hk => simp at hk
          case pu10 =>
           intro zk zb zs zo hk hs ho a' u lc W zc hM hc hcs
           match zk, hk with
           | 0, hk =>
            cases hk
            simp only [List.mem_cons, List.not_mem_nil, or_false] at hs
            rcases hs with rfl
            · cases ho
              obtain ⟨sb, sp, sl, sc, sb2, sp2, sl2, sc2, e, _⟩ := (show Is (frq (M : Rat)) (u 4) W from (hM.kd 4))
              refine ⟨rfl, rfl, ?_, ?_, kStore ?_ rfl ((hM.v 6 12 rfl).trans (hM.loc 0 _ 6 rfl rfl (by kernel_rfl))) (hM.v 4 68 rfl) hc ?_ ?_⟩ <;> rw [e]
              · exact Nat.le_of_ble_eq_true rfl
              · rfl
              · exact sz26
              · rw [hcs]; exact Nat.le_of_ble_eq_true rfl
              · rfl
           | zk + 1, hk => simp at hk
          case en10 =>
           intro u10 lc10 W10 hK10 hB10 hO10 hV10 hX10 hA10
           have k10_4 := kk (hV10 4 68 rfl) rfl
           obtain ⟨qr, ho, hl⟩ := hX10 0 _ rfl
           have e10_6 : u10 6 = .pointer (some ⟨lc10 0, 0, none⟩) := (hl 6 rfl).1
           have g10_0 := (hl 6 rfl).2
           obtain ⟨x10_7, y10_7, z10_7, c10_7, x210_7, y210_7, z210_7, c210_7, es10_7, sa10_7, sb10_7⟩ := id k10_4
           have sk10_7 : Is (frq (M : Rat)) (.agg #[.bool x10_7, .slice y10_7 z10_7 c10_7, .bool x210_7, .slice y210_7 z210_7 c210_7]) W10 := by rw [← es10_7]; exact k10_4
           have q10_0 : W10.heap[(lc10 0)]? = some (.cells #[.bool x10_7, .slice y10_7 z10_7 c10_7, .bool x210_7, .slice y210_7 z210_7 c210_7] 26) := by
            rw [contAll_one rfl (cs := #[.bool x10_7, .slice y10_7 z10_7 c10_7, .bool x210_7, .slice y210_7 z210_7 c210_7]) (by rw [es10_7]; rfl) rfl] at qr; exact qr
           have q10_1_0 := oth0 hO10 q9_1_0
           have f10_0 := f9_0.kept hK10
           have q10_4_0 := oth0 hO10 q9_4_0
           have f10_4 := f9_4.kept hK10
           have q10_5_0 := oth0 hO10 q9_5_0
           have f10_5 := f9_5.kept hK10
           have q10_6_0 := oth0 hO10 q9_6_0
           have f10_6 := f9_6.kept hK10
           have q10_8_0 := oth0 hO10 q9_8_0
           have f10_10 := f9_10.kept hK10
           simp only [putK, fC, fN, kZ, kS, vV, vA, vK, sI, sZ, sS, e10_6]
           have hBt10 := hBt9.trans hB10
           clear hV10 hX10 hA10
           go_upto_region 13 with fail
           refine rg (n := 9) (t16 := 48) w.heap.size [] [.val (.agg #[.bool x6_6, .slice y6_6 z6_6 c6_6]), .val (.agg #[.bool x4_2, .slice y4_2 z4_2 c4_2]), .k (tup2 (.k (frq (N : Rat))) (.val (.int .i64 0))), .k (tup2 (.k (frq (N : Rat))) (.val (.int .i64 0))), .k (frq (N : Rat)), .val (.int .i64 0), .any, .any, .val (.int .i64 0)] [(0, 71), (1, 72), (2, 73), (3, 70), (4, 74), (5, 75), (6, 14), (8, 15)] [⟨26, some 6, 0, pt, 4, [.c #[.bool false, .slice none 0 0, .bool false, .slice none 0 0]], [(7, 0, 4)]⟩] ?ok11 ?st11 ?al11 ?pu11 ?en11
           case ok11 => exact BxOK.fresh rfl hBt10.size
           case st11 =>
            intro zi zo ho hro a' u lc W hM
            match zi, ho, hro with
            | 0, ho, _ => cases ho; exact wn (kL24 rfl (hM.ol 6) (hM.o0 q10_6_0) rfl)
            | 1, ho, _ => cases ho; exact wn (kL24 rfl (hM.ol 3) (hM.o0 q10_4_0) rfl)
            | 2, ho, _ => cases ho; exact wn (kCall2 rfl may46 (hM.d 0 71 rfl) (hM.d 1 72 rfl) (H46N.out _ _ _ (f10_6.kept hM.kept) (f10_4.kept hM.kept)))
            | 3, ho, _ => cases ho; exact wn (kMove rfl (hM.d 2 73 rfl))
            | 4, ho, _ => cases ho; exact wn (kEx20 rfl (hM.d 3 70 rfl))
            | 5, ho, _ => cases ho; exact wn (kEx21 rfl (hM.d 3 70 rfl))
            | 6, _, hro => exact nr1 hro (by kernel_rfl)
            | 7, _, hro => exact nr1 hro (by kernel_rfl)
            | 8, ho, _ => cases ho; exact wn (kAssign rfl (hM.d 5 75 rfl))
            | zk + 9, ho, _ => simp at ho
           case al11 =>
            intro zk zb zi zo hk ha ho a' u lc W hM
            match zk, hk with
            | 0, hk => cases hk; cases ha; cases ho; exact ⟨rfl, rfl, rfl, rfl, kAlloc26 rfl⟩
            | zk + 1, hk => simp at hk
           case pu11 =>
            intro zk zb zs zo hk hs ho a' u lc W zc hM hc hcs
            match zk, hk with
            | 0, hk =>
             cases hk
             simp only [List.mem_cons, List.not_mem_nil, or_false] at hs
             rcases hs with rfl
             · cases ho
               obtain ⟨sb, sp, sl, sc, sb2, sp2, sl2, sc2, e, _⟩ := (show Is (frq (N : Rat)) (u 4) W from (hM.kd 4))
               refine ⟨rfl, rfl, ?_, ?_, kStore ?_ rfl ((hM.v 6 14 rfl).trans (hM.loc 0 _ 6 rfl rfl (by kernel_rfl))) (hM.v 4 74 rfl) hc ?_ ?_⟩ <;> rw [e]
               · exact Nat.le_of_ble_eq_true rfl
               · rfl
               · exact sz26
               · rw [hcs]; exact Nat.le_of_ble_eq_true rfl
               · rfl
            | zk + 1, hk => simp at hk
           case en11 =>
            intro u11 lc11 W11 hK11 hB11 hO11 hV11 hX11 hA11
            have k11_4 := kk (hV11 4 74 rfl) rfl
            obtain ⟨qr, ho, hl⟩ := hX11 0 _ rfl
            have e11_6 : u11 6 = .pointer (some ⟨lc11 0, 0, none⟩) := (hl 6 rfl).1
            have g11_0 := (hl 6 rfl).2
            obtain ⟨x11_7, y11_7, z11_7, c11_7, x211_7, y211_7, z211_7, c211_7, es11_7, sa11_7, sb11_7⟩ := id k11_4
            have sk11_7 : Is (frq (N : Rat)) (.agg #[.bool x11_7, .slice y11_7 z11_7 c11_7, .bool x211_7, .slice y211_7 z211_7 c211_7]) W11 := by rw [← es11_7]; exact k11_4
            have q11_0 : W11.heap[(lc11 0)]? = some (.cells #[.bool x11_7, .slice y11_7 z11_7 c11_7, .bool x211_7, .slice y211_7 z211_7 c211_7] 26) := by
             rw [contAll_one rfl (cs := #[.bool x11_7, .slice y11_7 z11_7 c11_7, .bool x211_7, .slice y211_7 z211_7 c211_7]) (by rw [es11_7]; rfl) rfl] at qr; exact qr
            have q11_1_0 := oth0 hO11 q10_1_0
            have f11_0 := f10_0.kept hK11
            have q11_4_0 := oth0 hO11 q10_4_0
            have f11_4 := f10_4.kept hK11
            have q11_5_0 := oth0 hO11 q10_5_0
            have f11_5 := f10_5.kept hK11
            have q11_6_0 := oth0 hO11 q10_6_0
            have f11_6 := f10_6.kept hK11
            have q11_8_0 := oth0 hO11 q10_8_0
            have f11_10 := f10_10.kept hK11
            have q11_10_0 := oth0 hO11 q10_0
            have f11_11 := sk10_7.kept hK11
            simp only [putK, fC, fN, kZ, kS, vV, vA, vK, sI, sZ, sS, e11_6]
            have hBt11 := hBt10.trans hB11
            clear hV11 hX11 hA11
            go_upto_region 14 with fail
            refine rg (n := 9) (t16 := 48) w.heap.size [] [.val (.agg #[.bool x5_6, .slice y5_6 z5_6 c5_6]), .val (.agg #[.bool x4_2, .slice y4_2 z4_2 c4_2]), .k (tup2 (.k (num (M + 1))) (.val (.int .i64 0))), .k (tup2 (.k (num (M + 1))) (.val (.int .i64 0))), .k (num (M + 1)), .val (.int .i64 0), .any, .any, .val (.int .i64 0)] [(0, 77), (1, 78), (2, 79), (3, 76), (4, 80), (5, 81), (6, 16), (8, 17)] [⟨24, some 6, 0, pt, 2, [.c #[.bool false, .slice none 0 0]], [(7, 0, 4)]⟩] ?ok12 ?st12 ?al12 ?pu12 ?en12
            case ok12 => exact BxOK.fresh rfl hBt11.size
            case st12 =>
             intro zi zo ho hro a' u lc W hM
             match zi, ho, hro with
             | 0, ho, _ => cases ho; exact wn (kL24 rfl (hM.ol 4) (hM.o0 q11_5_0) rfl)
             | 1, ho, _ => cases ho; exact wn (kL24 rfl (hM.ol 3) (hM.o0 q11_4_0) rfl)
             | 2, ho, _ => cases ho; exact wn (kCall2 rfl may53 (hM.d 0 77 rfl) (hM.d 1 78 rfl) (H53N.out _ _ _ (f11_5.kept hM.kept) (f11_4.kept hM.kept)))
             | 3, ho, _ => cases ho; exact wn (kMove rfl (hM.d 2 79 rfl))
             | 4, ho, _ => cases ho; exact wn (kEx20 rfl (hM.d 3 76 rfl))
             | 5, ho, _ => cases ho; exact wn (kEx21 rfl (hM.d 3 76 rfl))
             | 6, _, hro => exact nr1 hro (by kernel_rfl)
             | 7, _, hro => exact nr1 hro (by kernel_rfl)
             | 8, ho, _ => cases ho; exact wn (kAssign rfl (hM.d 5 81 rfl))
             | zk + 9, ho, _ => simp at ho
            case al12 =>
             intro zk zb zi zo hk ha ho a' u lc W hM
             match zk, hk with
             | 0, hk => cases hk; cases ha; cases ho; exact ⟨rfl, rfl, rfl, rfl, kAlloc24 rfl⟩
             | zk + 1, hk => simp at hk
            case pu12 =>
             intro zk zb zs zo hk hs ho a' u lc W zc hM hc hcs
             match zk, hk with
             | 0, hk =>
              cases hk
              simp only [List.mem_cons, List.not_mem_nil, or_false] at hs
              rcases hs with rfl
              · cases ho
                obtain ⟨sb, sp, sl, sc, e⟩ := (show Is (num (M + 1)) (u 4) W from (hM.kd 4)).form
                refine ⟨rfl, rfl, ?_, ?_, kStore ?_ rfl ((hM.v 6 16 rfl).trans (hM.loc 0 _ 6 rfl rfl (by kernel_rfl))) (hM.v 4 80 rfl) hc ?_ ?_⟩ <;> rw [e]
                · exact Nat.le_of_ble_eq_true rfl
                · rfl
                · exact sz24
                · rw [hcs]; exact Nat.le_of_ble_eq_true rfl
                · rfl
             | zk + 1, hk => simp at hk
            case en12 =>
             intro u12 lc12 W12 hK12 hB12 hO12 hV12 hX12 hA12
             have k12_4 := kk (hV12 4 80 rfl) rfl
             obtain ⟨qr, ho, hl⟩ := hX12 0 _ rfl
             have e12_6 : u12 6 = .pointer (some ⟨lc12 0, 0, none⟩) := (hl 6 rfl).1
             have g12_0 := (hl 6 rfl).2
             obtain ⟨x12_7, y12_7, z12_7, c12_7, es12_7⟩ := k12_4.form
             have sk12_7 : Is (num (M + 1)) (.agg #[.bool x12_7, .slice y12_7 z12_7 c12_7]) W12 := by rw [← es12_7]; exact k12_4
             have q12_0 : W12.heap[(lc12 0)]? = some (.cells #[.bool x12_7, .slice y12_7 z12_7 c12_7] 24) := by
              rw [contAll_one rfl (cs := #[.bool x12_7, .slice y12_7 z12_7 c12_7]) (by rw [es12_7]; rfl) rfl] at qr; exact qr
             have q12_1_0 := oth0 hO12 q11_1_0
             have f12_0 := f11_0.kept hK12
             have q12_5_0 := oth0 hO12 q11_5_0
             have f12_5 := f11_5.kept hK12
             have q12_6_0 := oth0 hO12 q11_6_0
             have f12_6 := f11_6.kept hK12
             have q12_8_0 := oth0 hO12 q11_8_0
             have f12_10 := f11_10.kept hK12
             have q12_10_0 := oth0 hO12 q11_10_0
             have f12_11 := f11_11.kept hK12
             have q12_11_0 := oth0 hO12 q11_0
             have f12_14 := sk11_7.kept hK12
             simp only [putK, fC, fN, kZ, kS, vV, vA, vK, sI, sZ, sS, e12_6]
             have hBt12 := hBt11.trans hB12
             clear hV12 hX12 hA12
             go_upto_region 15 with fail
             refine rg (n := 9) (t16 := 48) w.heap.size [] [.val (.agg #[.bool x6_6, .slice y6_6 z6_6 c6_6]), .val (.agg #[.bool x8_6, .slice y8_6 z8_6 c8_6]), .k (tup2 (.k (num 0)) (.val (.int .i64 0))), .k (tup2 (.k (num 0)) (.val (.int .i64 0))), .k (num 0), .val (.int .i64 0), .any, .any, .val (.int .i64 0)] [(0, 83), (1, 84), (2, 85), (3, 82), (4, 86), (5, 87), (6, 18), (8, 19)] [⟨24, some 6, 0, pt, 2, [.c #[.bool false, .slice none 0 0]], [(7, 0, 4)]⟩] ?ok13 ?st13 ?al13 ?pu13 ?en13
             case ok13 => exact BxOK.fresh rfl hBt12.size
             case st13 =>
              intro zi zo ho hro a' u lc W hM
              match zi, ho, hro with
              | 0, ho, _ => cases ho; exact wn (kL24 rfl (hM.ol 6) (hM.o0 q12_6_0) rfl)
              | 1, ho, _ => cases ho; exact wn (kL24 rfl (hM.ol 10) (hM.o0 q12_8_0) rfl)
              | 2, ho, _ => cases ho; exact wn (kCall2 rfl may53 (hM.d 0 83 rfl) (hM.d 1 84 rfl) (H53S.out _ _ _ (f12_6.kept hM.kept) (f12_10.kept hM.kept)))
              | 3, ho, _ => cases ho; exact wn (kMove rfl (hM.d 2 85 rfl))
              | 4, ho, _ => cases ho; exact wn (kEx20 rfl (hM.d 3 82 rfl))
              | 5, ho, _ => cases ho; exact wn (kEx21 rfl (hM.d 3 82 rfl))
              | 6, _, hro => exact nr1 hro (by kernel_rfl)
              | 7, _, hro => exact nr1 hro (by kernel_rfl)
              | 8, ho, _ => cases ho; exact wn (kAssign rfl (hM.d 5 87 rfl))
              | zk + 9, ho, _ => simp at ho
             case al13 =>
              intro zk zb zi zo hk ha ho a' u lc W hM
              match zk, hk with
              | 0, hk => cases hk; cases ha; cases ho; exact ⟨rfl, rfl, rfl, rfl, kAlloc24 rfl⟩
              | zk + 1, hk => simp at hk
             case pu13 =>
              intro zk zb zs zo hk hs ho a' u lc W zc hM hc hcs
              match zk, hk with
              | 0, hk =>
               cases hk
               simp only [List.mem_cons, List.not_mem_nil, or_false] at hs
               rcases hs with rfl
               · cases ho
                 obtain ⟨sb, sp, sl, sc, e⟩ := (show Is (num 0) (u 4) W from (hM.kd 4)).form
                 refine ⟨rfl, rfl, ?_, ?_, kStore ?_ rfl ((hM.v 6 18 rfl).trans (hM.loc 0 _ 6 rfl rfl (by kernel_rfl))) (hM.v 4 86 rfl) hc ?_ ?_⟩ <;> rw [e]
                 · exact Nat.le_of_ble_eq_true rfl
                 · rfl
                 · exact sz24
                 · rw [hcs]; exact Nat.le_of_ble_eq_true rfl
                 · rfl
              | zk + 1, hk => simp at hk
             case en13 =>
              intro u13 lc13 W13 hK13 hB13 hO13 hV13 hX13 hA13
              have k13_4 := kk (hV13 4 86 rfl) rfl
              obtain ⟨qr, ho, hl⟩ := hX13 0 _ rfl
              have e13_6 : u13 6 = .pointer (some ⟨lc13 0, 0, none⟩) := (hl 6 rfl).1
              have g13_0 := (hl 6 rfl).2
              obtain ⟨x13_7, y13_7, z13_7, c13_7, es13_7⟩ := k13_4.form
              have sk13_7 : Is (num 0) (.agg #[.bool x13_7, .slice y13_7 z13_7 c13_7]) W13 := by rw [← es13_7]; exact k13_4
              have q13_0 : W13.heap[(lc13 0)]? = some (.cells #[.bool x13_7, .slice y13_7 z13_7 c13_7] 24) := by
               rw [contAll_one rfl (cs := #[.bool x13_7, .slice y13_7 z13_7 c13_7]) (by rw [es13_7]; rfl) rfl] at qr; exact qr
              have q13_1_0 := oth0 hO13 q12_1_0
              have f13_0 := f12_0.kept hK13
              have q13_5_0 := oth0 hO13 q12_5_0
              have f13_5 := f12_5.kept hK13
              have q13_6_0 := oth0 hO13 q12_6_0
              have f13_6 := f12_6.kept hK13
              have q13_10_0 := oth0 hO13 q12_10_0
              have f13_11 := f12_11.kept hK13
              have q13_11_0 := oth0 hO13 q12_11_0
              have f13_14 := f12_14.kept hK13
              have q13_12_0 := oth0 hO13 q12_0
              have f13_17 := sk12_7.kept hK13
              simp only [putK, fC, fN, kZ, kS, vV, vA, vK, sI, sZ, sS, e13_6]
              have hBt13 := hBt12.trans hB13
              clear hV13 hX13 hA13
              have hln := (num_len sk13_7).2 rfl
              have HLN := Lib.hid hln
              clear hln
              go_upto_region 16 with fail
              refine rg0 (n := 9) (t16 := 48) w.heap.size [.val (.int .i64 0), .val (.bool false), .val (.bool false), .val (.int .i64 0), .val (.bool false), .val (.bool false), .val (.bool false), .val (.int .i64 0), .val (.bool false), .val (.bool false), .val (.bool false), .val (.int .i64 0), .val (.bool false), .val (.bool false), .val (.bool false), .val (.pointer (some ⟨(lc13 0), 1, none⟩)), .val (.slice y13_7 z13_7 c13_7), .val (.int .i64 ((z13_7 : Nat) : Int)), .val (.bool false), .val (.bool false), .val (.bool false), .val (.agg #[.bool x10_7, .slice y10_7 z10_7 c10_7, .bool x210_7, .slice y210_7 z210_7 c210_7]), .val (.agg #[.bool ya0, .slice yp0 yl0 yd0, .bool ye0, .slice yq0 ym0 yr0]), .val (.int .i64 (cmpQ (M : Rat) a)), .val (.bool false), .val (.bool false), .val (.bool false), .val (.agg #[.bool x11_7, .slice y11_7 z11_7 c11_7, .bool x211_7, .slice y211_7 z211_7 c211_7]), .val (.agg #[.bool ya0, .slice yp0 yl0 yd0, .bool ye0, .slice yq0 ym0 yr0]), .val (.int .i64 (cmpQ (N : Rat) a)), .val (.bool false), .val (.bool false)] [(0, 88), (1, 89), (2, 90), (3, 91), (4, 92), (5, 93), (6, 94), (7, 95), (8, 96), (9, 97), (10, 98), (11, 99), (12, 100), (13, 101), (14, 102), (15, 103), (16, 104), (17, 105), (18, 106), (19, 107), (20, 108), (21, 109), (22, 110), (23, 111), (24, 112), (25, 113), (26, 114), (27, 115), (28, 116), (29, 117), (30, 118), (31, 119)] hBt13.size ?st14 ?en14
              case st14 =>
               intro zi zo ho hro a' u lc W hM
               match zi, ho, hro with
               | 0, ho, _ => cases ho; exact wn (kMove rfl (hM.ol 13))
               | 1, ho, _ => cases ho; exact wn (kNeq29 rfl (hM.d 0 88 rfl) rfl (by decide))
               | 2, ho, _ => cases ho; exact wn (kMove rfl (hM.d 1 89 rfl))
               | 3, ho, _ => cases ho; exact hM.wg (hM.d 2 90 rfl) (kMove rfl (hM.ol 15))
               | 4, ho, _ => cases ho; exact hM.wg (hM.d 2 90 rfl) (kNeq29 rfl (hM.d 3 91 rfl) rfl (by decide))
               | 5, ho, _ => cases ho; exact wn (kPick rfl (hM.d 2 90 rfl) (hM.d 4 92 rfl))
               | 6, ho, _ => cases ho; exact wn (kMove rfl (hM.d 5 93 rfl))
               | 7, ho, _ => cases ho; exact hM.wg (hM.d 6 94 rfl) (kMove rfl (hM.ol 17))
               | 8, ho, _ => cases ho; exact hM.wg (hM.d 6 94 rfl) (kNeq29 rfl (hM.d 7 95 rfl) rfl (by decide))
               | 9, ho, _ => cases ho; exact wn (kPick rfl (hM.d 6 94 rfl) (hM.d 8 96 rfl))
               | 10, ho, _ => cases ho; exact wn (kMove rfl (hM.d 9 97 rfl))
               | 11, ho, _ => cases ho; exact hM.wg (hM.d 10 98 rfl) (kMove rfl (hM.ol 19))
               | 12, ho, _ => cases ho; exact hM.wg (hM.d 10 98 rfl) (kNeq29 rfl (hM.d 11 99 rfl) rfl (by decide))
               | 13, ho, _ => cases ho; exact wn (kPick rfl (hM.d 10 98 rfl) (hM.d 12 100 rfl))
               | 14, ho, _ => cases ho; exact wn (kMove rfl (hM.d 13 101 rfl))
               | 15, ho, _ => cases ho; exact hM.wg (hM.d 14 102 rfl) (kField24_1 rfl (hM.ol 18))
               | 16, ho, _ => cases ho; exact hM.wg (hM.d 14 102 rfl) (kLoad1 Tryz.underlying22 rfl rfl (hM.d 15 103 rfl) (hM.o0 q13_0) rfl rfl)
               | 17, ho, _ => cases ho; exact hM.wg (hM.d 14 102 rfl) (kLen rfl (hM.d 16 104 rfl))
               | 18, ho, _ => cases ho; exact hM.wg (hM.d 14 102 rfl) (kGtr3 rfl (hM.d 17 105 rfl) rfl (decide_eq_false (by rw [HLN.out]; decide)))
               | 19, ho, _ => cases ho; exact wn (kPick rfl (hM.d 14 102 rfl) (hM.d 18 106 rfl))
               | 20, ho, _ => cases ho; exact wn (kMove rfl (hM.d 19 107 rfl))
               | 21, ho, _ => cases ho; exact hM.wg (hM.d 20 108 rfl) (kL26 rfl (hM.ol 12) (hM.o0 q13_10_0))
               | 22, ho, _ => cases ho; exact hM.wg (hM.d 20 108 rfl) (kL26 rfl (hM.ol 1) (hM.o0 q13_1_0))
               | 23, ho, _ => cases ho; exact hM.wg (hM.d 20 108 rfl) (kCall2 rfl may35 (hM.d 21 109 rfl) (hM.d 22 110 rfl) (H35.out _ _ _ (f13_11.kept hM.kept) (f13_0.kept hM.kept)))
               | 24, ho, _ => cases ho; exact hM.wg (hM.d 20 108 rfl) (kGtr3 rfl (hM.d 23 111 rfl) rfl (decide_eq_false (by have := HCM.out; omega)))
               | 25, ho, _ => cases ho; exact wn (kPick rfl (hM.d 20 108 rfl) (hM.d 24 112 rfl))
               | 26, ho, _ => cases ho; exact wn (kMove rfl (hM.d 25 113 rfl))
               | 27, ho, _ => cases ho; exact hM.wg (hM.d 26 114 rfl) (kL26 rfl (hM.ol 14) (hM.o0 q13_11_0))
               | 28, ho, _ => cases ho; exact hM.wg (hM.d 26 114 rfl) (kL26 rfl (hM.ol 1) (hM.o0 q13_1_0))
               | 29, ho, _ => cases ho; exact hM.wg (hM.d 26 114 rfl) (kCall2 rfl may35 (hM.d 27 115 rfl) (hM.d 28 116 rfl) (H35N.out _ _ _ (f13_14.kept hM.kept) (f13_0.kept hM.kept)))
               | 30, ho, _ => cases ho; exact hM.wg (hM.d 26 114 rfl) (kLss3 rfl (hM.d 29 117 rfl) rfl (decide_eq_false (by have := HCN.out; omega)))
               | 31, ho, _ => cases ho; exact wn (kPick rfl (hM.d 26 114 rfl) (hM.d 30 118 rfl))
               | zk + 32, ho, _ => simp at ho
              case en14 =>
               intro u14 lc14 W14 hK14 hB14 hO14 hV14 hX14 hA14
               have q14_1_0 := oth0 hO14 q13_1_0
               have f14_0 := f13_0.kept hK14
               have q14_5_0 := oth0 hO14 q13_5_0
               have f14_5 := f13_5.kept hK14
               have q14_6_0 := oth0 hO14 q13_6_0
               have f14_6 := f13_6.kept hK14
               have q14_10_0 := oth0 hO14 q13_10_0
               have f14_11 := f13_11.kept hK14
               have q14_11_0 := oth0 hO14 q13_11_0
               have f14_14 := f13_14.kept hK14
               have q14_12_0 := oth0 hO14 q13_12_0
               have f14_17 := f13_17.kept hK14
               simp only [putK, fC, fN, kZ, kS, vV, sI, sZ, sS]
               have hBt14 := hBt13.trans hB14
               clear hV14 hX14 hA14
               go_upto_region 18 with fail
               by_cases he : cmpQ (M : Rat) a = 0
               · have HE := Lib.hid he
                 clear he
                 refine rg0 (n := 9) (t16 := 48) w.heap.size [.val (.agg #[.bool x10_7, .slice y10_7 z10_7 c10_7, .bool x210_7, .slice y210_7 z210_7 c210_7]), .val (.agg #[.bool ya0, .slice yp0 yl0 yd0, .bool ye0, .slice yq0 ym0 yr0]), .val (.int .i64 (cmpQ (M : Rat) a)), .val (.bool true), .val (.bool true)] [(0, 120), (1, 121), (2, 122), (3, 123), (4, 20)] hBt14.size ?st15 ?en15
                 case st15 =>
                  intro zi zo ho hro a' u lc W hM
                  match zi, ho, hro with
                  | 0, ho, _ => cases ho; exact wn (kL26 rfl (hM.ol 12) (hM.o0 q14_10_0))
                  | 1, ho, _ => cases ho; exact wn (kL26 rfl (hM.ol 1) (hM.o0 q14_1_0))
                  | 2, ho, _ => cases ho; exact wn (kCall2 rfl may35 (hM.d 0 120 rfl) (hM.d 1 121 rfl) (H35.out _ _ _ (f14_11.kept hM.kept) (f14_0.kept hM.kept)))
                  | 3, ho, _ => cases ho; exact wn (kEql3 rfl (hM.d 2 122 rfl) rfl (decide_eq_true HE.out))
                  | 4, ho, _ => cases ho; exact wn (kAssign rfl (hM.d 3 123 rfl))
                  | zk + 5, ho, _ => simp at ho
                 case en15 =>
                  intro u15 lc15 W15 hK15 hB15 hO15 hV15 hX15 hA15
                  have q15_1_0 := oth0 hO15 q14_1_0
                  have f15_0 := f14_0.kept hK15
                  have q15_5_0 := oth0 hO15 q14_5_0
                  have f15_5 := f14_5.kept hK15
                  have q15_6_0 := oth0 hO15 q14_6_0
                  have f15_6 := f14_6.kept hK15
                  simp only [putK, fC, fN, kZ, kS, vV, sI, sZ, sS]
                  have hBt15 := hBt14.trans hB15
                  clear hV15 hX15 hA15
                  go_upto_region 19 with fail
                  refine rg0 (n := 9) (t16 := 48) w.heap.size [.val (.agg #[.bool ya0, .slice yp0 yl0 yd0, .bool ye0, .slice yq0 ym0 yr0]), .k (tup2 (.val (.int .i64 k)) (.val (.int .i64 er))), .k (tup2 (.val (.int .i64 k)) (.val (.int .i64 er))), .val (.int .i64 k), .val (.int .i64 er), .val (.int .i64 k), .val (.int .i64 er)] [(0, 125), (1, 126), (2, 124), (3, 127), (4, 128), (5, 21), (6, 22)] hBt15.size ?st16 ?en16
                  case st16 =>
                   intro zi zo ho hro a' u lc W hM
                   match zi, ho, hro with
                   | 0, ho, _ => cases ho; exact wn (kL26 rfl (hM.ol 1) (hM.o0 q15_1_0))
                   | 1, ho, _ => cases ho; exact wn (kCall1 rfl may41 (hM.d 0 125 rfl) (H41.out _ _ (f15_0.kept hM.kept)))
                   | 2, ho, _ => cases ho; exact wn (kMove rfl (hM.d 1 126 rfl))
                   | 3, ho, _ => cases ho; exact wn (kEx20 rfl (hM.d 2 124 rfl))
                   | 4, ho, _ => cases ho; exact wn (kEx21 rfl (hM.d 2 124 rfl))
                   | 5, ho, _ => cases ho; exact wn (kAssign rfl (hM.d 3 127 rfl))
                   | 6, ho, _ => cases ho; exact wn (kAssign rfl (hM.d 4 128 rfl))
                   | zk + 7, ho, _ => simp at ho
                  case en16 =>
                   intro u16 lc16 W16 hK16 hB16 hO16 hV16 hX16 hA16
                   have q16_1_0 := oth0 hO16 q15_1_0
                   have f16_0 := f15_0.kept hK16
                   have q16_5_0 := oth0 hO16 q15_5_0
                   have f16_5 := f15_5.kept hK16
                   have q16_6_0 := oth0 hO16 q15_6_0
                   have f16_6 := f15_6.kept hK16
                   simp only [putK, fC, fN, kZ, kS, vV, vK, sI, sZ, sS]
                   have hBt16 := hBt15.trans hB16
                   clear hV16 hX16 hA16
                   go_upto_region 20 with fail
                   refine rg0 (n := 9) (t16 := 48) w.heap.size [.val (.bool true)] [(0, 129)] hBt16.size ?st17 ?en17
                   case st17 =>
                    intro zi zo ho hro a' u lc W hM
                    match zi, ho, hro with
                    | 0, ho, _ => cases ho; exact wn (kMove rfl (hM.ol 20))
                    | zk + 1, ho, _ => simp at ho
                   case en17 =>
                    intro u17 lc17 W17 hK17 hB17 hO17 hV17 hX17 hA17
                    have q17_1_0 := oth0 hO17 q16_1_0
                    have f17_0 := f16_0.kept hK17
                    have q17_5_0 := oth0 hO17 q16_5_0
                    have f17_5 := f16_5.kept hK17
                    have q17_6_0 := oth0 hO17 q16_6_0
                    have f17_6 := f16_6.kept hK17
                    simp only [putK, fC, fN, kZ, vV, sI, sZ, sS]
                    have hBt17 := hBt16.trans hB17
                    clear hV17 hX17 hA17
                    obtain ⟨hmn, her⟩ := HW.out HE.out
                    have HMN := Lib.hid hmn
                    have HER := Lib.hid her
                    clear hmn her
                    by_cases he0 : er = 0
                    · have HE0 := Lib.hid he0
                      clear he0
                      go_upto_region 21 with fail
                      refine rg0 (n := 9) (t16 := 48) w.heap.size [.val (.agg #[.bool x5_6, .slice y5_6 z5_6 c5_6]), .val (.agg #[.bool x6_6, .slice y6_6 z6_6 c6_6]), .val (.bool true), .val (.bool true), .val (.int .i64 er), .val (.bool true), .val (.bool true), .val (.bool true), .val (.int .i64 er), .val (.bool false), .val (.bool false), .val (.int .i64 k), .k (frq a), .val (.agg #[.bool ya0, .slice yp0 yl0 yd0, .bool ye0, .slice yq0 ym0 yr0]), .val (.int .i64 (cmpQ a a)), .val (.bool true), .val (.bool true), .val (.bool true), .val (.bool true)] [(0, 130), (1, 131), (2, 132), (3, 133), (4, 134), (5, 135), (6, 136), (7, 137), (8, 138), (9, 139), (10, 140), (11, 141), (12, 142), (13, 143), (14, 144), (15, 145), (16, 146), (17, 147), (18, 2)] hBt17.size ?st18 ?en18
                      case st18 =>
                       intro zi zo ho hro a' u lc W hM
                       match zi, ho, hro with
                       | 0, ho, _ => cases ho; exact wn (kL24 rfl (hM.ol 4) (hM.o0 q17_5_0) rfl)
                       | 1, ho, _ => cases ho; exact wn (kL24 rfl (hM.ol 6) (hM.o0 q17_6_0) rfl)
                       | 2, ho, _ => cases ho; exact wn (kCall2 rfl may50 (hM.d 0 130 rfl) (hM.d 1 131 rfl) (c50 (decide_eq_true HMN.out) (f17_5.kept hM.kept) (f17_6.kept hM.kept)))
                       | 3, ho, _ => cases ho; exact wn (kMove rfl (hM.d 2 132 rfl))
                       | 4, ho, _ => cases ho; exact hM.wg (hM.d 3 133 rfl) (kMove rfl (hM.ol 22))
                       | 5, ho, _ => cases ho; exact hM.wg (hM.d 3 133 rfl) (kNeq29 rfl (hM.d 4 134 rfl) rfl (decide_eq_true HER.out))
                       | 6, ho, _ => cases ho; exact wn (kPick rfl (hM.d 3 133 rfl) (hM.d 5 135 rfl))
                       | 7, ho, _ => cases ho; exact wn (kMove rfl (hM.d 6 136 rfl))
                       | 8, ho, _ => cases ho; exact hM.wg (hM.d 7 137 rfl) (kMove rfl (hM.ol 22))
                       | 9, ho, _ => cases ho; exact hM.wg (hM.d 7 137 rfl) (kNeq29 rfl (hM.d 8 138 rfl) rfl (decide_eq_false (fun h => h HE0.out)))
                       | 10, ho, _ => cases ho; exact hM.wg (hM.d 7 137 rfl) (kMove rfl (hM.d 9 139 rfl))
                       | 11, ho, _ => cases ho; exact hM.wg (hM.d 10 140 rfl) (kMove rfl (hM.ol 21))
                       | 12, ho, _ => cases ho; exact hM.wg (hM.d 10 140 rfl) (kCall1 rfl may33 (hM.d 11 141 rfl) (HK.out HE.out HE0.out _))
                       | 13, ho, _ => cases ho; exact hM.wg (hM.d 10 140 rfl) (kL26 rfl (hM.ol 1) (hM.o0 q17_1_0))
                       | 14, ho, _ => cases ho; exact hM.wg (hM.d 10 140 rfl) (kCall2 rfl may35 (hM.v 12 142 rfl) (hM.d 13 143 rfl) (c35q (HA.out.fs (by decide)) (HA.out.fs (by decide)) (hM.kd 12) (f17_0.kept hM.kept)))
                       | 15, ho, _ => cases ho; exact hM.wg (hM.d 10 140 rfl) (kEql3 rfl (hM.d 14 144 rfl) rfl (decide_eq_true (cmpQ_self a)))
                       | 16, ho, _ => cases ho; exact hM.wg (hM.d 7 137 rfl) (kPick rfl (hM.d 10 140 rfl) (hM.d 15 145 rfl))
                       | 17, ho, _ => cases ho; exact wn (kPick rfl (hM.d 7 137 rfl) (hM.d 16 146 rfl))
                       | 18, ho, _ => cases ho; exact wn (kAssign rfl (hM.d 17 147 rfl))
                       | zk + 19, ho, _ => simp at ho
                      case en18 =>
                       intro u18 lc18 W18 hK18 hB18 hO18 hV18 hX18 hA18
                       simp only [putK, fC, fN, kZ, kS, vV, vK, sI, sZ, sS]
                       have hBt18 := hBt17.trans hB18
                       clear hV18 hX18 hA18
                       go_wp2
                       exact bodyPost_ret (v := .bool true) (by simp [results, Tryz.results11, go_sem]) rfl ⟨_, rfl, rfl, hBt18⟩
                    · have HE0 := Lib.hid he0
                      clear he0
                      go_upto_region 21 with fail
                      refine rg0 (n := 9) (t16 := 48) w.heap.size [.val (.agg #[.bool x5_6, .slice y5_6 z5_6 c5_6]), .val (.agg #[.bool x6_6, .slice y6_6 z6_6 c6_6]), .val (.bool true), .val (.bool true), .val (.int .i64 er), .val (.bool true), .val (.bool true), .val (.bool true), .val (.int .i64 er), .val (.bool true), .val (.bool true), .any, .any, .any, .any, .any, .val (.bool true), .val (.bool true), .val (.bool true)] [(0, 130), (1, 131), (2, 132), (3, 133), (4, 134), (5, 135), (6, 136), (7, 137), (8, 138), (9, 139), (10, 140), (11, 141), (12, 142), (13, 143), (14, 144), (15, 145), (16, 146), (17, 147), (18, 2)] hBt17.size ?st18 ?en18
                      case st18 =>
                       intro zi zo ho hro a' u lc W hM
                       match zi, ho, hro with
                       | 0, ho, _ => cases ho; exact wn (kL24 rfl (hM.ol 4) (hM.o0 q17_5_0) rfl)
                       | 1, ho, _ => cases ho; exact wn (kL24 rfl (hM.ol 6) (hM.o0 q17_6_0) rfl)
                       | 2, ho, _ => cases ho; exact wn (kCall2 rfl may50 (hM.d 0 130 rfl) (hM.d 1 131 rfl) (c50 (decide_eq_true HMN.out) (f17_5.kept hM.kept) (f17_6.kept hM.kept)))
                       | 3, ho, _ => cases ho; exact wn (kMove rfl (hM.d 2 132 rfl))
                       | 4, ho, _ => cases ho; exact hM.wg (hM.d 3 133 rfl) (kMove rfl (hM.ol 22))
                       | 5, ho, _ => cases ho; exact hM.wg (hM.d 3 133 rfl) (kNeq29 rfl (hM.d 4 134 rfl) rfl (decide_eq_true HER.out))
                       | 6, ho, _ => cases ho; exact wn (kPick rfl (hM.d 3 133 rfl) (hM.d 5 135 rfl))
                       | 7, ho, _ => cases ho; exact wn (kMove rfl (hM.d 6 136 rfl))
                       | 8, ho, _ => cases ho; exact hM.wg (hM.d 7 137 rfl) (kMove rfl (hM.ol 22))
                       | 9, ho, _ => cases ho; exact hM.wg (hM.d 7 137 rfl) (kNeq29 rfl (hM.d 8 138 rfl) rfl (decide_eq_true HE0.out))
                       | 10, ho, _ => cases ho; exact hM.wg (hM.d 7 137 rfl) (kMove rfl (hM.d 9 139 rfl))
                       | 11, ho, _ => cases ho; exact hM.wz (hM.d 10 140 rfl)
                       | 12, ho, _ => cases ho; exact hM.wz (hM.d 10 140 rfl)
                       | 13, ho, _ => cases ho; exact hM.wz (hM.d 10 140 rfl)
                       | 14, ho, _ => cases ho; exact hM.wz (hM.d 10 140 rfl)
                       | 15, ho, _ => cases ho; exact hM.wz (hM.d 10 140 rfl)
                       | 16, ho, _ => cases ho; exact hM.wg (hM.d 7 137 rfl) (kPick rfl (hM.d 10 140 rfl) rfl)
                       | 17, ho, _ => cases ho; exact wn (kPick rfl (hM.d 7 137 rfl) (hM.d 16 146 rfl))
                       | 18, ho, _ => cases ho; exact wn (kAssign rfl (hM.d 17 147 rfl))
                       | zk + 19, ho, _ => simp at ho
                      case en18 =>
                       intro u18 lc18 W18 hK18 hB18 hO18 hV18 hX18 hA18
                       simp only [putK, fC, fN, kZ, kS, vV, vA, sI, sZ, sS]
                       have hBt18 := hBt17.trans hB18
                       clear hV18 hX18 hA18
                       go_wp2
                       exact bodyPost_ret (v := .bool true) (by simp [results, Tryz.results11, go_sem]) rfl ⟨_, rfl, rfl, hBt18⟩
               · have HE := Lib.hid he
                 clear he
                 refine rg0 (n := 9) (t16 := 48) w.heap.size [.val (.agg #[.bool x10_7, .slice y10_7 z10_7 c10_7, .bool x210_7, .slice y210_7 z210_7 c210_7]), .val (.agg #[.bool ya0, .slice yp0 yl0 yd0, .bool ye0, .slice yq0 ym0 yr0]), .val (.int .i64 (cmpQ (M : Rat) a)), .val (.bool false), .val (.bool false)] [(0, 120), (1, 121), (2, 122), (3, 123), (4, 20)] hBt14.size ?st15 ?en15
                 case st15 =>
                  intro zi zo ho hro a' u lc W hM
                  match zi, ho, hro with
                  | 0, ho, _ => cases ho; exact wn (kL26 rfl (hM.ol 12) (hM.o0 q14_10_0))
                  | 1, ho, _ => cases ho; exact wn (kL26 rfl (hM.ol 1) (hM.o0 q14_1_0))
                  | 2, ho, _ => cases ho; exact wn (kCall2 rfl may35 (hM.d 0 120 rfl) (hM.d 1 121 rfl) (H35.out _ _ _ (f14_11.kept hM.kept) (f14_0.kept hM.kept)))
                  | 3, ho, _ => cases ho; exact wn (kEql3 rfl (hM.d 2 122 rfl) rfl (decide_eq_false HE.out))
                  | 4, ho, _ => cases ho; exact wn (kAssign rfl (hM.d 3 123 rfl))
                  | zk + 5, ho, _ => simp at ho
                 case en15 =>
                  intro u15 lc15 W15 hK15 hB15 hO15 hV15 hX15 hA15
                  have q15_1_0 := oth0 hO15 q14_1_0
                  have f15_0 := f14_0.kept hK15
                  have q15_6_0 := oth0 hO15 q14_6_0
                  have f15_6 := f14_6.kept hK15
                  have q15_11_0 := oth0 hO15 q14_11_0
                  have f15_14 := f14_14.kept hK15
                  have q15_12_0 := oth0 hO15 q14_12_0
                  have f15_17 := f14_17.kept hK15
                  simp only [putK, fC, fN, kZ, kS, vV, sI, sZ, sS]
                  have hBt15 := hBt14.trans hB15
                  clear hV15 hX15 hA15
                  go_upto_region 19 with fail
                  refine rg0 (n := 9) (t16 := 48) w.heap.size [.val (.agg #[.bool ya0, .slice yp0 yl0 yd0, .bool ye0, .slice yq0 ym0 yr0]), .k (tup2 (.val (.int .i64 k)) (.val (.int .i64 er))), .k (tup2 (.val (.int .i64 k)) (.val (.int .i64 er))), .val (.int .i64 k), .val (.int .i64 er), .val (.int .i64 k), .val (.int .i64 er)] [(0, 125), (1, 126), (2, 124), (3, 127), (4, 128), (5, 21), (6, 22)] hBt15.size ?st16 ?en16
                  case st16 =>
                   intro zi zo ho hro a' u lc W hM
                   match zi, ho, hro with
                   | 0, ho, _ => cases ho; exact wn (kL26 rfl (hM.ol 1) (hM.o0 q15_1_0))
                   | 1, ho, _ => cases ho; exact wn (kCall1 rfl may41 (hM.d 0 125 rfl) (H41.out _ _ (f15_0.kept hM.kept)))
                   | 2, ho, _ => cases ho; exact wn (kMove rfl (hM.d 1 126 rfl))
                   | 3, ho, _ => cases ho; exact wn (kEx20 rfl (hM.d 2 124 rfl))
                   | 4, ho, _ => cases ho; exact wn (kEx21 rfl (hM.d 2 124 rfl))
                   | 5, ho, _ => cases ho; exact wn (kAssign rfl (hM.d 3 127 rfl))
                   | 6, ho, _ => cases ho; exact wn (kAssign rfl (hM.d 4 128 rfl))
                   | zk + 7, ho, _ => simp at ho
                  case en16 =>
                   intro u16 lc16 W16 hK16 hB16 hO16 hV16 hX16 hA16
                   have q16_1_0 := oth0 hO16 q15_1_0
                   have f16_0 := f15_0.kept hK16
                   have q16_6_0 := oth0 hO16 q15_6_0
                   have f16_6 := f15_6.kept hK16
                   have q16_11_0 := oth0 hO16 q15_11_0
                   have f16_14 := f15_14.kept hK16
                   have q16_12_0 := oth0 hO16 q15_12_0
                   have f16_17 := f15_17.kept hK16
                   simp only [putK, fC, fN, kZ, kS, vV, vK, sI, sZ, sS]
                   have hBt16 := hBt15.trans hB16
                   clear hV16 hX16 hA16
                   go_upto_region 20 with fail
                   refine rg0 (n := 9) (t16 := 48) w.heap.size [.val (.bool false)] [(0, 129)] hBt16.size ?st17 ?en17
                   case st17 =>
                    intro zi zo ho hro a' u lc W hM
                    match zi, ho, hro with
                    | 0, ho, _ => cases ho; exact wn (kMove rfl (hM.ol 20))
                    | zk + 1, ho, _ => simp at ho
                   case en17 =>
                    intro u17 lc17 W17 hK17 hB17 hO17 hV17 hX17 hA17
                    have q17_1_0 := oth0 hO17 q16_1_0
                    have f17_0 := f16_0.kept hK17
                    have q17_6_0 := oth0 hO17 q16_6_0
                    have f17_6 := f16_6.kept hK17
                    have q17_11_0 := oth0 hO17 q16_11_0
                    have f17_14 := f16_14.kept hK17
                    have q17_12_0 := oth0 hO17 q16_12_0
                    have f17_17 := f16_17.kept hK17
                    simp only [putK, fC, fN, kZ, vV, sI, sZ, sS]
                    have hBt17 := hBt16.trans hB17
                    clear hV17 hX17 hA17
                    obtain ⟨hmn, her, hcp⟩ := HN.out HE.out
                    have HMN := Lib.hid hmn
                    have HER := Lib.hid her
                    have HCP := Lib.hid hcp
                    clear hmn her hcp
                    go_upto_region 22 with fail
                    refine rg0 (n := 9) (t16 := 48) w.heap.size [.val (.agg #[.bool x12_7, .slice y12_7 z12_7 c12_7]), .val (.agg #[.bool x6_6, .slice y6_6 z6_6 c6_6]), .val (.bool true), .val (.bool true), .val (.int .i64 er), .val (.bool true), .val (.bool true), .val (.bool true), .val (.agg #[.bool x11_7, .slice y11_7 z11_7 c11_7, .bool x211_7, .slice y211_7 z211_7 c211_7]), .val (.agg #[.bool ya0, .slice yp0 yl0 yd0, .bool ye0, .slice yq0 ym0 yr0]), .val (.int .i64 (cmpQ (N : Rat) a)), .val (.bool true), .val (.bool true), .val (.bool true)] [(0, 148), (1, 149), (2, 150), (3, 151), (4, 152), (5, 153), (6, 154), (7, 155), (8, 156), (9, 157), (10, 158), (11, 159), (12, 160), (13, 2)] hBt17.size ?st18 ?en18
                    case st18 =>
                     intro zi zo ho hro a' u lc W hM
                     match zi, ho, hro with
                     | 0, ho, _ => cases ho; exact wn (kL24 rfl (hM.ol 16) (hM.o0 q17_12_0) rfl)
                     | 1, ho, _ => cases ho; exact wn (kL24 rfl (hM.ol 6) (hM.o0 q17_6_0) rfl)
                     | 2, ho, _ => cases ho; exact wn (kCall2 rfl may50 (hM.d 0 148 rfl) (hM.d 1 149 rfl) (c50 (decide_eq_true HMN.out) (f17_17.kept hM.kept) (f17_6.kept hM.kept)))
                     | 3, ho, _ => cases ho; exact wn (kMove rfl (hM.d 2 150 rfl))
                     | 4, ho, _ => cases ho; exact hM.wg (hM.d 3 151 rfl) (kMove rfl (hM.ol 22))
                     | 5, ho, _ => cases ho; exact hM.wg (hM.d 3 151 rfl) (kEql29 rfl (hM.d 4 152 rfl) rfl (decide_eq_true HER.out))
                     | 6, ho, _ => cases ho; exact wn (kPick rfl (hM.d 3 151 rfl) (hM.d 5 153 rfl))
                     | 7, ho, _ => cases ho; exact wn (kMove rfl (hM.d 6 154 rfl))
                     | 8, ho, _ => cases ho; exact hM.wg (hM.d 7 155 rfl) (kL26 rfl (hM.ol 14) (hM.o0 q17_11_0))
                     | 9, ho, _ => cases ho; exact hM.wg (hM.d 7 155 rfl) (kL26 rfl (hM.ol 1) (hM.o0 q17_1_0))
                     | 10, ho, _ => cases ho; exact hM.wg (hM.d 7 155 rfl) (kCall2 rfl may35 (hM.d 8 156 rfl) (hM.d 9 157 rfl) (H35N.out _ _ _ (f17_14.kept hM.kept) (f17_0.kept hM.kept)))
                     | 11, ho, _ => cases ho; exact hM.wg (hM.d 7 155 rfl) (kGtr3 rfl (hM.d 10 158 rfl) rfl (decide_eq_true HCP.out))
                     | 12, ho, _ => cases ho; exact wn (kPick rfl (hM.d 7 155 rfl) (hM.d 11 159 rfl))
                     | 13, ho, _ => cases ho; exact wn (kAssign rfl (hM.d 12 160 rfl))
                     | zk + 14, ho, _ => simp at ho
                    case en18 =>
                     intro u18 lc18 W18 hK18 hB18 hO18 hV18 hX18 hA18
                     simp only [putK, fC, fN, kZ, kS, vV, sI, sZ, sS]
                     have hBt18 := hBt17.trans hB18
                     clear hV18 hX18 hA18
                     go_wp2
                     exact bodyPost_ret (v := .bool true) (by simp [results, Tryz.results11, go_sem]) rfl ⟨_, rfl, rfl, hBt18⟩
set_option maxRecDepth 100000 in
set_option maxHeartbeats 4000000 in
theorem floors_no {na0 nb0 : Bool} {Za0 Zb0 : List Int} {v0 : Value} {w : World} (us : false = true ↔ Us na0 Za0 nb0 Zb0) (rl0 : RawL Za0 Zb0) (k0 : Is (frw na0 Za0 nb0 Zb0) v0 w)  : Calls Tryz.prog 11 #[v0] w (Ret (.val (.bool true)) w) := by
 obtain ⟨yp0, yl0, yd0, yq0, ym0, yr0, rfl, _, _⟩ := id k0
 have HUS := Lib.hid us
 have HRL0 := Lib.hid rl0
 clear us rl0
 have hB0 := Below.refl w.heap.size w
 go_enter Tryz.func11, Tryz.ntmps11
 go_upto_region 0 with fail
 refine rg (n := 9) (t16 := 48) w.heap.size [] [.any, .val (.bool false)] [(0, 1), (1, 2)] [⟨26, some 0, 0, pt, 4, [.c #[.bool na0, .slice yp0 yl0 yd0, .bool nb0, .slice yq0 ym0 yr0]], []⟩] ?ok1 ?st1 ?al1 ?pu1 ?en1
 case ok1 => exact BxOK.fresh rfl hB0.size
 case st1 =>
  intro zi zo ho hro a' u lc W hM
  match zi, ho, hro with
  | 0, _, hro => exact nr1 hro (by kernel_rfl)
  | 1, ho, _ => cases ho; exact wn (kAssign rfl rfl)
  | zk + 2, ho, _ => simp at ho
 case al1 =>
  intro zk zb zi zo hk ha ho a' u lc W hM
  match zk, hk with
  | 0, hk => cases hk; cases ha; cases ho; exact ⟨rfl, rfl, rfl, rfl, kBox rfl (hM.ol 0)⟩
  | zk + 1, hk => simp at hk
 case pu1 =>
  intro zk zb zs zo hk hs ho a' u lc W zc hM hc hcs
  match zk, hk with
  | 0, hk => cases hk; simp at hs
  | zk + 1, hk => simp at hk
 case en1 =>
  intro u1 lc1 W1 hK1 hB1 hO1 hV1 hX1 hA1
  obtain ⟨qr, ho, hl⟩ := hX1 0 _ rfl
  have e1_0 : u1 0 = .pointer (some ⟨lc1 0, 0, none⟩) := (hl 0 rfl).1
  have g1_0 := (hl 0 rfl).2
  have f1_0 := k0.kept hK1
  have q1_0 : W1.heap[(lc1 0)]? = some (.cells #[.bool na0, .slice yp0 yl0 yd0, .bool nb0, .slice yq0 ym0 yr0] 26) := by
   exact qr
  simp only [putK, fC, fN, kZ, kS, vV, vA, sI, sZ, sS, e1_0]
  have hBt1 := hB0.trans hB1
  clear hV1 hX1 hA1
  go_upto_region 1 with fail
  refine rg0 (n := 9) (t16 := 48) w.heap.size [.val (.bool true), .val (.bool false)] [(0, 23), (1, 24)] hBt1.size ?st2 ?en2
  case st2 =>
   intro zi zo ho hro a' u lc W hM
   match zi, ho, hro with
   | 0, ho, _ => cases ho; exact wn (kCall0 rfl may16 (c16))
   | 1, ho, _ => cases ho; exact wn (kNot rfl (hM.d 0 23 rfl) rfl)
   | zk + 2, ho, _ => simp at ho
  case en2 =>
   intro u2 lc2 W2 hK2 hB2 hO2 hV2 hX2 hA2
   have q2_1_0 := oth0 hO2 q1_0
   have f2_0 := f1_0.kept hK2
   simp only [putK, fC, fN, kZ, kS, vV, sI, sZ, sS]
   have hBt2 := hBt1.trans hB2
   clear hV2 hX2 hA2
   go_upto_region 3 with fail
   refine rg (n := 9) (t16 := 48) w.heap.size [] [.val (.agg #[.bool na0, .slice yp0 yl0 yd0, .bool nb0, .slice yq0 ym0 yr0]), .any, .val (.bool false), .val (.bool true)] [(0, 25), (1, 26), (2, 27), (3, 28)] [⟨26, some 1, 0, fun B => .slice (some ⟨B, 0, none⟩) 1 1, 4, [.c #[.bool na0, .slice yp0 yl0 yd0, .bool nb0, .slice yq0 ym0 yr0]], []⟩] ?ok3 ?st3 ?al3 ?pu3 ?en3
   case ok3 => exact BxOK.fresh rfl hBt2.size
   case st3 =>
    intro zi zo ho hro a' u lc W hM
    match zi, ho, hro with
    | 0, ho, _ => cases ho; exact wn (kL26 rfl (hM.ol 1) (hM.o0 q2_1_0))
    | 1, _, hro => exact nr1 hro (by kernel_rfl)
    | 2, ho, _ => cases ho; exact wn (kCall1 rfl may31 ((hM.v 1 26 rfl).trans (hM.loc 0 _ 1 rfl rfl (by kernel_rfl))) (usable1 (hM.full 0 _ rfl (by kernel_rfl) rfl) (f2_0.kept hM.kept) HRL0.out HUS.out))
    | 3, ho, _ => cases ho; exact wn (kNot rfl (hM.d 2 27 rfl) rfl)
    | zk + 4, ho, _ => simp at ho
   case al3 =>
    intro zk zb zi zo hk ha ho a' u lc W hM
    match zk, hk with
    | 0, hk => cases hk; cases ha; cases ho; exact ⟨rfl, rfl, rfl, rfl, kSlice1 rfl (hM.d 0 25 rfl)⟩
    | zk + 1, hk => simp at hk
   case pu3 =>
    intro zk zb zs zo hk hs ho a' u lc W zc hM hc hcs
    match zk, hk with
    | 0, hk => cases hk; simp at hs
    | zk + 1, hk => simp at hk
   case en3 =>
    intro u3 lc3 W3 hK3 hB3 hO3 hV3 hX3 hA3
    obtain ⟨qr, ho, hl⟩ := hX3 0 _ rfl
    have e3_1 : u3 1 = .slice (some ⟨lc3 0, 0, none⟩) 1 1 := (hl 1 rfl).1
    have g3_0 := (hl 1 rfl).2
    simp only [putK, fC, fN, kZ, kS, vV, vA, sI, sZ, sS, e3_1]
    have hBt3 := hBt2.trans hB3
    clear hV3 hX3 hA3
    go_upto_region 4 with fail
    refine rg0 (n := 9) (t16 := 48) w.heap.size [.val (.bool true)] [(0, 2)] hBt3.size ?st4 ?en4
    case st4 =>
     intro zi zo ho hro a' u lc W hM
     match zi, ho, hro with
     | 0, ho, _ => cases ho; exact wn (kAssign rfl rfl)
     | zk + 1, ho, _ => simp at ho
    case en4 =>
     intro u4 lc4 W4 hK4 hB4 hO4 hV4 hX4 hA4
     simp only [putK, fC, fN, kZ, vV, sI, sZ, sS]
     have hBt4 := hBt3.trans hB4
     clear hV4 hX4 hA4
     go_wp2
     exact bodyPost_ret (v := .bool true) (by simp [results, Tryz.results11, go_sem]) rfl ⟨_, rfl, rfl, hBt4⟩
theorem floor_neg0 {n d M : Int} (h : Floor n d M 0) : Floor (-n) d (-M) 0 := ⟨by have := h.1; grind, h.2, h.3⟩
theorem floor_neg1 {n d M T : Int} (h : Floor n d M T) (hd : 0 < d) (ht : T ≠ 0) : Floor (-n) d (-(M + 1)) (d - T) := by
 have h2 := h.2 hd
 exact ⟨by have := h.1; grind, fun _ => ⟨by omega, by omega⟩, fun hn => by omega⟩
theorem den_one {a : Rat} {M : Int} (h : Floor a.num (a.den : Int) M 0) : (a.den : Int) = 1 ∧ a.num = M := by
 have h1 : a.num = M * (a.den : Int) := by have := h.1; omega
 have hg := rat_gcd a
 have hp := rat_pos a
 rw [h1, Int.gcd_mul_left_left] at hg
 have : (a.den : Int) = 1 := by omega
 exact ⟨this, by rw [h1, this, Int.mul_one]⟩
theorem floors_good {a : Rat} (ha : Fz 40 a) {na0 nb0 : Bool} {Za0 Zb0 : List Int} {v0 : Value} {w : World} (us : true = true ↔ Us na0 Za0 nb0 Zb0) (rl0 : RawL Za0 Zb0) (k0 : Is (frw na0 Za0 nb0 Zb0) v0 w) (h0 : Is (fr a.num ((a.den : Nat) : Int)) v0 w) : Calls Tryz.prog 11 #[v0] w (Ret (.val (.bool true)) w) := by
 have hp := rat_pos a
 have hf := floor_pos (x := a.num) hp
 generalize hM : a.num / (a.den : Int) = M at hf
 generalize hT : a.num % (a.den : Int) = T at hf
 have hT0 : 0 ≤ T := by rw [← hT]; exact Int.emod_nonneg _ (by omega)
 have hT1 : T < (a.den : Int) := by rw [← hT]; exact Int.emod_lt_of_pos _ hp
 have hMa : (M.natAbs : Int) ≤ a.num.natAbs := by rw [← hM]; have := Int.natAbs_ediv_le_natAbs a.num (a.den : Int); omega
 have hb := ha.1
 have hbb : (65536 : Int) ^ 41 = 65536 ^ 40 * 65536 := Int.pow_succ ..
 have hpp := pow_pos' 40
 have hc := capF_lt
 have hfa : Fs a := ha.fs (by decide)
 have hfm : Fs (-a) := (ha.neg).fs (by decide)
 have hM1 : Fz 41 (M : Rat) := fz_int (by omega) (by decide)
 have hN1 : Fz 41 ((M + 1 : Int) : Rat) := fz_int (by omega) (by decide)
 have hcap : (65536 : Int) ^ 41 < CapF := by
  rw [CapF.eq]
  have h1 : (65536 : Int) ^ 42 ≤ 65536 ^ 256 := pow_le_pow' (by decide)
  have h2 : (65536 : Int) ^ 42 = 65536 ^ 41 * 65536 := Int.pow_succ ..
  have := pow_pos' 41
  omega
 have e1 := hf.1
 by_cases ht : T = 0
 · subst ht
   obtain ⟨d1, n1⟩ := den_one hf
   have hcm : cmpQ (M : Rat) a = 0 := by rw [cmpF, d1, n1]; simp [cmpI]
   obtain ⟨k, er, hk⟩ : ∃ k er : Int, (-9223372036854775808 ≤ a.num ∧ a.num < 9223372036854775808 ∧ k = a.num ∧ er = 0) ∨ (¬ (-9223372036854775808 ≤ a.num ∧ a.num < 9223372036854775808) ∧ k = 0 ∧ er = 3) := by
    by_cases h : -9223372036854775808 ≤ a.num ∧ a.num < 9223372036854775808
    · exact ⟨a.num, 0, .inl ⟨h.1, h.2, rfl, rfl⟩⟩
    · exact ⟨0, 3, .inr ⟨h, rfl, rfl⟩⟩
   refine floors_yes (M := M) (N := M) (k := k) (er := er) us rl0 k0 ha h0 (fun v W h => c51 hfa hf h) (fun v W h => c52a hfa hf (by decide) h) (fun v W h => c39q hfa h) (fun v W h => c51 (t := 0) hfm (by rw [Rat.neg_num]; exact floor_neg0 hf) h) (fun v u W h1 h2 => m46 (hM1.fs (by decide)) h1 h2) (fun v u W h1 h2 => m46 (hM1.fs (by decide)) h1 h2)
    (fun v u W h1 h2 => c53 rfl (by omega) h1 h2) (fun v u W h1 h2 => c53 (by omega) (by simp; omega) h1 h2) (by rw [hcm]; decide) (by rw [hcm]; decide) (fun v W h => c41 hfa (decide_eq_true d1) hk h) (fun v u W h1 h2 => c35q (hM1.fs (by decide)) hfa h1 h2) (fun v u W h1 h2 => c35q (hM1.fs (by decide)) hfa h1 h2) (fun _ => ⟨rfl, by omega⟩) (fun h => absurd hcm h) ?_
   intro _ he W
   have hkk : k = a.num ∧ -9223372036854775808 ≤ a.num ∧ a.num < 9223372036854775808 := by omega
   have := c33 (k := k) (w := W) (by omega) (by omega)
   show Calls Tryz.prog 33 #[.int .i64 k] W (Ret (.k (fr a.num ((a.den : Nat) : Int))) W)
   rw [d1, ← hkk.1]
   exact this
 · have d1 : ¬ (a.den : Int) = 1 := by omega
   have hcm : cmpQ (M : Rat) a = -1 := by rw [cmpF]; unfold cmpI; rw [if_pos (by omega)]
   have hcn : cmpQ ((M + 1 : Int) : Rat) a = 1 := by
    rw [cmpF]; unfold cmpI
    have : (M + 1) * (a.den : Int) = M * a.den + a.den := by grind
    rw [if_neg (by omega), if_neg (by omega)]
   refine floors_yes (M := M) (N := M + 1) (k := 0) (er := 22) us rl0 k0 ha h0 (fun v W h => c51 hfa hf h) (fun v W h => c52b hfa hf (decide_eq_false ht) rfl (by omega) h) (fun v W h => c39q hfa h) (fun v W h => c51 (t := (a.den : Int) - T) hfm (by rw [Rat.neg_num]; exact floor_neg1 hf hp ht) h) (fun v u W h1 h2 => m46 (hM1.fs (by decide)) h1 h2) (fun v u W h1 h2 => m46 (hN1.fs (by decide)) h1 h2)
    (fun v u W h1 h2 => c53 rfl (by omega) h1 h2) (fun v u W h1 h2 => c53 (by omega) (by simp; omega) h1 h2) (by rw [hcm]; decide) (by rw [hcn]; decide) (fun v W h => c41n hfa (decide_eq_false d1) h) (fun v u W h1 h2 => c35q (hM1.fs (by decide)) hfa h1 h2) (fun v u W h1 h2 => c35q (hN1.fs (by decide)) hfa h1 h2) (fun h => by rw [hcm] at h; cases h) (fun _ => ⟨rfl, rfl, by rw [hcn]; decide⟩) ?_
   intro h
   rw [hcm] at h
   cases h
theorem Floors_any {na0 nb0 : Bool} {Za0 Zb0 : List Int} {v0 : Value} {w : World} (rl0 : RawL Za0 Zb0) (k0 : Is (frw na0 Za0 nb0 Zb0) v0 w) : Calls Tryz.prog 11 #[v0] w (Ret (.val (.bool true)) w) := by
 by_cases hu : Us na0 Za0 nb0 Zb0
 · obtain ⟨a, h0, f0⟩ := us_frq k0 hu rl0
   exact floors_good f0 ⟨fun _ => hu, fun _ => rfl⟩ rl0 k0 h0
 · exact floors_no ⟨fun h => (by cases h), fun h => absurd h hu⟩ rl0 k0
end Go.Proofs.YtihdbjilolmfiaaGreatDoor
