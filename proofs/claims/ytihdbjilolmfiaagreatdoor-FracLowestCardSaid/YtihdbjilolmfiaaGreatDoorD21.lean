import Derived.Test.YtihdbjilolmfiaaGreatDoorD20
import Derived.Test.YtihdbjilolmfiaaGreatDoorD12
import Derived.Test.YtihdbjilolmfiaaGreatDoorD01
set_option maxRecDepth 100000
set_option maxHeartbeats 4000000
namespace Go.Proofs.YtihdbjilolmfiaaGreatDoor
open Go.RowKit Go.WM Go.WR
attribute [local go_sem] Oper.semAt_some
theorem same_num {a b : Int} {A B : List Int} (hA : Rep A a.natAbs) (hB : Rep B b.natAbs) : (decide (a < 0) == decide (b < 0) && decide (A = B)) = decide (a = b) := by
 by_cases h : a = b
 · subst h
   have : A = B := hA.unique hB
   subst this
   simp
 · rw [decide_eq_false h]
   by_cases h1 : A = B
   · subst h1
     have e : (a.natAbs : Int) = b.natAbs := by rw [← hA.eq, ← hB.eq]
     have h2 : decide (a < 0) ≠ decide (b < 0) := by
      intro h3
      by_cases ha : a < 0
      · rw [decide_eq_true ha] at h3
        have := of_decide_eq_true h3.symm
        omega
      · rw [decide_eq_false ha] at h3
        have := of_decide_eq_false h3.symm
        omega
     rw [beq_eq_false_iff_ne.2 h2, Bool.false_and]
   · rw [decide_eq_false h1, Bool.and_false]
theorem c43 {ng t : Bool} {zs : List Int} {v0 : Value} {w : World} (hl : zs.length ≤ 140737488355328) (ht : okB ng zs = t) (h0 : Is (raw ng zs) v0 w) : Calls Tryz.prog 43 #[v0] w (Ret (.val (.bool t)) w) := by
 obtain ⟨p, l, c, rfl, hL⟩ := h0
 refine (Valid_any _ ng zs w ⟨_, rfl, hL⟩ hl).mono ?_
 rintro e w' ⟨rfl, hb⟩
 exact ⟨_, rfl, by rw [ht]; rfl, hb⟩
theorem c43n {x : Int} {v0 : Value} {w : World} (h0 : Is (num x) v0 w) : Calls Tryz.prog 43 #[v0] w (Ret (.val (.bool true)) w) := by
 obtain ⟨zs, ⟨sv, rfl, hL⟩, hR, hc, hlen, hok⟩ := Wn.raw h0
 refine (Valid_any _ _ zs w ⟨_, rfl, hL⟩ (by omega)).mono ?_
 rintro e w' ⟨rfl, hb⟩
 exact ⟨_, rfl, by rw [hok]; rfl, hb⟩
theorem c72 {k : Int} {w : World} (h0 : -9223372036854775808 ≤ k) (h1 : k < 9223372036854775808) : Calls Tryz.prog 72 #[.int .i64 k] w (Ret (.k (num k)) w) := by
 refine (FromInt_any k w h0 h1).mono ?_
 rintro e w' ⟨b, p, l, c, rfl, hO, hb⟩
 exact ⟨_, rfl, wo_is hO, hb⟩
def okF (n1 : Bool) (z1 : List Int) (n2 : Bool) (z2 : List Int) : Bool :=
 (decide (z1.length ≤ 256) && decide (z2.length ≤ 256)) && (okB n1 z1 && (okB n2 z2 && (!n2 && (!decide (((z2.length : Nat) : Int) = 0) && decide (((Int.gcd (sgn n1 (val z1)) (val z2) : Nat) : Int) = 1)))))
theorem index_fr (g N : Nat) (c0 c1 c2 c3 : Nat → Value) (ok : Nat → Bool) (w : World) (hg : g < w.heap.size) (hN : N ≤ 4294967296)
 (h0 : ∀ j, j < N → w.cell? ⟨g, j * 4, none⟩ = some (c0 j)) (h1 : ∀ j, j < N → w.cell? ⟨g, j * 4 + 1, none⟩ = some (c1 j)) (h2 : ∀ j, j < N → w.cell? ⟨g, j * 4 + 2, none⟩ = some (c2 j)) (h3 : ∀ j, j < N → w.cell? ⟨g, j * 4 + 3, none⟩ = some (c3 j))
 (hv : ∀ j, j < N → ∀ W, Below w.heap.size w W → Calls Tryz.prog 125 #[.agg #[c0 j, c1 j, c2 j, c3 j]] W (Ret (.val (.bool (!ok j))) W)) :
 Calls Tryz.prog 168 #[.slice (some ⟨g, 0, none⟩) N N, .func (.func 125) #[] #[]] w fun e w' => ∃ r : Int, e = .returned (.int .i64 r) ∧ Below w.heap.size w w' ∧ ((r = -1 ∧ ∀ j, j < N → ok j = true) ∨ (0 ≤ r ∧ ∃ j, j < N ∧ ok j = false)) := by
 go_enter Tryz.func168, Tryz.ntmps168
 go_wp2
 go_loopw [8] (fun kv wr => ∃ k : Nat, k ≤ N ∧ kv = .int .i64 k ∧ Below w.heap.size w wr ∧ ∀ j, j < k → ok j = true) (fun kv _ => N - (intOf kv).toNat)
 case atStart => exact ⟨0, Nat.zero_le _, rfl, Below.refl _ _, fun j hj => absurd hj (by omega)⟩
 case round =>
  obtain ⟨k, hk, rfl, hB, hok⟩ := hrel
  by_cases hlt : k < N
  · have d0 := (hB.cell (p := ⟨g, k * 4, none⟩) hg).trans (h0 k hlt)
    have d1 := (hB.cell (p := ⟨g, k * 4 + 1, none⟩) hg).trans (h1 k hlt)
    have d2 := (hB.cell (p := ⟨g, k * 4 + 2, none⟩) hg).trans (h2 k hlt)
    have d3 := (hB.cell (p := ⟨g, k * 4 + 3, none⟩) hg).trans (h3 k hlt)
    have hvk := hv k hlt wr hB
    by_cases ho : ok k = true
    · rw [ho] at hvk
      have HO := Lib.hid ho
      clear ho
      generalize c0 k = e0 at *
      generalize c1 k = e1 at *
      generalize c2 k = e2 at *
      generalize c3 k = e3 at *
      go_wp2_with (go_at_call 125; refine hvk.mono ?_; rintro e w1 ⟨_, rfl, rfl, hb1⟩)
      go_roundw
      case rel => exact ⟨k + 1, by omega, rfl, hB.trans (hb1.mono hB.size), fun j hj => by rcases (show j < k ∨ j = k by omega) with h | rfl; exact hok j h; exact HO.out⟩
      case measure => simp [intOf]; omega
    · rw [Bool.eq_false_iff.2 ho] at hvk
      have HO := Lib.hid (Bool.eq_false_iff.2 ho)
      clear ho
      generalize c0 k = e0 at *
      generalize c1 k = e1 at *
      generalize c2 k = e2 at *
      generalize c3 k = e3 at *
      go_wp2_with (go_at_call 125; refine hvk.mono ?_; rintro e w1 ⟨_, rfl, rfl, hb1⟩)
      go_ret
      exact ⟨k, rfl, hB.trans (hb1.mono hB.size), .inr ⟨by omega, k, hlt, HO.out⟩⟩
  · obtain rfl : k = N := by omega
    go_wp2
    go_ret
    exact ⟨-1, rfl, hB, .inl ⟨rfl, hok⟩⟩
theorem c65 {g : Nat} {a0 a1 a2 a3 b0 b1 b2 b3 : Value} {oa ob t : Bool} {w : World} (hq : w.heap[g]? = some (.cells #[a0, a1, a2, a3, b0, b1, b2, b3] 26)) (ht : (oa && ob) = t)
 (ha : ∀ W, Below w.heap.size w W → Calls Tryz.prog 125 #[.agg #[a0, a1, a2, a3]] W (Ret (.val (.bool (!oa))) W))
 (hb : ∀ W, Below w.heap.size w W → Calls Tryz.prog 125 #[.agg #[b0, b1, b2, b3]] W (Ret (.val (.bool (!ob))) W)) :
 Calls Tryz.prog 65 #[.slice (some ⟨g, 0, none⟩) 2 2] w (Ret (.val (.bool t)) w) := by
 have two : ∀ j, j < 2 → j = 0 ∨ j = 1 := fun j hj => by omega
 have hi := index_fr g 2 (fun j => bif j == 0 then a0 else b0) (fun j => bif j == 0 then a1 else b1) (fun j => bif j == 0 then a2 else b2) (fun j => bif j == 0 then a3 else b3) (fun j => bif j == 0 then oa else ob) w (Array.getElem?_eq_some_iff.1 hq).1 (by omega)
  (fun j hj => by rcases two j hj with rfl | rfl
                  · exact cell_of hq 0 rfl
                  · exact cell_of hq 4 rfl)
  (fun j hj => by rcases two j hj with rfl | rfl
                  · exact cell_of hq 1 rfl
                  · exact cell_of hq 5 rfl)
  (fun j hj => by rcases two j hj with rfl | rfl
                  · exact cell_of hq 2 rfl
                  · exact cell_of hq 6 rfl)
  (fun j hj => by rcases two j hj with rfl | rfl
                  · exact cell_of hq 3 rfl
                  · exact cell_of hq 7 rfl)
  (fun j hj => by rcases two j hj with rfl | rfl <;> assumption)
 have HT := Lib.hid ht
 clear hq ha hb ht
 go_enter Tryz.func65, Tryz.ntmps65
 go_wp2_with (go_at_call 124; go_enter Tryz.func124, Tryz.ntmps124; go_wp2_with (go_at_call 168; refine hi.mono ?_; rintro e w1 ⟨r, rfl, hb1, hr⟩))
 go_ret
 refine ⟨_, rfl, ?_, hb1⟩
 rcases hr with ⟨rfl, hall⟩ | ⟨hr, j, hj, hbad⟩
 · have h0 : oa = true := hall 0 (by omega)
   have h1 : ob = true := hall 1 (by omega)
   rw [← HT.out, h0, h1]; rfl
 · have hf : t = false := by
    rw [← HT.out]
    rcases two j hj with rfl | rfl
    · have : oa = false := hbad
      rw [this]; rfl
    · have : ob = false := hbad
      rw [this, Bool.and_false]
   rw [hf, decide_eq_true hr]; rfl
theorem c44n {x y : Int} {t : Bool} {v0 : Value} {w : World} (hy : 0 < y) (hs : (decide ((x.natAbs : Int) < CapF) && decide ((y.natAbs : Int) < CapF)) = true) (ht : decide (((Int.gcd x y : Nat) : Int) = 1) = t) (h0 : Is (fr x y) v0 w) : Calls Tryz.prog 44 #[v0] w (Ret (.val (.bool t)) w) := by
 obtain ⟨ya0, yp0, yl0, yd0, ye0, yq0, ym0, yr0, rfl, yg0, yk0⟩ := id h0
 obtain rfl : ye0 = false := (num_sign (W := w) yk0).trans (decide_eq_false (by omega))
 replace yg0 : Is (num x) (.agg #[.bool ya0, .slice yp0 yl0 yd0]) w := yg0
 replace yk0 : Is (num y) (.agg #[.bool false, .slice yq0 ym0 yr0]) w := yk0
 have hz : decide (((ym0 : Nat) : Int) = 0) = false := decide_eq_false (by have := num_len yk0; omega)
 have HZ := Lib.hid hz
 have HS := Lib.hid hs
 have HT := Lib.hid ht
 have hgg : ((Int.gcd x y : Nat) : Int) = ((Int.gcd x y : Nat) : Int) := rfl
 have HGG := Lib.hid hgg
 clear hz hs ht hgg hy
 have hB0 := Below.refl w.heap.size w
 go_enter Tryz.func44, Tryz.ntmps44
 go_upto_region 0 with fail
 refine rg (n := 9) (t16 := 48) w.heap.size [] [.any, vF] [(0, 1), (1, 2)] [⟨26, some 0, 0, pt, 4, [.c #[.bool ya0, .slice yp0 yl0 yd0, .bool false, .slice yq0 ym0 yr0]], []⟩] ?ok1 ?st1 ?al1 ?pu1 ?en1
 case ok1 => exact BxOK.fresh rfl hB0.size
 case st1 =>
  intro zi zo ho hro a' u lc W hM
  match zi, ho, hro with
  | 0, _, hro => exact nr1 hro (by kernel_rfl)
  | 1, ho, _ => cases ho; exact wn (kAssign rfl rfl)
  | zk + 2, ho, _ => simp at ho
 case al1 =>
  intro zk zb zi zo hk ha ho a' u lc W hM
  match zk, hk with
  | 0, hk => cases hk; cases ha; cases ho; exact ⟨rfl, rfl, rfl, rfl, kBox rfl (hM.ol 0)⟩
  | zk + 1, hk => simp at hk
 case pu1 =>
  intro zk zb zs zo hk hs ho a' u lc W zc hM hc hcs
  match zk, hk with
  | 0, hk => cases hk; simp at hs
  | zk + 1, hk => simp at hk
 case en1 =>
  intro u1 lc1 W1 hK1 hB1 hO1 hV1 hX1 hA1
  obtain ⟨qr, ho, hl⟩ := hX1 0 _ rfl
  have e1_0 : u1 0 = .pointer (some ⟨lc1 0, 0, none⟩) := (hl 0 rfl).1
  have g1_0 := (hl 0 rfl).2
  have f1_0 := h0.kept hK1
  have f1_1 := yg0.kept hK1
  have f1_2 := yk0.kept hK1
  have q1_0 : W1.heap[(lc1 0)]? = some (.cells #[.bool ya0, .slice yp0 yl0 yd0, .bool false, .slice yq0 ym0 yr0] 26) := by
   exact qr
  simp only [putK, fC, fN, kZ, kS, vV, vA, sI, sZ, sS, e1_0]
  have hBt1 := hB0.trans hB1
  clear hV1 hX1 hA1
  go_upto_region 1 with fail
  refine rg (n := 9) (t16 := 48) w.heap.size [] [.val (.agg #[.bool ya0, .slice yp0 yl0 yd0, .bool false, .slice yq0 ym0 yr0]), .val (.agg #[.bool ya0, .slice yp0 yl0 yd0, .bool false, .slice yq0 ym0 yr0]), .any, .any] [(0, 4), (1, 5), (2, 3)] [⟨73, some 2, 0, pt, 4, [.c #[.bool false, .slice none 0 0, .bool false, .slice none 0 0]], [(3, 0, 1)]⟩] ?ok2 ?st2 ?al2 ?pu2 ?en2
  case ok2 => exact BxOK.fresh rfl hBt1.size
  case st2 =>
   intro zi zo ho hro a' u lc W hM
   match zi, ho, hro with
   | 0, ho, _ => cases ho; exact wn (kL26 rfl (hM.ol 1) (hM.o0 q1_0))
   | 1, ho, _ => cases ho; exact wn (kBuild73 rfl (hM.d 0 4 rfl) rfl)
   | 2, _, hro => exact nr1 hro (by kernel_rfl)
   | 3, _, hro => exact nr1 hro (by kernel_rfl)
   | zk + 4, ho, _ => simp at ho
  case al2 =>
   intro zk zb zi zo hk ha ho a' u lc W hM
   match zk, hk with
   | 0, hk => cases hk; cases ha; cases ho; exact ⟨rfl, rfl, rfl, rfl, kAlloc73 rfl⟩
   | zk + 1, hk => simp at hk
  case pu2 =>
   intro zk zb zs zo hk hs ho a' u lc W zc hM hc hcs
   match zk, hk with
   | 0, hk =>
    cases hk
    simp only [List.mem_cons, List.not_mem_nil, or_false] at hs
    rcases hs with rfl
    · cases ho
      have e : u 1 = .agg #[.bool ya0, .slice yp0 yl0 yd0, .bool false, .slice yq0 ym0 yr0] := hM.kd 1
      exact kPut rfl e ((hM.v 2 3 rfl).trans (hM.loc 0 _ 2 rfl rfl (by kernel_rfl))) (hM.v 1 5 rfl) hc hcs sz73
   | zk + 1, hk => simp at hk
  case en2 =>
   intro u2 lc2 W2 hK2 hB2 hO2 hV2 hX2 hA2
   have e2_1 := kv (hV2 1 5 rfl) rfl
   obtain ⟨qr, ho, hl⟩ := hX2 0 _ rfl
   have e2_2 : u2 2 = .pointer (some ⟨lc2 0, 0, none⟩) := (hl 2 rfl).1
   have g2_0 := (hl 2 rfl).2
   have f2_0 := f1_0.kept hK2
   have f2_1 := f1_1.kept hK2
   have f2_2 := f1_2.kept hK2
   have q2_0 : W2.heap[(lc2 0)]? = some (.cells #[.bool ya0, .slice yp0 yl0 yd0, .bool false, .slice yq0 ym0 yr0] 73) := by
    rw [contAll_one rfl (cs := #[.bool ya0, .slice yp0 yl0 yd0, .bool false, .slice yq0 ym0 yr0]) (by rw [e2_1]; rfl) rfl] at qr; exact qr
   simp only [putK, fC, fN, kZ, kS, vV, vA, sI, sZ, sS, e2_2]
   have hBt2 := hBt1.trans hB2
   clear hV2 hX2 hA2
   go_upto_region 2 with fail
   refine rg0 (n := 9) (t16 := 48) w.heap.size [.val (.agg #[.bool ya0, .slice yp0 yl0 yd0, .bool false, .slice yq0 ym0 yr0]), vT, vF, vF, .val (.pointer (some ⟨(lc2 0), 0, none⟩)), .val (.pointer (some ⟨(lc2 0), 0, none⟩)), .val (.agg #[.bool ya0, .slice yp0 yl0 yd0]), vT, vF, vF, vF, .val (.pointer (some ⟨(lc2 0), 0, none⟩)), .val (.pointer (some ⟨(lc2 0), 2, none⟩)), .val (.agg #[.bool false, .slice yq0 ym0 yr0]), vT, vF, vF, vF, .val (.pointer (some ⟨(lc2 0), 0, none⟩)), .val (.pointer (some ⟨(lc2 0), 2, none⟩)), .val (.pointer (some ⟨(lc2 0), 2, none⟩)), vF, vF, vF, .val (.pointer (some ⟨(lc2 0), 0, none⟩)), .val (.pointer (some ⟨(lc2 0), 2, none⟩)), .val (.pointer (some ⟨(lc2 0), 3, none⟩)), .val (.slice yq0 ym0 yr0), .val (.int .i64 ((ym0 : Nat) : Int)), vF, vF] [(0, 6), (1, 7), (2, 8), (3, 9), (4, 10), (5, 11), (6, 12), (7, 13), (8, 14), (9, 15), (10, 16), (11, 17), (12, 18), (13, 19), (14, 20), (15, 21), (16, 22), (17, 23), (18, 24), (19, 25), (20, 26), (21, 27), (22, 28), (23, 29), (24, 30), (25, 31), (26, 32), (27, 33), (28, 34), (29, 35), (30, 36)] hBt2.size ?st3 ?en3
   case st3 =>
    intro zi zo ho hro a' u lc W hM
    match zi, ho, hro with
    | 0, ho, _ => cases ho; exact wn (kLoad (rs := [.bool ya0, .slice yp0 yl0 yd0, .bool false, .slice yq0 ym0 yr0]) Tryz.underlying73 rfl sz73 rfl (hM.ol 3) (hM.o0 q2_0) rfl rfl)
    | 1, ho, _ => cases ho; exact wn (kCall1 rfl may87 (hM.d 0 6 rfl) (c87 HS.out (f2_0.kept hM.kept)))
    | 2, ho, _ => cases ho; exact wn (kNot rfl (hM.d 1 7 rfl) rfl)
    | 3, ho, _ => cases ho; exact wn (kMove rfl (hM.d 2 8 rfl))
    | 4, ho, _ => cases ho; exact hM.wg (hM.d 3 9 rfl) (kField73_0 rfl (hM.ol 3))
    | 5, ho, _ => cases ho; exact hM.wg (hM.d 3 9 rfl) (kField26_0 rfl (hM.d 4 10 rfl))
    | 6, ho, _ => cases ho; exact hM.wg (hM.d 3 9 rfl) (kL24 rfl (hM.d 5 11 rfl) (hM.o0 q2_0) rfl)
    | 7, ho, _ => cases ho; exact hM.wg (hM.d 3 9 rfl) (kCall1 rfl may43 (hM.d 6 12 rfl) (c43n (f2_1.kept hM.kept)))
    | 8, ho, _ => cases ho; exact hM.wg (hM.d 3 9 rfl) (kNot rfl (hM.d 7 13 rfl) rfl)
    | 9, ho, _ => cases ho; exact wn (kPick rfl (hM.d 3 9 rfl) (hM.d 8 14 rfl))
    | 10, ho, _ => cases ho; exact wn (kMove rfl (hM.d 9 15 rfl))
    | 11, ho, _ => cases ho; exact hM.wg (hM.d 10 16 rfl) (kField73_0 rfl (hM.ol 3))
    | 12, ho, _ => cases ho; exact hM.wg (hM.d 10 16 rfl) (kField26_1 rfl (hM.d 11 17 rfl))
    | 13, ho, _ => cases ho; exact hM.wg (hM.d 10 16 rfl) (kL24 rfl (hM.d 12 18 rfl) (hM.o0 q2_0) rfl)
    | 14, ho, _ => cases ho; exact hM.wg (hM.d 10 16 rfl) (kCall1 rfl may43 (hM.d 13 19 rfl) (c43n (f2_2.kept hM.kept)))
    | 15, ho, _ => cases ho; exact hM.wg (hM.d 10 16 rfl) (kNot rfl (hM.d 14 20 rfl) rfl)
    | 16, ho, _ => cases ho; exact wn (kPick rfl (hM.d 10 16 rfl) (hM.d 15 21 rfl))
    | 17, ho, _ => cases ho; exact wn (kMove rfl (hM.d 16 22 rfl))
    | 18, ho, _ => cases ho; exact hM.wg (hM.d 17 23 rfl) (kField73_0 rfl (hM.ol 3))
    | 19, ho, _ => cases ho; exact hM.wg (hM.d 17 23 rfl) (kField26_1 rfl (hM.d 18 24 rfl))
    | 20, ho, _ => cases ho; exact hM.wg (hM.d 17 23 rfl) (kField24_0 rfl (hM.d 19 25 rfl))
    | 21, ho, _ => cases ho; exact hM.wg (hM.d 17 23 rfl) (kLoad1 Tryz.underlying4 rfl rfl (hM.d 20 26 rfl) (hM.o0 q2_0) rfl rfl)
    | 22, ho, _ => cases ho; exact wn (kPick rfl (hM.d 17 23 rfl) (hM.d 21 27 rfl))
    | 23, ho, _ => cases ho; exact wn (kMove rfl (hM.d 22 28 rfl))
    | 24, ho, _ => cases ho; exact hM.wg (hM.d 23 29 rfl) (kField73_0 rfl (hM.ol 3))
    | 25, ho, _ => cases ho; exact hM.wg (hM.d 23 29 rfl) (kField26_1 rfl (hM.d 24 30 rfl))
    | 26, ho, _ => cases ho; exact hM.wg (hM.d 23 29 rfl) (kField24_1 rfl (hM.d 25 31 rfl))
    | 27, ho, _ => cases ho; exact hM.wg (hM.d 23 29 rfl) (kLoad1 Tryz.underlying22 rfl rfl (hM.d 26 32 rfl) (hM.o0 q2_0) rfl rfl)
    | 28, ho, _ => cases ho; exact hM.wg (hM.d 23 29 rfl) (kLen rfl (hM.d 27 33 rfl))
    | 29, ho, _ => cases ho; exact hM.wg (hM.d 23 29 rfl) (kEql3 rfl (hM.d 28 34 rfl) rfl HZ.out)
    | 30, ho, _ => cases ho; exact wn (kPick rfl (hM.d 23 29 rfl) (hM.d 29 35 rfl))
    | zk + 31, ho, _ => simp at ho
   case en3 =>
    intro u3 lc3 W3 hK3 hB3 hO3 hV3 hX3 hA3
    have f3_1 := f2_1.kept hK3
    have f3_2 := f2_2.kept hK3
    have q3_2_0 := oth0 hO3 q2_0
    simp only [putK, fC, fN, kZ, kS, vV, sI, sZ, sS]
    have hBt3 := hBt2.trans hB3
    clear hV3 hX3 hA3
    go_upto_region 4 with fail
    refine rg0 (n := 9) (t16 := 48) w.heap.size [.val (.pointer (some ⟨(lc2 0), 0, none⟩)), .val (.pointer (some ⟨(lc2 0), 0, none⟩)), .val (.agg #[.bool ya0, .slice yp0 yl0 yd0]), .val (.pointer (some ⟨(lc2 0), 0, none⟩)), .val (.pointer (some ⟨(lc2 0), 2, none⟩)), .val (.agg #[.bool false, .slice yq0 ym0 yr0]), .k (num ((Int.gcd x y : Nat) : Int)), .val (.bool t), .val (.bool t)] [(0, 37), (1, 38), (2, 39), (3, 40), (4, 41), (5, 42), (6, 43), (7, 44), (8, 2)] hBt3.size ?st4 ?en4
    case st4 =>
     intro zi zo ho hro a' u lc W hM
     match zi, ho, hro with
     | 0, ho, _ => cases ho; exact wn (kField73_0 rfl (hM.ol 3))
     | 1, ho, _ => cases ho; exact wn (kField26_0 rfl (hM.d 0 37 rfl))
     | 2, ho, _ => cases ho; exact wn (kL24 rfl (hM.d 1 38 rfl) (hM.o0 q3_2_0) rfl)
     | 3, ho, _ => cases ho; exact wn (kField73_0 rfl (hM.ol 3))
     | 4, ho, _ => cases ho; exact wn (kField26_1 rfl (hM.d 3 40 rfl))
     | 5, ho, _ => cases ho; exact wn (kL24 rfl (hM.d 4 41 rfl) (hM.o0 q3_2_0) rfl)
     | 6, ho, _ => cases ho; exact wn (kCall2 rfl may73 (hM.d 2 39 rfl) (hM.d 5 42 rfl) (c73 HGG.out (f3_1.kept hM.kept) (f3_2.kept hM.kept)))
     | 7, ho, _ => cases ho; exact wn (kCall1 rfl may86 (hM.v 6 43 rfl) (c86 HT.out (hM.kd 6)))
     | 8, ho, _ => cases ho; exact wn (kAssign rfl (hM.d 7 44 rfl))
     | zk + 9, ho, _ => simp at ho
    case en4 =>
     intro u4 lc4 W4 hK4 hB4 hO4 hV4 hX4 hA4
     simp only [putK, fC, fN, kZ, kS, vV, vK, sI, sZ, sS]
     have hBt4 := hBt3.trans hB4
     clear hV4 hX4 hA4
     go_wp2
     exact bodyPost_ret (v := .bool t) (by simp [results, Tryz.results44, go_sem]) rfl ⟨_, rfl, rfl, hBt4⟩
theorem c44a {n1 n2 : Bool} {z1 z2 : List Int} {v0 : Value} {w : World} (hs : (decide (z1.length ≤ 256) && decide (z2.length ≤ 256)) = false) (h0 : Is (frw n1 z1 n2 z2) v0 w) : Calls Tryz.prog 44 #[v0] w (Ret (.val (.bool false)) w) := by
 obtain ⟨yp0, yl0, yd0, yq0, ym0, yr0, rfl, hL1, hL2⟩ := id h0
 have yg0 : Is (raw n1 z1) (.agg #[.bool n1, .slice yp0 yl0 yd0]) w := ⟨_, _, _, rfl, hL1⟩
 have yk0 : Is (raw n2 z2) (.agg #[.bool n2, .slice yq0 ym0 yr0]) w := ⟨_, _, _, rfl, hL2⟩
 have hm0 := hL2.cells.1
 have HS := Lib.hid hs
 clear hs
 clear hL1 hL2 hm0
 have hB0 := Below.refl w.heap.size w
 go_enter Tryz.func44, Tryz.ntmps44
 go_upto_region 0 with fail
 refine rg (n := 9) (t16 := 48) w.heap.size [] [.any, vF] [(0, 1), (1, 2)] [⟨26, some 0, 0, pt, 4, [.c #[.bool n1, .slice yp0 yl0 yd0, .bool n2, .slice yq0 ym0 yr0]], []⟩] ?ok1 ?st1 ?al1 ?pu1 ?en1
 case ok1 => exact BxOK.fresh rfl hB0.size
 case st1 =>
  intro zi zo ho hro a' u lc W hM
  match zi, ho, hro with
  | 0, _, hro => exact nr1 hro (by kernel_rfl)
  | 1, ho, _ => cases ho; exact wn (kAssign rfl rfl)
  | zk + 2, ho, _ => simp at ho
 case al1 =>
  intro zk zb zi zo hk ha ho a' u lc W hM
  match zk, hk with
  | 0, hk => cases hk; cases ha; cases ho; exact ⟨rfl, rfl, rfl, rfl, kBox rfl (hM.ol 0)⟩
  | zk + 1, hk => simp at hk
 case pu1 =>
  intro zk zb zs zo hk hs ho a' u lc W zc hM hc hcs
  match zk, hk with
  | 0, hk => cases hk; simp at hs
  | zk + 1, hk => simp at hk
 case en1 =>
  intro u1 lc1 W1 hK1 hB1 hO1 hV1 hX1 hA1
  obtain ⟨qr, ho, hl⟩ := hX1 0 _ rfl
  have e1_0 : u1 0 = .pointer (some ⟨lc1 0, 0, none⟩) := (hl 0 rfl).1
  have g1_0 := (hl 0 rfl).2
  have f1_0 := h0.kept hK1
  have q1_0 : W1.heap[(lc1 0)]? = some (.cells #[.bool n1, .slice yp0 yl0 yd0, .bool n2, .slice yq0 ym0 yr0] 26) := by
   exact qr
  simp only [putK, fC, fN, kZ, kS, vV, vA, sI, sZ, sS, e1_0]
  have hBt1 := hB0.trans hB1
  clear hV1 hX1 hA1
  go_upto_region 1 with fail
  refine rg (n := 9) (t16 := 48) w.heap.size [] [.val (.agg #[.bool n1, .slice yp0 yl0 yd0, .bool n2, .slice yq0 ym0 yr0]), .val (.agg #[.bool n1, .slice yp0 yl0 yd0, .bool n2, .slice yq0 ym0 yr0]), .any, .any] [(0, 4), (1, 5), (2, 3)] [⟨73, some 2, 0, pt, 4, [.c #[.bool false, .slice none 0 0, .bool false, .slice none 0 0]], [(3, 0, 1)]⟩] ?ok2 ?st2 ?al2 ?pu2 ?en2
  case ok2 => exact BxOK.fresh rfl hBt1.size
  case st2 =>
   intro zi zo ho hro a' u lc W hM
   match zi, ho, hro with
   | 0, ho, _ => cases ho; exact wn (kL26 rfl (hM.ol 1) (hM.o0 q1_0))
   | 1, ho, _ => cases ho; exact wn (kBuild73 rfl (hM.d 0 4 rfl) rfl)
   | 2, _, hro => exact nr1 hro (by kernel_rfl)
   | 3, _, hro => exact nr1 hro (by kernel_rfl)
   | zk + 4, ho, _ => simp at ho
  case al2 =>
   intro zk zb zi zo hk ha ho a' u lc W hM
   match zk, hk with
   | 0, hk => cases hk; cases ha; cases ho; exact ⟨rfl, rfl, rfl, rfl, kAlloc73 rfl⟩
   | zk + 1, hk => simp at hk
  case pu2 =>
   intro zk zb zs zo hk hs ho a' u lc W zc hM hc hcs
   match zk, hk with
   | 0, hk =>
    cases hk
    simp only [List.mem_cons, List.not_mem_nil, or_false] at hs
    rcases hs with rfl
    · cases ho
      have e : u 1 = .agg #[.bool n1, .slice yp0 yl0 yd0, .bool n2, .slice yq0 ym0 yr0] := hM.kd 1
      exact kPut rfl e ((hM.v 2 3 rfl).trans (hM.loc 0 _ 2 rfl rfl (by kernel_rfl))) (hM.v 1 5 rfl) hc hcs sz73
   | zk + 1, hk => simp at hk
  case en2 =>
   intro u2 lc2 W2 hK2 hB2 hO2 hV2 hX2 hA2
   have e2_1 := kv (hV2 1 5 rfl) rfl
   obtain ⟨qr, ho, hl⟩ := hX2 0 _ rfl
   have e2_2 : u2 2 = .pointer (some ⟨lc2 0, 0, none⟩) := (hl 2 rfl).1
   have g2_0 := (hl 2 rfl).2
   have f2_0 := f1_0.kept hK2
   have q2_0 : W2.heap[(lc2 0)]? = some (.cells #[.bool n1, .slice yp0 yl0 yd0, .bool n2, .slice yq0 ym0 yr0] 73) := by
    rw [contAll_one rfl (cs := #[.bool n1, .slice yp0 yl0 yd0, .bool n2, .slice yq0 ym0 yr0]) (by rw [e2_1]; rfl) rfl] at qr; exact qr
   simp only [putK, fC, fN, kZ, kS, vV, vA, sI, sZ, sS, e2_2]
   have hBt2 := hBt1.trans hB2
   clear hV2 hX2 hA2
   go_upto_region 2 with fail
   refine rg0 (n := 9) (t16 := 48) w.heap.size [.val (.agg #[.bool n1, .slice yp0 yl0 yd0, .bool n2, .slice yq0 ym0 yr0]), vF, vT, vT, .any, .any, .any, .any, .any, vT, vT, .any, .any, .any, .any, .any, vT, vT, .any, .any, .any, .any, vT, vT, .any, .any, .any, .any, .any, .any, vT] [(0, 6), (1, 7), (2, 8), (3, 9), (4, 10), (5, 11), (6, 12), (7, 13), (8, 14), (9, 15), (10, 16), (11, 17), (12, 18), (13, 19), (14, 20), (15, 21), (16, 22), (17, 23), (18, 24), (19, 25), (20, 26), (21, 27), (22, 28), (23, 29), (24, 30), (25, 31), (26, 32), (27, 33), (28, 34), (29, 35), (30, 36)] hBt2.size ?st3 ?en3
   case st3 =>
    intro zi zo ho hro a' u lc W hM
    match zi, ho, hro with
    | 0, ho, _ => cases ho; exact wn (kLoad (rs := [.bool n1, .slice yp0 yl0 yd0, .bool n2, .slice yq0 ym0 yr0]) Tryz.underlying73 rfl sz73 rfl (hM.ol 3) (hM.o0 q2_0) rfl rfl)
    | 1, ho, _ => cases ho; exact wn (kCall1 rfl may87 (hM.d 0 6 rfl) (c87r HS.out (f2_0.kept hM.kept)))
    | 2, ho, _ => cases ho; exact wn (kNot rfl (hM.d 1 7 rfl) rfl)
    | 3, ho, _ => cases ho; exact wn (kMove rfl (hM.d 2 8 rfl))
    | 4, ho, _ => cases ho; exact hM.wz (hM.d 3 9 rfl)
    | 5, ho, _ => cases ho; exact hM.wz (hM.d 3 9 rfl)
    | 6, ho, _ => cases ho; exact hM.wz (hM.d 3 9 rfl)
    | 7, ho, _ => cases ho; exact hM.wz (hM.d 3 9 rfl)
    | 8, ho, _ => cases ho; exact hM.wz (hM.d 3 9 rfl)
    | 9, ho, _ => cases ho; exact wn (kPick rfl (hM.d 3 9 rfl) rfl)
    | 10, ho, _ => cases ho; exact wn (kMove rfl (hM.d 9 15 rfl))
    | 11, ho, _ => cases ho; exact hM.wz (hM.d 10 16 rfl)
    | 12, ho, _ => cases ho; exact hM.wz (hM.d 10 16 rfl)
    | 13, ho, _ => cases ho; exact hM.wz (hM.d 10 16 rfl)
    | 14, ho, _ => cases ho; exact hM.wz (hM.d 10 16 rfl)
    | 15, ho, _ => cases ho; exact hM.wz (hM.d 10 16 rfl)
    | 16, ho, _ => cases ho; exact wn (kPick rfl (hM.d 10 16 rfl) rfl)
    | 17, ho, _ => cases ho; exact wn (kMove rfl (hM.d 16 22 rfl))
    | 18, ho, _ => cases ho; exact hM.wz (hM.d 17 23 rfl)
    | 19, ho, _ => cases ho; exact hM.wz (hM.d 17 23 rfl)
    | 20, ho, _ => cases ho; exact hM.wz (hM.d 17 23 rfl)
    | 21, ho, _ => cases ho; exact hM.wz (hM.d 17 23 rfl)
    | 22, ho, _ => cases ho; exact wn (kPick rfl (hM.d 17 23 rfl) rfl)
    | 23, ho, _ => cases ho; exact wn (kMove rfl (hM.d 22 28 rfl))
    | 24, ho, _ => cases ho; exact hM.wz (hM.d 23 29 rfl)
    | 25, ho, _ => cases ho; exact hM.wz (hM.d 23 29 rfl)
    | 26, ho, _ => cases ho; exact hM.wz (hM.d 23 29 rfl)
    | 27, ho, _ => cases ho; exact hM.wz (hM.d 23 29 rfl)
    | 28, ho, _ => cases ho; exact hM.wz (hM.d 23 29 rfl)
    | 29, ho, _ => cases ho; exact hM.wz (hM.d 23 29 rfl)
    | 30, ho, _ => cases ho; exact wn (kPick rfl (hM.d 23 29 rfl) rfl)
    | zk + 31, ho, _ => simp at ho
   case en3 =>
    intro u3 lc3 W3 hK3 hB3 hO3 hV3 hX3 hA3
    simp only [putK, fC, fN, kZ, kS, vV, vA, sI, sZ, sS]
    have hBt3 := hBt2.trans hB3
    clear hV3 hX3 hA3
    go_upto_region 3 with fail
    refine rg0 (n := 9) (t16 := 48) w.heap.size [vF] [(0, 2)] hBt3.size ?st4 ?en4
    case st4 =>
     intro zi zo ho hro a' u lc W hM
     match zi, ho, hro with
     | 0, ho, _ => cases ho; exact wn (kAssign rfl rfl)
     | zk + 1, ho, _ => simp at ho
    case en4 =>
     intro u4 lc4 W4 hK4 hB4 hO4 hV4 hX4 hA4
     simp only [putK, fC, fN, kZ, vV, sI, sZ, sS]
     have hBt4 := hBt3.trans hB4
     clear hV4 hX4 hA4
     go_wp2
     exact bodyPost_ret (v := .bool false) (by simp [results, Tryz.results44, go_sem]) rfl ⟨_, rfl, rfl, hBt4⟩
theorem c44b {n1 n2 : Bool} {z1 z2 : List Int} {v0 : Value} {w : World} (hs : (decide (z1.length ≤ 256) && decide (z2.length ≤ 256)) = true) (h1 : okB n1 z1 = false) (h0 : Is (frw n1 z1 n2 z2) v0 w) : Calls Tryz.prog 44 #[v0] w (Ret (.val (.bool false)) w) := by
 obtain ⟨yp0, yl0, yd0, yq0, ym0, yr0, rfl, hL1, hL2⟩ := id h0
 have yg0 : Is (raw n1 z1) (.agg #[.bool n1, .slice yp0 yl0 yd0]) w := ⟨_, _, _, rfl, hL1⟩
 have yk0 : Is (raw n2 z2) (.agg #[.bool n2, .slice yq0 ym0 yr0]) w := ⟨_, _, _, rfl, hL2⟩
 have hm0 := hL2.cells.1
 have hl1 : z1.length ≤ 140737488355328 := by simp at hs; omega
 have hl2 : z2.length ≤ 140737488355328 := by simp at hs; omega
 have HS := Lib.hid hs
 have H1 := Lib.hid h1
 have HL1 := Lib.hid hl1
 clear hs h1 hl1
 clear hl2
 clear hL1 hL2 hm0
 have hB0 := Below.refl w.heap.size w
 go_enter Tryz.func44, Tryz.ntmps44
 go_upto_region 0 with fail
 refine rg (n := 9) (t16 := 48) w.heap.size [] [.any, vF] [(0, 1), (1, 2)] [⟨26, some 0, 0, pt, 4, [.c #[.bool n1, .slice yp0 yl0 yd0, .bool n2, .slice yq0 ym0 yr0]], []⟩] ?ok1 ?st1 ?al1 ?pu1 ?en1
 case ok1 => exact BxOK.fresh rfl hB0.size
 case st1 =>
  intro zi zo ho hro a' u lc W hM
  match zi, ho, hro with
  | 0, _, hro => exact nr1 hro (by kernel_rfl)
  | 1, ho, _ => cases ho; exact wn (kAssign rfl rfl)
  | zk + 2, ho, _ => simp at ho
 case al1 =>
  intro zk zb zi zo hk ha ho a' u lc W hM
  match zk, hk with
  | 0, hk => cases hk; cases ha; cases ho; exact ⟨rfl, rfl, rfl, rfl, kBox rfl (hM.ol 0)⟩
  | zk + 1, hk => simp at hk
 case pu1 =>
  intro zk zb zs zo hk hs ho a' u lc W zc hM hc hcs
  match zk, hk with
  | 0, hk => cases hk; simp at hs
  | zk + 1, hk => simp at hk
 case en1 =>
  intro u1 lc1 W1 hK1 hB1 hO1 hV1 hX1 hA1
  obtain ⟨qr, ho, hl⟩ := hX1 0 _ rfl
  have e1_0 : u1 0 = .pointer (some ⟨lc1 0, 0, none⟩) := (hl 0 rfl).1
  have g1_0 := (hl 0 rfl).2
  have f1_0 := h0.kept hK1
  have f1_1 := yg0.kept hK1
  have q1_0 : W1.heap[(lc1 0)]? = some (.cells #[.bool n1, .slice yp0 yl0 yd0, .bool n2, .slice yq0 ym0 yr0] 26) := by
   exact qr
  simp only [putK, fC, fN, kZ, kS, vV, vA, sI, sZ, sS, e1_0]
  have hBt1 := hB0.trans hB1
  clear hV1 hX1 hA1
  go_upto_region 1 with fail
  refine rg (n := 9) (t16 := 48) w.heap.size [] [.val (.agg #[.bool n1, .slice yp0 yl0 yd0, .bool n2, .slice yq0 ym0 yr0]), .val (.agg #[.bool n1, .slice yp0 yl0 yd0, .bool n2, .slice yq0 ym0 yr0]), .any, .any] [(0, 4), (1, 5), (2, 3)] [⟨73, some 2, 0, pt, 4, [.c #[.bool false, .slice none 0 0, .bool false, .slice none 0 0]], [(3, 0, 1)]⟩] ?ok2 ?st2 ?al2 ?pu2 ?en2
  case ok2 => exact BxOK.fresh rfl hBt1.size
  case st2 =>
   intro zi zo ho hro a' u lc W hM
   match zi, ho, hro with
   | 0, ho, _ => cases ho; exact wn (kL26 rfl (hM.ol 1) (hM.o0 q1_0))
   | 1, ho, _ => cases ho; exact wn (kBuild73 rfl (hM.d 0 4 rfl) rfl)
   | 2, _, hro => exact nr1 hro (by kernel_rfl)
   | 3, _, hro => exact nr1 hro (by kernel_rfl)
   | zk + 4, ho, _ => simp at ho
  case al2 =>
   intro zk zb zi zo hk ha ho a' u lc W hM
   match zk, hk with
   | 0, hk => cases hk; cases ha; cases ho; exact ⟨rfl, rfl, rfl, rfl, kAlloc73 rfl⟩
   | zk + 1, hk => simp at hk
  case pu2 =>
   intro zk zb zs zo hk hs ho a' u lc W zc hM hc hcs
   match zk, hk with
   | 0, hk =>
    cases hk
    simp only [List.mem_cons, List.not_mem_nil, or_false] at hs
    rcases hs with rfl
    · cases ho
      have e : u 1 = .agg #[.bool n1, .slice yp0 yl0 yd0, .bool n2, .slice yq0 ym0 yr0] := hM.kd 1
      exact kPut rfl e ((hM.v 2 3 rfl).trans (hM.loc 0 _ 2 rfl rfl (by kernel_rfl))) (hM.v 1 5 rfl) hc hcs sz73
   | zk + 1, hk => simp at hk
  case en2 =>
   intro u2 lc2 W2 hK2 hB2 hO2 hV2 hX2 hA2
   have e2_1 := kv (hV2 1 5 rfl) rfl
   obtain ⟨qr, ho, hl⟩ := hX2 0 _ rfl
   have e2_2 : u2 2 = .pointer (some ⟨lc2 0, 0, none⟩) := (hl 2 rfl).1
   have g2_0 := (hl 2 rfl).2
   have f2_0 := f1_0.kept hK2
   have f2_1 := f1_1.kept hK2
   have q2_0 : W2.heap[(lc2 0)]? = some (.cells #[.bool n1, .slice yp0 yl0 yd0, .bool n2, .slice yq0 ym0 yr0] 73) := by
    rw [contAll_one rfl (cs := #[.bool n1, .slice yp0 yl0 yd0, .bool n2, .slice yq0 ym0 yr0]) (by rw [e2_1]; rfl) rfl] at qr; exact qr
   simp only [putK, fC, fN, kZ, kS, vV, vA, sI, sZ, sS, e2_2]
   have hBt2 := hBt1.trans hB2
   clear hV2 hX2 hA2
   go_upto_region 2 with fail
   refine rg0 (n := 9) (t16 := 48) w.heap.size [.val (.agg #[.bool n1, .slice yp0 yl0 yd0, .bool n2, .slice yq0 ym0 yr0]), vT, vF, vF, .val (.pointer (some ⟨(lc2 0), 0, none⟩)), .val (.pointer (some ⟨(lc2 0), 0, none⟩)), .val (.agg #[.bool n1, .slice yp0 yl0 yd0]), vF, vT, vT, vT, .any, .any, .any, .any, .any, vT, vT, .any, .any, .any, .any, vT, vT, .any, .any, .any, .any, .any, .any, vT] [(0, 6), (1, 7), (2, 8), (3, 9), (4, 10), (5, 11), (6, 12), (7, 13), (8, 14), (9, 15), (10, 16), (11, 17), (12, 18), (13, 19), (14, 20), (15, 21), (16, 22), (17, 23), (18, 24), (19, 25), (20, 26), (21, 27), (22, 28), (23, 29), (24, 30), (25, 31), (26, 32), (27, 33), (28, 34), (29, 35), (30, 36)] hBt2.size ?st3 ?en3
   case st3 =>
    intro zi zo ho hro a' u lc W hM
    match zi, ho, hro with
    | 0, ho, _ => cases ho; exact wn (kLoad (rs := [.bool n1, .slice yp0 yl0 yd0, .bool n2, .slice yq0 ym0 yr0]) Tryz.underlying73 rfl sz73 rfl (hM.ol 3) (hM.o0 q2_0) rfl rfl)
    | 1, ho, _ => cases ho; exact wn (kCall1 rfl may87 (hM.d 0 6 rfl) (c87r HS.out (f2_0.kept hM.kept)))
    | 2, ho, _ => cases ho; exact wn (kNot rfl (hM.d 1 7 rfl) rfl)
    | 3, ho, _ => cases ho; exact wn (kMove rfl (hM.d 2 8 rfl))
    | 4, ho, _ => cases ho; exact hM.wg (hM.d 3 9 rfl) (kField73_0 rfl (hM.ol 3))
    | 5, ho, _ => cases ho; exact hM.wg (hM.d 3 9 rfl) (kField26_0 rfl (hM.d 4 10 rfl))
    | 6, ho, _ => cases ho; exact hM.wg (hM.d 3 9 rfl) (kL24 rfl (hM.d 5 11 rfl) (hM.o0 q2_0) rfl)
    | 7, ho, _ => cases ho; exact hM.wg (hM.d 3 9 rfl) (kCall1 rfl may43 (hM.d 6 12 rfl) (c43 HL1.out H1.out (f2_1.kept hM.kept)))
    | 8, ho, _ => cases ho; exact hM.wg (hM.d 3 9 rfl) (kNot rfl (hM.d 7 13 rfl) rfl)
    | 9, ho, _ => cases ho; exact wn (kPick rfl (hM.d 3 9 rfl) (hM.d 8 14 rfl))
    | 10, ho, _ => cases ho; exact wn (kMove rfl (hM.d 9 15 rfl))
    | 11, ho, _ => cases ho; exact hM.wz (hM.d 10 16 rfl)
    | 12, ho, _ => cases ho; exact hM.wz (hM.d 10 16 rfl)
    | 13, ho, _ => cases ho; exact hM.wz (hM.d 10 16 rfl)
    | 14, ho, _ => cases ho; exact hM.wz (hM.d 10 16 rfl)
    | 15, ho, _ => cases ho; exact hM.wz (hM.d 10 16 rfl)
    | 16, ho, _ => cases ho; exact wn (kPick rfl (hM.d 10 16 rfl) rfl)
    | 17, ho, _ => cases ho; exact wn (kMove rfl (hM.d 16 22 rfl))
    | 18, ho, _ => cases ho; exact hM.wz (hM.d 17 23 rfl)
    | 19, ho, _ => cases ho; exact hM.wz (hM.d 17 23 rfl)
    | 20, ho, _ => cases ho; exact hM.wz (hM.d 17 23 rfl)
    | 21, ho, _ => cases ho; exact hM.wz (hM.d 17 23 rfl)
    | 22, ho, _ => cases ho; exact wn (kPick rfl (hM.d 17 23 rfl) rfl)
    | 23, ho, _ => cases ho; exact wn (kMove rfl (hM.d 22 28 rfl))
    | 24, ho, _ => cases ho; exact hM.wz (hM.d 23 29 rfl)
    | 25, ho, _ => cases ho; exact hM.wz (hM.d 23 29 rfl)
    | 26, ho, _ => cases ho; exact hM.wz (hM.d 23 29 rfl)
    | 27, ho, _ => cases ho; exact hM.wz (hM.d 23 29 rfl)
    | 28, ho, _ => cases ho; exact hM.wz (hM.d 23 29 rfl)
    | 29, ho, _ => cases ho; exact hM.wz (hM.d 23 29 rfl)
    | 30, ho, _ => cases ho; exact wn (kPick rfl (hM.d 23 29 rfl) rfl)
    | zk + 31, ho, _ => simp at ho
   case en3 =>
    intro u3 lc3 W3 hK3 hB3 hO3 hV3 hX3 hA3
    simp only [putK, fC, fN, kZ, kS, vV, vA, sI, sZ, sS]
    have hBt3 := hBt2.trans hB3
    clear hV3 hX3 hA3
    go_upto_region 3 with fail
    refine rg0 (n := 9) (t16 := 48) w.heap.size [vF] [(0, 2)] hBt3.size ?st4 ?en4
    case st4 =>
     intro zi zo ho hro a' u lc W hM
     match zi, ho, hro with
     | 0, ho, _ => cases ho; exact wn (kAssign rfl rfl)
     | zk + 1, ho, _ => simp at ho
    case en4 =>
     intro u4 lc4 W4 hK4 hB4 hO4 hV4 hX4 hA4
     simp only [putK, fC, fN, kZ, vV, sI, sZ, sS]
     have hBt4 := hBt3.trans hB4
     clear hV4 hX4 hA4
     go_wp2
     exact bodyPost_ret (v := .bool false) (by simp [results, Tryz.results44, go_sem]) rfl ⟨_, rfl, rfl, hBt4⟩
theorem c44c {n1 n2 : Bool} {z1 z2 : List Int} {v0 : Value} {w : World} (hs : (decide (z1.length ≤ 256) && decide (z2.length ≤ 256)) = true) (h1 : okB n1 z1 = true) (h2 : okB n2 z2 = false) (h0 : Is (frw n1 z1 n2 z2) v0 w) : Calls Tryz.prog 44 #[v0] w (Ret (.val (.bool false)) w) := by
 obtain ⟨yp0, yl0, yd0, yq0, ym0, yr0, rfl, hL1, hL2⟩ := id h0
 have yg0 : Is (raw n1 z1) (.agg #[.bool n1, .slice yp0 yl0 yd0]) w := ⟨_, _, _, rfl, hL1⟩
 have yk0 : Is (raw n2 z2) (.agg #[.bool n2, .slice yq0 ym0 yr0]) w := ⟨_, _, _, rfl, hL2⟩
 have hm0 := hL2.cells.1
 have hl1 : z1.length ≤ 140737488355328 := by simp at hs; omega
 have hl2 : z2.length ≤ 140737488355328 := by simp at hs; omega
 have HS := Lib.hid hs
 have H1 := Lib.hid h1
 have H2 := Lib.hid h2
 have HL1 := Lib.hid hl1
 have HL2 := Lib.hid hl2
 clear hs h1 h2 hl1 hl2
 clear hL1 hL2 hm0
 have hB0 := Below.refl w.heap.size w
 go_enter Tryz.func44, Tryz.ntmps44
 go_upto_region 0 with fail
 refine rg (n := 9) (t16 := 48) w.heap.size [] [.any, vF] [(0, 1), (1, 2)] [⟨26, some 0, 0, pt, 4, [.c #[.bool n1, .slice yp0 yl0 yd0, .bool n2, .slice yq0 ym0 yr0]], []⟩] ?ok1 ?st1 ?al1 ?pu1 ?en1
 case ok1 => exact BxOK.fresh rfl hB0.size
 case st1 =>
  intro zi zo ho hro a' u lc W hM
  match zi, ho, hro with
  | 0, _, hro => exact nr1 hro (by kernel_rfl)
  | 1, ho, _ => cases ho; exact wn (kAssign rfl rfl)
  | zk + 2, ho, _ => simp at ho
 case al1 =>
  intro zk zb zi zo hk ha ho a' u lc W hM
  match zk, hk with
  | 0, hk => cases hk; cases ha; cases ho; exact ⟨rfl, rfl, rfl, rfl, kBox rfl (hM.ol 0)⟩
  | zk + 1, hk => simp at hk
 case pu1 =>
  intro zk zb zs zo hk hs ho a' u lc W zc hM hc hcs
  match zk, hk with
  | 0, hk => cases hk; simp at hs
  | zk + 1, hk => simp at hk
 case en1 =>
  intro u1 lc1 W1 hK1 hB1 hO1 hV1 hX1 hA1
  obtain ⟨qr, ho, hl⟩ := hX1 0 _ rfl
  have e1_0 : u1 0 = .pointer (some ⟨lc1 0, 0, none⟩) := (hl 0 rfl).1
  have g1_0 := (hl 0 rfl).2
  have f1_0 := h0.kept hK1
  have f1_1 := yg0.kept hK1
  have f1_2 := yk0.kept hK1
  have q1_0 : W1.heap[(lc1 0)]? = some (.cells #[.bool n1, .slice yp0 yl0 yd0, .bool n2, .slice yq0 ym0 yr0] 26) := by
   exact qr
  simp only [putK, fC, fN, kZ, kS, vV, vA, sI, sZ, sS, e1_0]
  have hBt1 := hB0.trans hB1
  clear hV1 hX1 hA1
  go_upto_region 1 with fail
  refine rg (n := 9) (t16 := 48) w.heap.size [] [.val (.agg #[.bool n1, .slice yp0 yl0 yd0, .bool n2, .slice yq0 ym0 yr0]), .val (.agg #[.bool n1, .slice yp0 yl0 yd0, .bool n2, .slice yq0 ym0 yr0]), .any, .any] [(0, 4), (1, 5), (2, 3)] [⟨73, some 2, 0, pt, 4, [.c #[.bool false, .slice none 0 0, .bool false, .slice none 0 0]], [(3, 0, 1)]⟩] ?ok2 ?st2 ?al2 ?pu2 ?en2
  case ok2 => exact BxOK.fresh rfl hBt1.size
  case st2 =>
   intro zi zo ho hro a' u lc W hM
   match zi, ho, hro with
   | 0, ho, _ => cases ho; exact wn (kL26 rfl (hM.ol 1) (hM.o0 q1_0))
   | 1, ho, _ => cases ho; exact wn (kBuild73 rfl (hM.d 0 4 rfl) rfl)
   | 2, _, hro => exact nr1 hro (by kernel_rfl)
   | 3, _, hro => exact nr1 hro (by kernel_rfl)
   | zk + 4, ho, _ => simp at ho
  case al2 =>
   intro zk zb zi zo hk ha ho a' u lc W hM
   match zk, hk with
   | 0, hk => cases hk; cases ha; cases ho; exact ⟨rfl, rfl, rfl, rfl, kAlloc73 rfl⟩
   | zk + 1, hk => simp at hk
  case pu2 =>
   intro zk zb zs zo hk hs ho a' u lc W zc hM hc hcs
   match zk, hk with
   | 0, hk =>
    cases hk
    simp only [List.mem_cons, List.not_mem_nil, or_false] at hs
    rcases hs with rfl
    · cases ho
      have e : u 1 = .agg #[.bool n1, .slice yp0 yl0 yd0, .bool n2, .slice yq0 ym0 yr0] := hM.kd 1
      exact kPut rfl e ((hM.v 2 3 rfl).trans (hM.loc 0 _ 2 rfl rfl (by kernel_rfl))) (hM.v 1 5 rfl) hc hcs sz73
   | zk + 1, hk => simp at hk
  case en2 =>
   intro u2 lc2 W2 hK2 hB2 hO2 hV2 hX2 hA2
   have e2_1 := kv (hV2 1 5 rfl) rfl
   obtain ⟨qr, ho, hl⟩ := hX2 0 _ rfl
   have e2_2 : u2 2 = .pointer (some ⟨lc2 0, 0, none⟩) := (hl 2 rfl).1
   have g2_0 := (hl 2 rfl).2
   have f2_0 := f1_0.kept hK2
   have f2_1 := f1_1.kept hK2
   have f2_2 := f1_2.kept hK2
   have q2_0 : W2.heap[(lc2 0)]? = some (.cells #[.bool n1, .slice yp0 yl0 yd0, .bool n2, .slice yq0 ym0 yr0] 73) := by
    rw [contAll_one rfl (cs := #[.bool n1, .slice yp0 yl0 yd0, .bool n2, .slice yq0 ym0 yr0]) (by rw [e2_1]; rfl) rfl] at qr; exact qr
   simp only [putK, fC, fN, kZ, kS, vV, vA, sI, sZ, sS, e2_2]
   have hBt2 := hBt1.trans hB2
   clear hV2 hX2 hA2
   go_upto_region 2 with fail
   refine rg0 (n := 9) (t16 := 48) w.heap.size [.val (.agg #[.bool n1, .slice yp0 yl0 yd0, .bool n2, .slice yq0 ym0 yr0]), vT, vF, vF, .val (.pointer (some ⟨(lc2 0), 0, none⟩)), .val (.pointer (some ⟨(lc2 0), 0, none⟩)), .val (.agg #[.bool n1, .slice yp0 yl0 yd0]), vT, vF, vF, vF, .val (.pointer (some ⟨(lc2 0), 0, none⟩)), .val (.pointer (some ⟨(lc2 0), 2, none⟩)), .val (.agg #[.bool n2, .slice yq0 ym0 yr0]), vF, vT, vT, vT, .any, .any, .any, .any, vT, vT, .any, .any, .any, .any, .any, .any, vT] [(0, 6), (1, 7), (2, 8), (3, 9), (4, 10), (5, 11), (6, 12), (7, 13), (8, 14), (9, 15), (10, 16), (11, 17), (12, 18), (13, 19), (14, 20), (15, 21), (16, 22), (17, 23), (18, 24), (19, 25), (20, 26), (21, 27), (22, 28), (23, 29), (24, 30), (25, 31), (26, 32), (27, 33), (28, 34), (29, 35), (30, 36)] hBt2.size ?st3 ?en3
   case st3 =>
    intro zi zo ho hro a' u lc W hM
    match zi, ho, hro with
    | 0, ho, _ => cases ho; exact wn (kLoad (rs := [.bool n1, .slice yp0 yl0 yd0, .bool n2, .slice yq0 ym0 yr0]) Tryz.underlying73 rfl sz73 rfl (hM.ol 3) (hM.o0 q2_0) rfl rfl)
    | 1, ho, _ => cases ho; exact wn (kCall1 rfl may87 (hM.d 0 6 rfl) (c87r HS.out (f2_0.kept hM.kept)))
    | 2, ho, _ => cases ho; exact wn (kNot rfl (hM.d 1 7 rfl) rfl)
    | 3, ho, _ => cases ho; exact wn (kMove rfl (hM.d 2 8 rfl))
    | 4, ho, _ => cases ho; exact hM.wg (hM.d 3 9 rfl) (kField73_0 rfl (hM.ol 3))
    | 5, ho, _ => cases ho; exact hM.wg (hM.d 3 9 rfl) (kField26_0 rfl (hM.d 4 10 rfl))
    | 6, ho, _ => cases ho; exact hM.wg (hM.d 3 9 rfl) (kL24 rfl (hM.d 5 11 rfl) (hM.o0 q2_0) rfl)
    | 7, ho, _ => cases ho; exact hM.wg (hM.d 3 9 rfl) (kCall1 rfl may43 (hM.d 6 12 rfl) (c43 HL1.out H1.out (f2_1.kept hM.kept)))
    | 8, ho, _ => cases ho; exact hM.wg (hM.d 3 9 rfl) (kNot rfl (hM.d 7 13 rfl) rfl)
    | 9, ho, _ => cases ho; exact wn (kPick rfl (hM.d 3 9 rfl) (hM.d 8 14 rfl))
    | 10, ho, _ => cases ho; exact wn (kMove rfl (hM.d 9 15 rfl))
    | 11, ho, _ => cases ho; exact hM.wg (hM.d 10 16 rfl) (kField73_0 rfl (hM.ol 3))
    | 12, ho, _ => cases ho; exact hM.wg (hM.d 10 16 rfl) (kField26_1 rfl (hM.d 11 17 rfl))
    | 13, ho, _ => cases ho; exact hM.wg (hM.d 10 16 rfl) (kL24 rfl (hM.d 12 18 rfl) (hM.o0 q2_0) rfl)
    | 14, ho, _ => cases ho; exact hM.wg (hM.d 10 16 rfl) (kCall1 rfl may43 (hM.d 13 19 rfl) (c43 HL2.out H2.out (f2_2.kept hM.kept)))
    | 15, ho, _ => cases ho; exact hM.wg (hM.d 10 16 rfl) (kNot rfl (hM.d 14 20 rfl) rfl)
    | 16, ho, _ => cases ho; exact wn (kPick rfl (hM.d 10 16 rfl) (hM.d 15 21 rfl))
    | 17, ho, _ => cases ho; exact wn (kMove rfl (hM.d 16 22 rfl))
    | 18, ho, _ => cases ho; exact hM.wz (hM.d 17 23 rfl)
    | 19, ho, _ => cases ho; exact hM.wz (hM.d 17 23 rfl)
    | 20, ho, _ => cases ho; exact hM.wz (hM.d 17 23 rfl)
    | 21, ho, _ => cases ho; exact hM.wz (hM.d 17 23 rfl)
    | 22, ho, _ => cases ho; exact wn (kPick rfl (hM.d 17 23 rfl) rfl)
    | 23, ho, _ => cases ho; exact wn (kMove rfl (hM.d 22 28 rfl))
    | 24, ho, _ => cases ho; exact hM.wz (hM.d 23 29 rfl)
    | 25, ho, _ => cases ho; exact hM.wz (hM.d 23 29 rfl)
    | 26, ho, _ => cases ho; exact hM.wz (hM.d 23 29 rfl)
    | 27, ho, _ => cases ho; exact hM.wz (hM.d 23 29 rfl)
    | 28, ho, _ => cases ho; exact hM.wz (hM.d 23 29 rfl)
    | 29, ho, _ => cases ho; exact hM.wz (hM.d 23 29 rfl)
    | 30, ho, _ => cases ho; exact wn (kPick rfl (hM.d 23 29 rfl) rfl)
    | zk + 31, ho, _ => simp at ho
   case en3 =>
    intro u3 lc3 W3 hK3 hB3 hO3 hV3 hX3 hA3
    simp only [putK, fC, fN, kZ, kS, vV, vA, sI, sZ, sS]
    have hBt3 := hBt2.trans hB3
    clear hV3 hX3 hA3
    go_upto_region 3 with fail
    refine rg0 (n := 9) (t16 := 48) w.heap.size [vF] [(0, 2)] hBt3.size ?st4 ?en4
    case st4 =>
     intro zi zo ho hro a' u lc W hM
     match zi, ho, hro with
     | 0, ho, _ => cases ho; exact wn (kAssign rfl rfl)
     | zk + 1, ho, _ => simp at ho
    case en4 =>
     intro u4 lc4 W4 hK4 hB4 hO4 hV4 hX4 hA4
     simp only [putK, fC, fN, kZ, vV, sI, sZ, sS]
     have hBt4 := hBt3.trans hB4
     clear hV4 hX4 hA4
     go_wp2
     exact bodyPost_ret (v := .bool false) (by simp [results, Tryz.results44, go_sem]) rfl ⟨_, rfl, rfl, hBt4⟩
theorem c44d {n1 : Bool} {z1 z2 : List Int} {v0 : Value} {w : World} (hs : (decide (z1.length ≤ 256) && decide (z2.length ≤ 256)) = true) (h1 : okB n1 z1 = true) (h2 : okB true z2 = true) (h0 : Is (frw n1 z1 true z2) v0 w) : Calls Tryz.prog 44 #[v0] w (Ret (.val (.bool false)) w) := by
 obtain ⟨yp0, yl0, yd0, yq0, ym0, yr0, rfl, hL1, hL2⟩ := id h0
 have yg0 : Is (raw n1 z1) (.agg #[.bool n1, .slice yp0 yl0 yd0]) w := ⟨_, _, _, rfl, hL1⟩
 have yk0 : Is (raw true z2) (.agg #[.bool true, .slice yq0 ym0 yr0]) w := ⟨_, _, _, rfl, hL2⟩
 have hm0 := hL2.cells.1
 have hl1 : z1.length ≤ 140737488355328 := by simp at hs; omega
 have hl2 : z2.length ≤ 140737488355328 := by simp at hs; omega
 have HS := Lib.hid hs
 have H1 := Lib.hid h1
 have H2 := Lib.hid h2
 have HL1 := Lib.hid hl1
 have HL2 := Lib.hid hl2
 clear hs h1 h2 hl1 hl2
 clear hL1 hL2 hm0
 have hB0 := Below.refl w.heap.size w
 go_enter Tryz.func44, Tryz.ntmps44
 go_upto_region 0 with fail
 refine rg (n := 9) (t16 := 48) w.heap.size [] [.any, vF] [(0, 1), (1, 2)] [⟨26, some 0, 0, pt, 4, [.c #[.bool n1, .slice yp0 yl0 yd0, .bool true, .slice yq0 ym0 yr0]], []⟩] ?ok1 ?st1 ?al1 ?pu1 ?en1
 case ok1 => exact BxOK.fresh rfl hB0.size
 case st1 =>
  intro zi zo ho hro a' u lc W hM
  match zi, ho, hro with
  | 0, _, hro => exact nr1 hro (by kernel_rfl)
  | 1, ho, _ => cases ho; exact wn (kAssign rfl rfl)
  | zk + 2, ho, _ => simp at ho
 case al1 =>
  intro zk zb zi zo hk ha ho a' u lc W hM
  match zk, hk with
  | 0, hk => cases hk; cases ha; cases ho; exact ⟨rfl, rfl, rfl, rfl, kBox rfl (hM.ol 0)⟩
  | zk + 1, hk => simp at hk
 case pu1 =>
  intro zk zb zs zo hk hs ho a' u lc W zc hM hc hcs
  match zk, hk with
  | 0, hk => cases hk; simp at hs
  | zk + 1, hk => simp at hk
 case en1 =>
  intro u1 lc1 W1 hK1 hB1 hO1 hV1 hX1 hA1
  obtain ⟨qr, ho, hl⟩ := hX1 0 _ rfl
  have e1_0 : u1 0 = .pointer (some ⟨lc1 0, 0, none⟩) := (hl 0 rfl).1
  have g1_0 := (hl 0 rfl).2
  have f1_0 := h0.kept hK1
  have f1_1 := yg0.kept hK1
  have f1_2 := yk0.kept hK1
  have q1_0 : W1.heap[(lc1 0)]? = some (.cells #[.bool n1, .slice yp0 yl0 yd0, .bool true, .slice yq0 ym0 yr0] 26) := by
   exact qr
  simp only [putK, fC, fN, kZ, kS, vV, vA, sI, sZ, sS, e1_0]
  have hBt1 := hB0.trans hB1
  clear hV1 hX1 hA1
  go_upto_region 1 with fail
  refine rg (n := 9) (t16 := 48) w.heap.size [] [.val (.agg #[.bool n1, .slice yp0 yl0 yd0, .bool true, .slice yq0 ym0 yr0]), .val (.agg #[.bool n1, .slice yp0 yl0 yd0, .bool true, .slice yq0 ym0 yr0]), .any, .any] [(0, 4), (1, 5), (2, 3)] [⟨73, some 2, 0, pt, 4, [.c #[.bool false, .slice none 0 0, .bool false, .slice none 0 0]], [(3, 0, 1)]⟩] ?ok2 ?st2 ?al2 ?pu2 ?en2
  case ok2 => exact BxOK.fresh rfl hBt1.size
  case st2 =>
   intro zi zo ho hro a' u lc W hM
   match zi, ho, hro with
   | 0, ho, _ => cases ho; exact wn (kL26 rfl (hM.ol 1) (hM.o0 q1_0))
   | 1, ho, _ => cases ho; exact wn (kBuild73 rfl (hM.d 0 4 rfl) rfl)
   | 2, _, hro => exact nr1 hro (by kernel_rfl)
   | 3, _, hro => exact nr1 hro (by kernel_rfl)
   | zk + 4, ho, _ => simp at ho
  case al2 =>
   intro zk zb zi zo hk ha ho a' u lc W hM
   match zk, hk with
   | 0, hk => cases hk; cases ha; cases ho; exact ⟨rfl, rfl, rfl, rfl, kAlloc73 rfl⟩
   | zk + 1, hk => simp at hk
  case pu2 =>
   intro zk zb zs zo hk hs ho a' u lc W zc hM hc hcs
   match zk, hk with
   | 0, hk =>
    cases hk
    simp only [List.mem_cons, List.not_mem_nil, or_false] at hs
    rcases hs with rfl
    · cases ho
      have e : u 1 = .agg #[.bool n1, .slice yp0 yl0 yd0, .bool true, .slice yq0 ym0 yr0] := hM.kd 1
      exact kPut rfl e ((hM.v 2 3 rfl).trans (hM.loc 0 _ 2 rfl rfl (by kernel_rfl))) (hM.v 1 5 rfl) hc hcs sz73
   | zk + 1, hk => simp at hk
  case en2 =>
   intro u2 lc2 W2 hK2 hB2 hO2 hV2 hX2 hA2
   have e2_1 := kv (hV2 1 5 rfl) rfl
   obtain ⟨qr, ho, hl⟩ := hX2 0 _ rfl
   have e2_2 : u2 2 = .pointer (some ⟨lc2 0, 0, none⟩) := (hl 2 rfl).1
   have g2_0 := (hl 2 rfl).2
   have f2_0 := f1_0.kept hK2
   have f2_1 := f1_1.kept hK2
   have f2_2 := f1_2.kept hK2
   have q2_0 : W2.heap[(lc2 0)]? = some (.cells #[.bool n1, .slice yp0 yl0 yd0, .bool true, .slice yq0 ym0 yr0] 73) := by
    rw [contAll_one rfl (cs := #[.bool n1, .slice yp0 yl0 yd0, .bool true, .slice yq0 ym0 yr0]) (by rw [e2_1]; rfl) rfl] at qr; exact qr
   simp only [putK, fC, fN, kZ, kS, vV, vA, sI, sZ, sS, e2_2]
   have hBt2 := hBt1.trans hB2
   clear hV2 hX2 hA2
   go_upto_region 2 with fail
   refine rg0 (n := 9) (t16 := 48) w.heap.size [.val (.agg #[.bool n1, .slice yp0 yl0 yd0, .bool true, .slice yq0 ym0 yr0]), vT, vF, vF, .val (.pointer (some ⟨(lc2 0), 0, none⟩)), .val (.pointer (some ⟨(lc2 0), 0, none⟩)), .val (.agg #[.bool n1, .slice yp0 yl0 yd0]), vT, vF, vF, vF, .val (.pointer (some ⟨(lc2 0), 0, none⟩)), .val (.pointer (some ⟨(lc2 0), 2, none⟩)), .val (.agg #[.bool true, .slice yq0 ym0 yr0]), vT, vF, vF, vF, .val (.pointer (some ⟨(lc2 0), 0, none⟩)), .val (.pointer (some ⟨(lc2 0), 2, none⟩)), .val (.pointer (some ⟨(lc2 0), 2, none⟩)), vT, vT, vT, .any, .any, .any, .any, .any, .any, vT] [(0, 6), (1, 7), (2, 8), (3, 9), (4, 10), (5, 11), (6, 12), (7, 13), (8, 14), (9, 15), (10, 16), (11, 17), (12, 18), (13, 19), (14, 20), (15, 21), (16, 22), (17, 23), (18, 24), (19, 25), (20, 26), (21, 27), (22, 28), (23, 29), (24, 30), (25, 31), (26, 32), (27, 33), (28, 34), (29, 35), (30, 36)] hBt2.size ?st3 ?en3
   case st3 =>
    intro zi zo ho hro a' u lc W hM
    match zi, ho, hro with
    | 0, ho, _ => cases ho; exact wn (kLoad (rs := [.bool n1, .slice yp0 yl0 yd0, .bool true, .slice yq0 ym0 yr0]) Tryz.underlying73 rfl sz73 rfl (hM.ol 3) (hM.o0 q2_0) rfl rfl)
    | 1, ho, _ => cases ho; exact wn (kCall1 rfl may87 (hM.d 0 6 rfl) (c87r HS.out (f2_0.kept hM.kept)))
    | 2, ho, _ => cases ho; exact wn (kNot rfl (hM.d 1 7 rfl) rfl)
    | 3, ho, _ => cases ho; exact wn (kMove rfl (hM.d 2 8 rfl))
    | 4, ho, _ => cases ho; exact hM.wg (hM.d 3 9 rfl) (kField73_0 rfl (hM.ol 3))
    | 5, ho, _ => cases ho; exact hM.wg (hM.d 3 9 rfl) (kField26_0 rfl (hM.d 4 10 rfl))
    | 6, ho, _ => cases ho; exact hM.wg (hM.d 3 9 rfl) (kL24 rfl (hM.d 5 11 rfl) (hM.o0 q2_0) rfl)
    | 7, ho, _ => cases ho; exact hM.wg (hM.d 3 9 rfl) (kCall1 rfl may43 (hM.d 6 12 rfl) (c43 HL1.out H1.out (f2_1.kept hM.kept)))
    | 8, ho, _ => cases ho; exact hM.wg (hM.d 3 9 rfl) (kNot rfl (hM.d 7 13 rfl) rfl)
    | 9, ho, _ => cases ho; exact wn (kPick rfl (hM.d 3 9 rfl) (hM.d 8 14 rfl))
    | 10, ho, _ => cases ho; exact wn (kMove rfl (hM.d 9 15 rfl))
    | 11, ho, _ => cases ho; exact hM.wg (hM.d 10 16 rfl) (kField73_0 rfl (hM.ol 3))
    | 12, ho, _ => cases ho; exact hM.wg (hM.d 10 16 rfl) (kField26_1 rfl (hM.d 11 17 rfl))
    | 13, ho, _ => cases ho; exact hM.wg (hM.d 10 16 rfl) (kL24 rfl (hM.d 12 18 rfl) (hM.o0 q2_0) rfl)
    | 14, ho, _ => cases ho; exact hM.wg (hM.d 10 16 rfl) (kCall1 rfl may43 (hM.d 13 19 rfl) (c43 HL2.out H2.out (f2_2.kept hM.kept)))
    | 15, ho, _ => cases ho; exact hM.wg (hM.d 10 16 rfl) (kNot rfl (hM.d 14 20 rfl) rfl)
    | 16, ho, _ => cases ho; exact wn (kPick rfl (hM.d 10 16 rfl) (hM.d 15 21 rfl))
    | 17, ho, _ => cases ho; exact wn (kMove rfl (hM.d 16 22 rfl))
    | 18, ho, _ => cases ho; exact hM.wg (hM.d 17 23 rfl) (kField73_0 rfl (hM.ol 3))
    | 19, ho, _ => cases ho; exact hM.wg (hM.d 17 23 rfl) (kField26_1 rfl (hM.d 18 24 rfl))
    | 20, ho, _ => cases ho; exact hM.wg (hM.d 17 23 rfl) (kField24_0 rfl (hM.d 19 25 rfl))
    | 21, ho, _ => cases ho; exact hM.wg (hM.d 17 23 rfl) (kLoad1 Tryz.underlying4 rfl rfl (hM.d 20 26 rfl) (hM.o0 q2_0) rfl rfl)
    | 22, ho, _ => cases ho; exact wn (kPick rfl (hM.d 17 23 rfl) (hM.d 21 27 rfl))
    | 23, ho, _ => cases ho; exact wn (kMove rfl (hM.d 22 28 rfl))
    | 24, ho, _ => cases ho; exact hM.wz (hM.d 23 29 rfl)
    | 25, ho, _ => cases ho; exact hM.wz (hM.d 23 29 rfl)
    | 26, ho, _ => cases ho; exact hM.wz (hM.d 23 29 rfl)
    | 27, ho, _ => cases ho; exact hM.wz (hM.d 23 29 rfl)
    | 28, ho, _ => cases ho; exact hM.wz (hM.d 23 29 rfl)
    | 29, ho, _ => cases ho; exact hM.wz (hM.d 23 29 rfl)
    | 30, ho, _ => cases ho; exact wn (kPick rfl (hM.d 23 29 rfl) rfl)
    | zk + 31, ho, _ => simp at ho
   case en3 =>
    intro u3 lc3 W3 hK3 hB3 hO3 hV3 hX3 hA3
    simp only [putK, fC, fN, kZ, kS, vV, vA, sI, sZ, sS]
    have hBt3 := hBt2.trans hB3
    clear hV3 hX3 hA3
    go_upto_region 3 with fail
    refine rg0 (n := 9) (t16 := 48) w.heap.size [vF] [(0, 2)] hBt3.size ?st4 ?en4
    case st4 =>
     intro zi zo ho hro a' u lc W hM
     match zi, ho, hro with
     | 0, ho, _ => cases ho; exact wn (kAssign rfl rfl)
     | zk + 1, ho, _ => simp at ho
    case en4 =>
     intro u4 lc4 W4 hK4 hB4 hO4 hV4 hX4 hA4
     simp only [putK, fC, fN, kZ, vV, sI, sZ, sS]
     have hBt4 := hBt3.trans hB4
     clear hV4 hX4 hA4
     go_wp2
     exact bodyPost_ret (v := .bool false) (by simp [results, Tryz.results44, go_sem]) rfl ⟨_, rfl, rfl, hBt4⟩
theorem c44e {n1 : Bool} {z1 z2 : List Int} {v0 : Value} {w : World} (hs : (decide (z1.length ≤ 256) && decide (z2.length ≤ 256)) = true) (h1 : okB n1 z1 = true) (h2 : okB false z2 = true) (h3 : ((z2.length : Nat) : Int) = 0) (h0 : Is (frw n1 z1 false z2) v0 w) : Calls Tryz.prog 44 #[v0] w (Ret (.val (.bool false)) w) := by
 obtain ⟨yp0, yl0, yd0, yq0, ym0, yr0, rfl, hL1, hL2⟩ := id h0
 have yg0 : Is (raw n1 z1) (.agg #[.bool n1, .slice yp0 yl0 yd0]) w := ⟨_, _, _, rfl, hL1⟩
 have yk0 : Is (raw false z2) (.agg #[.bool false, .slice yq0 ym0 yr0]) w := ⟨_, _, _, rfl, hL2⟩
 have hm0 := hL2.cells.1
 have hl1 : z1.length ≤ 140737488355328 := by simp at hs; omega
 have hl2 : z2.length ≤ 140737488355328 := by simp at hs; omega
 have hz : decide (((ym0 : Nat) : Int) = 0) = true := decide_eq_true (by omega)
 clear h3
 have HS := Lib.hid hs
 have H1 := Lib.hid h1
 have H2 := Lib.hid h2
 have HL1 := Lib.hid hl1
 have HL2 := Lib.hid hl2
 have HZ := Lib.hid hz
 clear hs h1 h2 hl1 hl2 hz
 clear hL1 hL2 hm0
 have hB0 := Below.refl w.heap.size w
 go_enter Tryz.func44, Tryz.ntmps44
 go_upto_region 0 with fail
 refine rg (n := 9) (t16 := 48) w.heap.size [] [.any, vF] [(0, 1), (1, 2)] [⟨26, some 0, 0, pt, 4, [.c #[.bool n1, .slice yp0 yl0 yd0, .bool false, .slice yq0 ym0 yr0]], []⟩] ?ok1 ?st1 ?al1 ?pu1 ?en1
 case ok1 => exact BxOK.fresh rfl hB0.size
 case st1 =>
  intro zi zo ho hro a' u lc W hM
  match zi, ho, hro with
  | 0, _, hro => exact nr1 hro (by kernel_rfl)
  | 1, ho, _ => cases ho; exact wn (kAssign rfl rfl)
  | zk + 2, ho, _ => simp at ho
 case al1 =>
  intro zk zb zi zo hk ha ho a' u lc W hM
  match zk, hk with
  | 0, hk => cases hk; cases ha; cases ho; exact ⟨rfl, rfl, rfl, rfl, kBox rfl (hM.ol 0)⟩
  | zk + 1, hk => simp at hk
 case pu1 =>
  intro zk zb zs zo hk hs ho a' u lc W zc hM hc hcs
  match zk, hk with
  | 0, hk => cases hk; simp at hs
  | zk + 1, hk => simp at hk
 case en1 =>
  intro u1 lc1 W1 hK1 hB1 hO1 hV1 hX1 hA1
  obtain ⟨qr, ho, hl⟩ := hX1 0 _ rfl
  have e1_0 : u1 0 = .pointer (some ⟨lc1 0, 0, none⟩) := (hl 0 rfl).1
  have g1_0 := (hl 0 rfl).2
  have f1_0 := h0.kept hK1
  have f1_1 := yg0.kept hK1
  have f1_2 := yk0.kept hK1
  have q1_0 : W1.heap[(lc1 0)]? = some (.cells #[.bool n1, .slice yp0 yl0 yd0, .bool false, .slice yq0 ym0 yr0] 26) := by
   exact qr
  simp only [putK, fC, fN, kZ, kS, vV, vA, sI, sZ, sS, e1_0]
  have hBt1 := hB0.trans hB1
  clear hV1 hX1 hA1
  go_upto_region 1 with fail
  refine rg (n := 9) (t16 := 48) w.heap.size [] [.val (.agg #[.bool n1, .slice yp0 yl0 yd0, .bool false, .slice yq0 ym0 yr0]), .val (.agg #[.bool n1, .slice yp0 yl0 yd0, .bool false, .slice yq0 ym0 yr0]), .any, .any] [(0, 4), (1, 5), (2, 3)] [⟨73, some 2, 0, pt, 4, [.c #[.bool false, .slice none 0 0, .bool false, .slice none 0 0]], [(3, 0, 1)]⟩] ?ok2 ?st2 ?al2 ?pu2 ?en2
  case ok2 => exact BxOK.fresh rfl hBt1.size
  case st2 =>
   intro zi zo ho hro a' u lc W hM
   match zi, ho, hro with
   | 0, ho, _ => cases ho; exact wn (kL26 rfl (hM.ol 1) (hM.o0 q1_0))
   | 1, ho, _ => cases ho; exact wn (kBuild73 rfl (hM.d 0 4 rfl) rfl)
   | 2, _, hro => exact nr1 hro (by kernel_rfl)
   | 3, _, hro => exact nr1 hro (by kernel_rfl)
   | zk + 4, ho, _ => simp at ho
  case al2 =>
   intro zk zb zi zo hk ha ho a' u lc W hM
   match zk, hk with
   | 0, hk => cases hk; cases ha; cases ho; exact ⟨rfl, rfl, rfl, rfl, kAlloc73 rfl⟩
   | zk + 1, hk => simp at hk
  case pu2 =>
   intro zk zb zs zo hk hs ho a' u lc W zc hM hc hcs
   match zk, hk with
   | 0, hk =>
    cases hk
    simp only [List.mem_cons, List.not_mem_nil, or_false] at hs
    rcases hs with rfl
    · cases ho
      have e : u 1 = .agg #[.bool n1, .slice yp0 yl0 yd0, .bool false, .slice yq0 ym0 yr0] := hM.kd 1
      exact kPut rfl e ((hM.v 2 3 rfl).trans (hM.loc 0 _ 2 rfl rfl (by kernel_rfl))) (hM.v 1 5 rfl) hc hcs sz73
   | zk + 1, hk => simp at hk
  case en2 =>
   intro u2 lc2 W2 hK2 hB2 hO2 hV2 hX2 hA2
   have e2_1 := kv (hV2 1 5 rfl) rfl
   obtain ⟨qr, ho, hl⟩ := hX2 0 _ rfl
   have e2_2 : u2 2 = .pointer (some ⟨lc2 0, 0, none⟩) := (hl 2 rfl).1
   have g2_0 := (hl 2 rfl).2
   have f2_0 := f1_0.kept hK2
   have f2_1 := f1_1.kept hK2
   have f2_2 := f1_2.kept hK2
   have q2_0 : W2.heap[(lc2 0)]? = some (.cells #[.bool n1, .slice yp0 yl0 yd0, .bool false, .slice yq0 ym0 yr0] 73) := by
    rw [contAll_one rfl (cs := #[.bool n1, .slice yp0 yl0 yd0, .bool false, .slice yq0 ym0 yr0]) (by rw [e2_1]; rfl) rfl] at qr; exact qr
   simp only [putK, fC, fN, kZ, kS, vV, vA, sI, sZ, sS, e2_2]
   have hBt2 := hBt1.trans hB2
   clear hV2 hX2 hA2
   go_upto_region 2 with fail
   refine rg0 (n := 9) (t16 := 48) w.heap.size [.val (.agg #[.bool n1, .slice yp0 yl0 yd0, .bool false, .slice yq0 ym0 yr0]), vT, vF, vF, .val (.pointer (some ⟨(lc2 0), 0, none⟩)), .val (.pointer (some ⟨(lc2 0), 0, none⟩)), .val (.agg #[.bool n1, .slice yp0 yl0 yd0]), vT, vF, vF, vF, .val (.pointer (some ⟨(lc2 0), 0, none⟩)), .val (.pointer (some ⟨(lc2 0), 2, none⟩)), .val (.agg #[.bool false, .slice yq0 ym0 yr0]), vT, vF, vF, vF, .val (.pointer (some ⟨(lc2 0), 0, none⟩)), .val (.pointer (some ⟨(lc2 0), 2, none⟩)), .val (.pointer (some ⟨(lc2 0), 2, none⟩)), vF, vF, vF, .val (.pointer (some ⟨(lc2 0), 0, none⟩)), .val (.pointer (some ⟨(lc2 0), 2, none⟩)), .val (.pointer (some ⟨(lc2 0), 3, none⟩)), .val (.slice yq0 ym0 yr0), .val (.int .i64 ((ym0 : Nat) : Int)), vT, vT] [(0, 6), (1, 7), (2, 8), (3, 9), (4, 10), (5, 11), (6, 12), (7, 13), (8, 14), (9, 15), (10, 16), (11, 17), (12, 18), (13, 19), (14, 20), (15, 21), (16, 22), (17, 23), (18, 24), (19, 25), (20, 26), (21, 27), (22, 28), (23, 29), (24, 30), (25, 31), (26, 32), (27, 33), (28, 34), (29, 35), (30, 36)] hBt2.size ?st3 ?en3
   case st3 =>
    intro zi zo ho hro a' u lc W hM
    match zi, ho, hro with
    | 0, ho, _ => cases ho; exact wn (kLoad (rs := [.bool n1, .slice yp0 yl0 yd0, .bool false, .slice yq0 ym0 yr0]) Tryz.underlying73 rfl sz73 rfl (hM.ol 3) (hM.o0 q2_0) rfl rfl)
    | 1, ho, _ => cases ho; exact wn (kCall1 rfl may87 (hM.d 0 6 rfl) (c87r HS.out (f2_0.kept hM.kept)))
    | 2, ho, _ => cases ho; exact wn (kNot rfl (hM.d 1 7 rfl) rfl)
    | 3, ho, _ => cases ho; exact wn (kMove rfl (hM.d 2 8 rfl))
    | 4, ho, _ => cases ho; exact hM.wg (hM.d 3 9 rfl) (kField73_0 rfl (hM.ol 3))
    | 5, ho, _ => cases ho; exact hM.wg (hM.d 3 9 rfl) (kField26_0 rfl (hM.d 4 10 rfl))
    | 6, ho, _ => cases ho; exact hM.wg (hM.d 3 9 rfl) (kL24 rfl (hM.d 5 11 rfl) (hM.o0 q2_0) rfl)
    | 7, ho, _ => cases ho; exact hM.wg (hM.d 3 9 rfl) (kCall1 rfl may43 (hM.d 6 12 rfl) (c43 HL1.out H1.out (f2_1.kept hM.kept)))
    | 8, ho, _ => cases ho; exact hM.wg (hM.d 3 9 rfl) (kNot rfl (hM.d 7 13 rfl) rfl)
    | 9, ho, _ => cases ho; exact wn (kPick rfl (hM.d 3 9 rfl) (hM.d 8 14 rfl))
    | 10, ho, _ => cases ho; exact wn (kMove rfl (hM.d 9 15 rfl))
    | 11, ho, _ => cases ho; exact hM.wg (hM.d 10 16 rfl) (kField73_0 rfl (hM.ol 3))
    | 12, ho, _ => cases ho; exact hM.wg (hM.d 10 16 rfl) (kField26_1 rfl (hM.d 11 17 rfl))
    | 13, ho, _ => cases ho; exact hM.wg (hM.d 10 16 rfl) (kL24 rfl (hM.d 12 18 rfl) (hM.o0 q2_0) rfl)
    | 14, ho, _ => cases ho; exact hM.wg (hM.d 10 16 rfl) (kCall1 rfl may43 (hM.d 13 19 rfl) (c43 HL2.out H2.out (f2_2.kept hM.kept)))
    | 15, ho, _ => cases ho; exact hM.wg (hM.d 10 16 rfl) (kNot rfl (hM.d 14 20 rfl) rfl)
    | 16, ho, _ => cases ho; exact wn (kPick rfl (hM.d 10 16 rfl) (hM.d 15 21 rfl))
    | 17, ho, _ => cases ho; exact wn (kMove rfl (hM.d 16 22 rfl))
    | 18, ho, _ => cases ho; exact hM.wg (hM.d 17 23 rfl) (kField73_0 rfl (hM.ol 3))
    | 19, ho, _ => cases ho; exact hM.wg (hM.d 17 23 rfl) (kField26_1 rfl (hM.d 18 24 rfl))
    | 20, ho, _ => cases ho; exact hM.wg (hM.d 17 23 rfl) (kField24_0 rfl (hM.d 19 25 rfl))
    | 21, ho, _ => cases ho; exact hM.wg (hM.d 17 23 rfl) (kLoad1 Tryz.underlying4 rfl rfl (hM.d 20 26 rfl) (hM.o0 q2_0) rfl rfl)
    | 22, ho, _ => cases ho; exact wn (kPick rfl (hM.d 17 23 rfl) (hM.d 21 27 rfl))
    | 23, ho, _ => cases ho; exact wn (kMove rfl (hM.d 22 28 rfl))
    | 24, ho, _ => cases ho; exact hM.wg (hM.d 23 29 rfl) (kField73_0 rfl (hM.ol 3))
    | 25, ho, _ => cases ho; exact hM.wg (hM.d 23 29 rfl) (kField26_1 rfl (hM.d 24 30 rfl))
    | 26, ho, _ => cases ho; exact hM.wg (hM.d 23 29 rfl) (kField24_1 rfl (hM.d 25 31 rfl))
    | 27, ho, _ => cases ho; exact hM.wg (hM.d 23 29 rfl) (kLoad1 Tryz.underlying22 rfl rfl (hM.d 26 32 rfl) (hM.o0 q2_0) rfl rfl)
    | 28, ho, _ => cases ho; exact hM.wg (hM.d 23 29 rfl) (kLen rfl (hM.d 27 33 rfl))
    | 29, ho, _ => cases ho; exact hM.wg (hM.d 23 29 rfl) (kEql3 rfl (hM.d 28 34 rfl) rfl HZ.out)
    | 30, ho, _ => cases ho; exact wn (kPick rfl (hM.d 23 29 rfl) (hM.d 29 35 rfl))
    | zk + 31, ho, _ => simp at ho
   case en3 =>
    intro u3 lc3 W3 hK3 hB3 hO3 hV3 hX3 hA3
    simp only [putK, fC, fN, kZ, kS, vV, sI, sZ, sS]
    have hBt3 := hBt2.trans hB3
    clear hV3 hX3 hA3
    go_upto_region 3 with fail
    refine rg0 (n := 9) (t16 := 48) w.heap.size [vF] [(0, 2)] hBt3.size ?st4 ?en4
    case st4 =>
     intro zi zo ho hro a' u lc W hM
     match zi, ho, hro with
     | 0, ho, _ => cases ho; exact wn (kAssign rfl rfl)
     | zk + 1, ho, _ => simp at ho
    case en4 =>
     intro u4 lc4 W4 hK4 hB4 hO4 hV4 hX4 hA4
     simp only [putK, fC, fN, kZ, vV, sI, sZ, sS]
     have hBt4 := hBt3.trans hB4
     clear hV4 hX4 hA4
     go_wp2
     exact bodyPost_ret (v := .bool false) (by simp [results, Tryz.results44, go_sem]) rfl ⟨_, rfl, rfl, hBt4⟩
theorem c125 {a0 a1 a2 a3 : Value} {t : Bool} {w : World} (hv : ∀ W, Below w.heap.size w W → Calls Tryz.prog 44 #[.agg #[a0, a1, a2, a3]] W (Ret (.val (.bool t)) W)) (hn : noLimb #[a0, a1, a2, a3] = true) : Calls Tryz.prog 125 #[.agg #[a0, a1, a2, a3]] w (Ret (.val (.bool (!t))) w) := by
 have HN := Lib.hid hn
 clear hn
 have hB0 := Below.refl w.heap.size w
 go_enter Tryz.func125, Tryz.ntmps125
 go_upto_region 0 with fail
 refine rg (n := 9) (t16 := 48) w.heap.size [] [.any, vF] [(0, 1), (1, 2)] [⟨26, some 0, 0, pt, 4, [.c #[a0, a1, a2, a3]], []⟩] ?ok1 ?st1 ?al1 ?pu1 ?en1
 case ok1 => exact BxOK.fresh rfl hB0.size
 case st1 =>
  intro zi zo ho hro a' u lc W hM
  match zi, ho, hro with
  | 0, _, hro => exact nr1 hro (by kernel_rfl)
  | 1, ho, _ => cases ho; exact wn (kAssign rfl rfl)
  | zk + 2, ho, _ => simp at ho
 case al1 =>
  intro zk zb zi zo hk ha ho a' u lc W hM
  match zk, hk with
  | 0, hk => cases hk; cases ha; cases ho; exact ⟨rfl, rfl, rfl, HN.out, kBox rfl (hM.ol 0)⟩
  | zk + 1, hk => simp at hk
 case pu1 =>
  intro zk zb zs zo hk hs ho a' u lc W zc hM hc hcs
  match zk, hk with
  | 0, hk => cases hk; simp at hs
  | zk + 1, hk => simp at hk
 case en1 =>
  intro u1 lc1 W1 hK1 hB1 hO1 hV1 hX1 hA1
  obtain ⟨qr, ho, hl⟩ := hX1 0 _ rfl
  have e1_0 : u1 0 = .pointer (some ⟨lc1 0, 0, none⟩) := (hl 0 rfl).1
  have g1_0 := (hl 0 rfl).2
  have q1_0 : W1.heap[(lc1 0)]? = some (.cells #[a0, a1, a2, a3] 26) := by
   exact qr
  simp only [putK, fC, fN, kZ, kS, vV, vA, sI, sZ, sS, e1_0]
  have hBt1 := hB0.trans hB1
  clear hV1 hX1 hA1
  go_upto_region 1 with fail
  refine rg0 (n := 9) (t16 := 48) w.heap.size [.val (.agg #[a0, a1, a2, a3]), .val (.bool t), .val (.bool (!t)), .val (.bool (!t))] [(0, 3), (1, 4), (2, 5), (3, 2)] hBt1.size ?st2 ?en2
  case st2 =>
   intro zi zo ho hro a' u lc W hM
   match zi, ho, hro with
   | 0, ho, _ => cases ho; exact wn (kL26 rfl (hM.ol 1) (hM.o0 q1_0))
   | 1, ho, _ => cases ho; exact wn (kCall1 rfl may44 (hM.d 0 3 rfl) (hv _ (hBt1.trans hM.below)))
   | 2, ho, _ => cases ho; exact wn (kNot rfl (hM.d 1 4 rfl) rfl)
   | 3, ho, _ => cases ho; exact wn (kAssign rfl (hM.d 2 5 rfl))
   | zk + 4, ho, _ => simp at ho
  case en2 =>
   intro u2 lc2 W2 hK2 hB2 hO2 hV2 hX2 hA2
   simp only [putK, fC, fN, kZ, kS, vV, sI, sZ, sS]
   have hBt2 := hBt1.trans hB2
   clear hV2 hX2 hA2
   go_wp2
   exact bodyPost_ret (v := .bool (!t)) (by simp [results, Tryz.results125, go_sem]) rfl ⟨_, rfl, rfl, hBt2⟩
end Go.Proofs.YtihdbjilolmfiaaGreatDoor
