import Derived.Test.YtihdbjilolmfiaaGreatDoorD14
import Derived.Test.YtihdbjilolmfiaaGreatDoorD16
import Derived.Test.YtihdbjilolmfiaaGreatDoorD17
import Derived.Test.YtihdbjilolmfiaaGreatDoorD12
import Derived.Test.YtihdbjilolmfiaaGreatDoorD01
set_option maxRecDepth 100000
set_option maxHeartbeats 4000000
namespace Go.Proofs.YtihdbjilolmfiaaGreatDoor
open Go.RowKit Go.WM Go.WR
attribute [local go_sem] Oper.semAt_some
theorem sz24 : (Tryz.prog.info? 24).map (·.size) = some 2 := by kernel_rfl
theorem sz26 : (Tryz.prog.info? 26).map (·.size) = some 4 := by kernel_rfl
theorem sz73 : (Tryz.prog.info? 73).map (·.size) = some 4 := by kernel_rfl
theorem may17 : MayCall 17 := ⟨_, Tryz.func17, by kernel_rfl, by kernel_rfl⟩
theorem may22 : MayCall 22 := ⟨_, Tryz.func22, by kernel_rfl, by kernel_rfl⟩
theorem may23 : MayCall 23 := ⟨_, Tryz.func23, by kernel_rfl, by kernel_rfl⟩
theorem may27 : MayCall 27 := ⟨_, Tryz.func27, by kernel_rfl, by kernel_rfl⟩
theorem may33 : MayCall 33 := ⟨_, Tryz.func33, by kernel_rfl, by kernel_rfl⟩
theorem may42 : MayCall 42 := ⟨_, Tryz.func42, by kernel_rfl, by kernel_rfl⟩
theorem may43 : MayCall 43 := ⟨_, Tryz.func43, by kernel_rfl, by kernel_rfl⟩
theorem may44 : MayCall 44 := ⟨_, Tryz.func44, by kernel_rfl, by kernel_rfl⟩
theorem may46 : MayCall 46 := ⟨_, Tryz.func46, by kernel_rfl, by kernel_rfl⟩
theorem may47 : MayCall 47 := ⟨_, Tryz.func47, by kernel_rfl, by kernel_rfl⟩
theorem may48 : MayCall 48 := ⟨_, Tryz.func48, by kernel_rfl, by kernel_rfl⟩
theorem may49 : MayCall 49 := ⟨_, Tryz.func49, by kernel_rfl, by kernel_rfl⟩
theorem may51 : MayCall 51 := ⟨_, Tryz.func51, by kernel_rfl, by kernel_rfl⟩
theorem may52 : MayCall 52 := ⟨_, Tryz.func52, by kernel_rfl, by kernel_rfl⟩
theorem may53 : MayCall 53 := ⟨_, Tryz.func53, by kernel_rfl, by kernel_rfl⟩
theorem may55 : MayCall 55 := ⟨_, Tryz.func55, by kernel_rfl, by kernel_rfl⟩
theorem may63 : MayCall 63 := ⟨_, Tryz.func63, by kernel_rfl, by kernel_rfl⟩
theorem may64 : MayCall 64 := ⟨_, Tryz.func64, by kernel_rfl, by kernel_rfl⟩
theorem may65 : MayCall 65 := ⟨_, Tryz.func65, by kernel_rfl, by kernel_rfl⟩
theorem may66 : MayCall 66 := ⟨_, Tryz.func66, by kernel_rfl, by kernel_rfl⟩
theorem may67 : MayCall 67 := ⟨_, Tryz.func67, by kernel_rfl, by kernel_rfl⟩
theorem may68 : MayCall 68 := ⟨_, Tryz.func68, by kernel_rfl, by kernel_rfl⟩
theorem may69 : MayCall 69 := ⟨_, Tryz.func69, by kernel_rfl, by kernel_rfl⟩
theorem may70 : MayCall 70 := ⟨_, Tryz.func70, by kernel_rfl, by kernel_rfl⟩
theorem may72 : MayCall 72 := ⟨_, Tryz.func72, by kernel_rfl, by kernel_rfl⟩
theorem may73 : MayCall 73 := ⟨_, Tryz.func73, by kernel_rfl, by kernel_rfl⟩
theorem may74 : MayCall 74 := ⟨_, Tryz.func74, by kernel_rfl, by kernel_rfl⟩
theorem may75 : MayCall 75 := ⟨_, Tryz.func75, by kernel_rfl, by kernel_rfl⟩
theorem may79 : MayCall 79 := ⟨_, Tryz.func79, by kernel_rfl, by kernel_rfl⟩
theorem may82 : MayCall 82 := ⟨_, Tryz.func82, by kernel_rfl, by kernel_rfl⟩
theorem may84 : MayCall 84 := ⟨_, Tryz.func84, by kernel_rfl, by kernel_rfl⟩
theorem may85 : MayCall 85 := ⟨_, Tryz.func85, by kernel_rfl, by kernel_rfl⟩
theorem may86 : MayCall 86 := ⟨_, Tryz.func86, by kernel_rfl, by kernel_rfl⟩
theorem may87 : MayCall 87 := ⟨_, Tryz.func87, by kernel_rfl, by kernel_rfl⟩
theorem may89 : MayCall 89 := ⟨_, Tryz.func89, by kernel_rfl, by kernel_rfl⟩
theorem may91 : MayCall 91 := ⟨_, Tryz.func91, by kernel_rfl, by kernel_rfl⟩
theorem may92 : MayCall 92 := ⟨_, Tryz.func92, by kernel_rfl, by kernel_rfl⟩
theorem may94 : MayCall 94 := ⟨_, Tryz.func94, by kernel_rfl, by kernel_rfl⟩
theorem may95 : MayCall 95 := ⟨_, Tryz.func95, by kernel_rfl, by kernel_rfl⟩
theorem may96 : MayCall 96 := ⟨_, Tryz.func96, by kernel_rfl, by kernel_rfl⟩
theorem may99 : MayCall 99 := ⟨_, Tryz.func99, by kernel_rfl, by kernel_rfl⟩
theorem may100 : MayCall 100 := ⟨_, Tryz.func100, by kernel_rfl, by kernel_rfl⟩
theorem may101 : MayCall 101 := ⟨_, Tryz.func101, by kernel_rfl, by kernel_rfl⟩
theorem may102 : MayCall 102 := ⟨_, Tryz.func102, by kernel_rfl, by kernel_rfl⟩
theorem may112 : MayCall 112 := ⟨_, Tryz.func112, by kernel_rfl, by kernel_rfl⟩
theorem may138 : MayCall 138 := ⟨_, Tryz.func138, by kernel_rfl, by kernel_rfl⟩
theorem may139 : MayCall 139 := ⟨_, Tryz.func139, by kernel_rfl, by kernel_rfl⟩
theorem may148 : MayCall 148 := ⟨_, Tryz.func148, by kernel_rfl, by kernel_rfl⟩
theorem wo_is {B : Nat} {W : World} {v : Value} {z : Int} (h : Wo B W v z) : Is (num z) v W := h.num
theorem fit_ret {z : Int} {w : World} {e : Ending} {w' : World} (hz : z.natAbs < Cap) (h : FitPost w.heap.size z w e w') : Ret (.k (tup2 (.k (num z)) (.val (.int .i64 0)))) w e w' := by
 obtain ⟨b, p, l, c, er, rfl, hf, hb⟩ := h
 rcases hf with ⟨_, rfl, hO⟩ | ⟨h2, _⟩
 · exact ⟨_, rfl, ⟨_, _, rfl, (wo_is hO), rfl⟩, hb⟩
 · omega
theorem c49 {x y z : Int} {va vb : Value} {w : World} (hx : x * y = z) (hz : z.natAbs < Cap) (ha : Is (num x) va w) (hb : Is (num y) vb w) : Calls Tryz.prog 49 #[va, vb] w (Ret (.k (tup2 (.k (num z)) (.val (.int .i64 0)))) w) :=
 by subst hx; exact (Mul_ok va vb x y w ha hb).mono fun _ _ h => fit_ret hz h
theorem c138 {x y z : Int} {va vb : Value} {w : World} (hx : ((Int.gcd x y : Nat) : Int) = z) (ha : Is (num x) va w) (hb : Is (num y) vb w) : Calls Tryz.prog 138 #[va, vb] w (Ret (.k (tup2 (.k (num z)) (.val (.int .i64 0)))) w) := by
 subst hx
 refine (Gcd_ok va vb x y w ha hb).mono ?_
 rintro e w' ⟨b2, p, l, c, rfl, hO, hb⟩
 exact ⟨_, rfl, ⟨_, _, rfl, (wo_is hO), rfl⟩, hb⟩
theorem c68 {x y q r : Int} {va vb : Value} {w : World} (hy : y ≠ 0) (hf : Floor x y q r) (ha : Is (num x) va w) (hb : Is (num y) vb w) : Calls Tryz.prog 68 #[va, vb] w (Ret (.k (tup3 (.k (num q)) (.k (num r)) (.val (.int .i64 0)))) w) := by
 refine (DivMod_ok va vb x y w ha hb hy).mono ?_
 rintro e w' ⟨b1, b2, p1, l1, c1, p2, l2, c2, q', r', rfl, hf', hq, hr, hb2⟩
 obtain ⟨rfl, rfl⟩ := hf.unique hy hf'
 exact ⟨_, rfl, ⟨_, _, _, rfl, (wo_is hq), (wo_is hr), rfl⟩, hb2⟩
end Go.Proofs.YtihdbjilolmfiaaGreatDoor
namespace Go.Proofs.YtihdbjilolmfiaaGreatDoor
open Go.RowKit Go.WM Go.WR
attribute [local go_sem] Oper.semAt_some
theorem may127 : MayCall 127 := ⟨_, Tryz.func127, by kernel_rfl, by kernel_rfl⟩
theorem may128 : MayCall 128 := ⟨_, Tryz.func128, by kernel_rfl, by kernel_rfl⟩
theorem may130 : MayCall 130 := ⟨_, Tryz.func130, by kernel_rfl, by kernel_rfl⟩
variable {n : Nat} {o : Oper} {a : Act} {w : World}
theorem kEql4 {x y : Operand} {p q t : Bool} (ho : o.op = .binOp .eql 4 x y 4) (hx : a.eval x = .bool p) (hy : a.eval y = .bool q) (ht : (p == q) = t) : Op1 n Tryz.prog o a w (fun v W' => KW (t16 := 48) (.val (.bool t)) v W' ∧ Below w.heap.size w W') := by
 refine Op1.of_run (v := .bool (p == q)) ?_ ⟨congrArg Value.bool ht, Below.refl _ _⟩
 unfold execOp
 rw [ho]
 simp only [hx, hy]
 simp [go_sem]
theorem kGeqI {x y : Operand} {p q : Int} {t : Bool} (ho : o.op = .binOp .geq 3 x y 3) (hx : a.eval x = .int .i64 p) (hy : a.eval y = .int .i64 q) (ht : decide (q ≤ p) = t) : Op1 n Tryz.prog o a w (fun v W' => KW (t16 := 48) (.val (.bool t)) v W' ∧ Below w.heap.size w W') := by
 refine Op1.of_run (v := .bool (decide (q ≤ p))) ?_ ⟨congrArg Value.bool ht, Below.refl _ _⟩
 unfold execOp
 rw [ho]
 simp only [hx, hy]
 simp [go_sem]
theorem kSliceW2 {x y : Nat} {b1 s1 b2 s2 : Value} (ho : o.op = .buildSlice 133 2 #[(0, .tmp x), (1, .tmp y)]) (hx : a.tmps.getD x undef = .agg #[b1, s1]) (hy : a.tmps.getD y undef = .agg #[b2, s2]) :
 Op1 n Tryz.prog o a w (fun v W' => v = .slice (some ⟨w.heap.size, 0, none⟩) 2 2 ∧ W' = w.alloc (.cells #[b1, s1, b2, s2] 24)) := by
 refine Op1.of_run (v := .slice (some ⟨w.heap.size, 0, none⟩) 2 2) (w' := w.alloc (.cells #[b1, s1, b2, s2] 24)) ?_ ⟨rfl, rfl⟩
 unfold execOp
 rw [ho]
 simp only [Array.getD_eq_getD_getElem?] at hx hy
 simp [go_sem, hx, hy]
def rown (n : Int) : SK48 := ⟨fun v W => ∃ zs, Own16 0 W v zs ∧ Rep zs n ∧ zs.length ≤ 140737488355328, fun _ _ _ hk ⟨zs, h1, h2⟩ => ⟨zs, h1.kept hk, h2⟩⟩
theorem num_row {x : Int} {v : Value} {W : World} (h : Is (num x) v W) : ∃ p l c, v = .agg #[.bool (decide (x < 0)), .slice p l c] ∧ Is (rowk ((x.natAbs : Nat) : Int)) (.slice p l c) W ∧ ((x.natAbs : Nat) : Int) < Cap := by
 obtain ⟨sv, zs, rfl, hL, hR, hC⟩ := h
 obtain ⟨p, l, c, rfl⟩ := hL.form
 exact ⟨p, l, c, rfl, ⟨zs, hL, hR⟩, hC⟩
theorem c130k {n m : Int} {v0 v1 : Value} {w : World} (hn : n < Cap) (hm : m < Cap) (h0 : Is (rowk n) v0 w) (h1 : Is (rowk m) v1 w) : Calls Tryz.prog 130 #[v0, v1] w (Ret (.val (.int .i64 (cmpI n m))) w) := by
 obtain ⟨A, hA, rA⟩ := h0
 obtain ⟨B, hB, rB⟩ := h1
 have := rA.cap.2 hn
 have := rB.cap.2 hm
 refine (compare_any v0 v1 A B n m w rA rB (by omega) (by omega) hA hB).mono ?_
 rintro e w' ⟨rfl, hb⟩
 exact ⟨_, rfl, rfl, hb⟩
theorem c127k {n m : Int} {v0 v1 : Value} {w : World} (hn : n < Cap) (hm : m < Cap) (h0 : Is (rowk n) v0 w) (h1 : Is (rowk m) v1 w) : Calls Tryz.prog 127 #[v0, v1] w (Ret (.k (rown (n + m))) w) := by
 obtain ⟨A, hA, rA⟩ := h0
 obtain ⟨B, hB, rB⟩ := h1
 have := rA.cap.2 hn
 have := rB.cap.2 hm
 refine (add_any v0 v1 A B n m w rA rB (by omega) (by omega) hA hB).mono ?_
 rintro e w' ⟨v, zs, rfl, hO, hR, hb⟩
 refine ⟨_, rfl, ⟨zs, hO.mono (Nat.zero_le _), hR, ?_⟩, hb⟩
 have h : zs.length ≤ 1025 := by
  rw [hR.len_le_iff, Int.pow_succ, ← Cap.eq]
  have := rA.nonneg
  have := rB.nonneg
  omega
 omega
theorem c128k {n m : Int} {v0 v1 : Value} {w : World} (hle : m ≤ n) (hn : n < Cap) (hm : m < Cap) (h0 : Is (rowk n) v0 w) (h1 : Is (rowk m) v1 w) : Calls Tryz.prog 128 #[v0, v1] w (Ret (.k (rown (n - m))) w) := by
 obtain ⟨A, hA, rA⟩ := h0
 obtain ⟨B, hB, rB⟩ := h1
 have := rA.cap.2 hn
 have := rB.cap.2 hm
 refine (sub_all v0 v1 A B n m w rA rB hle (by omega) hA hB).mono ?_
 rintro e w' ⟨v, zs, rfl, hO, hR, hb⟩
 refine ⟨_, rfl, ⟨zs, hO.mono (Nat.zero_le _), hR, ?_⟩, hb⟩
 have h : zs.length ≤ 1024 := hR.cap.2 (by have := rB.nonneg; omega)
 omega
theorem c96k {neg : Bool} {n z : Int} {v0 : Value} {w : World} (he : sgn neg n = z) (hz : z.natAbs < Cap) (h0 : Is (rown n) v0 w) : Calls Tryz.prog 96 #[.bool neg, v0] w (Ret (.k (tup2 (.k (num z)) (.val (.int .i64 0)))) w) := by
 obtain ⟨zs, hO, hR, hl⟩ := h0
 refine (made_any neg v0 zs n 0 w hR hO hl).mono ?_
 rintro e w' ⟨b, p, l, c, er, rfl, hf, hb⟩
 rw [he] at hf
 rcases hf with ⟨_, rfl, hO⟩ | ⟨h2, _⟩
 · exact ⟨_, rfl, ⟨_, _, rfl, (wo_is hO), rfl⟩, hb⟩
 · omega
theorem sum_same {x y z : Int} (h : x + y = z) (hs : decide (x < 0) = decide (y < 0)) : sgn (decide (x < 0)) (((x.natAbs : Nat) : Int) + ((y.natAbs : Nat) : Int)) = z := by
 have hs' : x < 0 ↔ y < 0 := decide_eq_decide.1 hs
 by_cases hx : x < 0
 · have := hs'.1 hx
   rw [decide_eq_true hx, sgn_true]; omega
 · have : ¬ y < 0 := fun e => hx (hs'.2 e)
   rw [decide_eq_false hx, sgn_false]; omega
theorem sum_ge {x y z : Int} (h : x + y = z) (hs : ¬ decide (x < 0) = decide (y < 0)) (_hg : ((y.natAbs : Nat) : Int) ≤ ((x.natAbs : Nat) : Int)) : sgn (decide (x < 0)) (((x.natAbs : Nat) : Int) - ((y.natAbs : Nat) : Int)) = z := by
 have hs' : ¬ (x < 0 ↔ y < 0) := fun e => hs (decide_eq_decide.2 e)
 by_cases hx : x < 0
 · have : ¬ y < 0 := fun e => hs' ⟨fun _ => e, fun _ => hx⟩
   rw [decide_eq_true hx, sgn_true]; omega
 · have : y < 0 := by
    rcases Int.lt_or_le y 0 with e | e
    · exact e
    · exact absurd ⟨fun h => absurd h hx, fun h => by omega⟩ hs'
   rw [decide_eq_false hx, sgn_false]; omega
theorem sum_lt {x y z : Int} (h : x + y = z) (hs : ¬ decide (x < 0) = decide (y < 0)) (_hg : ¬ ((y.natAbs : Nat) : Int) ≤ ((x.natAbs : Nat) : Int)) : sgn (decide (y < 0)) (((y.natAbs : Nat) : Int) - ((x.natAbs : Nat) : Int)) = z :=
 sum_ge (by omega) (fun e => hs e.symm) (by omega)
theorem cmp_ge {n m : Int} (h : m ≤ n) : 0 ≤ cmpI n m := by unfold cmpI; rw [if_neg (by omega)]; split <;> omega
theorem cmp_lt {n m : Int} (h : ¬ m ≤ n) : ¬ 0 ≤ cmpI n m := by unfold cmpI; rw [if_pos (by omega)]; decide
theorem c95n {g : Nat} {a0 a1 b0 b1 : Value} {x y : Int} {w : World} (hq : w.heap[g]? = some (.cells #[a0, a1, b0, b1] 24)) (h0 : Is (num x) (.agg #[a0, a1]) w) (h1 : Is (num y) (.agg #[b0, b1]) w) : Calls Tryz.prog 95 #[.slice (some ⟨g, 0, none⟩) 2 2] w (Ret (.val (.bool true)) w) := by
 obtain ⟨sa, A, e, hA, rA, cA⟩ := h0
 cases e
 obtain ⟨sb, B, e, hB, rB, cB⟩ := h1
 cases e
 have la := rep_short rA cA
 have lb := rep_short rB cB
 refine (valid_two g _ _ _ _ A B w (Array.getElem?_eq_some_iff.1 hq).1 (by omega) (by omega) (cell_of hq 0 rfl) (cell_of hq 1 rfl) (cell_of hq 2 rfl) (cell_of hq 3 rfl) hA hB).mono ?_
 rintro e w' ⟨rfl, hb⟩
 rw [rep_ok rA cA, rep_ok rB cB]
 exact ⟨_, rfl, rfl, hb⟩
theorem c100 {x y z : Int} {v0 v1 : Value} {w : World} (hx : x + y = z) (hz : z.natAbs < Cap) (h0 : Is (num x) v0 w) (h1 : Is (num y) v1 w) : Calls Tryz.prog 100 #[v0, v1] w (Ret (.k (tup2 (.k (num z)) (.val (.int .i64 0)))) w) := by
 obtain ⟨pa, la, ca, rfl, ra, hcx⟩ := num_row h0
 obtain ⟨pb, lb, cb, rfl, rb, hcy⟩ := num_row h1
 have HX := Lib.hid hx
 have HZ := Lib.hid hz
 have HCX := Lib.hid hcx
 have HCY := Lib.hid hcy
 clear hx hz hcx hcy
 have hB0 := Below.refl w.heap.size w
 go_enter Tryz.func100, Tryz.ntmps100
 go_upto_region 0 with fail
 refine rg (n := 9) (t16 := 48) w.heap.size [] [.any, .any, .any, vZ] [(0, 2), (1, 3), (2, 4), (3, 5)] [⟨24, some 0, 0, pt, 2, [.c #[.bool (decide (x < 0)), .slice pa la ca]], []⟩, ⟨24, some 1, 0, pt, 2, [.c #[.bool (decide (y < 0)), .slice pb lb cb]], []⟩, ⟨24, some 2, 0, pt, 2, [.c #[.bool false, .slice none 0 0]], []⟩] ?ok1 ?st1 ?al1 ?pu1 ?en1
 case ok1 => exact BxOK.fresh rfl hB0.size
 case st1 =>
  intro zi zo ho hro a' u lc W hM
  match zi, ho, hro with
  | 0, _, hro => exact nr1 hro (by kernel_rfl)
  | 1, _, hro => exact nr1 hro (by kernel_rfl)
  | 2, _, hro => exact nr1 hro (by kernel_rfl)
  | 3, ho, _ => cases ho; exact wn (kAssign rfl rfl)
  | zk + 4, ho, _ => simp at ho
 case al1 =>
  intro zk zb zi zo hk ha ho a' u lc W hM
  match zk, hk with
  | 0, hk => cases hk; cases ha; cases ho; exact ⟨rfl, rfl, rfl, rfl, kBox rfl (hM.ol 0)⟩
  | 1, hk => cases hk; cases ha; cases ho; exact ⟨rfl, rfl, rfl, rfl, kBox rfl (hM.ol 1)⟩
  | 2, hk => cases hk; cases ha; cases ho; exact ⟨rfl, rfl, rfl, rfl, kAlloc24 rfl⟩
  | zk + 3, hk => simp at hk
 case pu1 =>
  intro zk zb zs zo hk hs ho a' u lc W zc hM hc hcs
  match zk, hk with
  | 0, hk => cases hk; simp at hs
  | 1, hk => cases hk; simp at hs
  | 2, hk => cases hk; simp at hs
  | zk + 3, hk => simp at hk
 case en1 =>
  intro u1 lc1 W1 hK1 hB1 hO1 hV1 hX1 hA1
  obtain ⟨qr, ho, hl⟩ := hX1 0 _ rfl
  have e1_0 : u1 0 = .pointer (some ⟨lc1 0, 0, none⟩) := (hl 0 rfl).1
  have g1_0 := (hl 0 rfl).2
  have f1_1 := ra.kept hK1
  have q1_0 : W1.heap[(lc1 0)]? = some (.cells #[.bool (decide (x < 0)), .slice pa la ca] 24) := by
   exact qr
  obtain ⟨qr, ho, hl⟩ := hX1 1 _ rfl
  have e1_1 : u1 1 = .pointer (some ⟨lc1 1, 0, none⟩) := (hl 1 rfl).1
  have g1_1 := (hl 1 rfl).2
  have f1_3 := rb.kept hK1
  have q1_1 : W1.heap[(lc1 1)]? = some (.cells #[.bool (decide (y < 0)), .slice pb lb cb] 24) := by
   exact qr
  obtain ⟨qr, ho, hl⟩ := hX1 2 _ rfl
  have e1_2 : u1 2 = .pointer (some ⟨lc1 2, 0, none⟩) := (hl 2 rfl).1
  have g1_2 := (hl 2 rfl).2
  have q1_2 : W1.heap[(lc1 2)]? = some (.cells #[.bool false, .slice none 0 0] 24) := by
   exact qr
  have ne1_0_2 := hA1 0 2 _ _ rfl rfl (by decide)
  have ne1_1_2 := hA1 1 2 _ _ rfl rfl (by decide)
  simp only [putK, fC, fN, kZ, kS, vV, vA, sI, sZ, sS, e1_0, e1_1, e1_2]
  have hBt1 := hB0.trans hB1
  clear hV1 hX1 hA1
  go_upto_region 1 with fail
  refine rg0 (n := 9) (t16 := 48) w.heap.size [.val (.pointer (some ⟨(lc1 0), 1, none⟩)), .val (.slice pa la ca), .val (.pointer (some ⟨(lc1 1), 1, none⟩)), .val (.slice pb lb cb), .val (.int .i64 (cmpI ((x.natAbs : Nat) : Int) ((y.natAbs : Nat) : Int))), .val (.int .i64 (cmpI ((x.natAbs : Nat) : Int) ((y.natAbs : Nat) : Int)))] [(0, 7), (1, 8), (2, 9), (3, 10), (4, 11), (5, 6)] hBt1.size ?st2 ?en2
  case st2 =>
   intro zi zo ho hro a' u lc W hM
   match zi, ho, hro with
   | 0, ho, _ => cases ho; exact wn (kField24_1 rfl (hM.ol 2))
   | 1, ho, _ => cases ho; exact wn (kLoad1 Tryz.underlying22 rfl rfl (hM.d 0 7 rfl) (hM.o0 q1_0) rfl rfl)
   | 2, ho, _ => cases ho; exact wn (kField24_1 rfl (hM.ol 3))
   | 3, ho, _ => cases ho; exact wn (kLoad1 Tryz.underlying22 rfl rfl (hM.d 2 9 rfl) (hM.o0 q1_1) rfl rfl)
   | 4, ho, _ => cases ho; exact wn (kCall2 rfl may130 (hM.d 1 8 rfl) (hM.d 3 10 rfl) (c130k HCX.out HCY.out (f1_1.kept hM.kept) (f1_3.kept hM.kept)))
   | 5, ho, _ => cases ho; exact wn (kAssign rfl (hM.d 4 11 rfl))
   | zk + 6, ho, _ => simp at ho
  case en2 =>
   intro u2 lc2 W2 hK2 hB2 hO2 hV2 hX2 hA2
   have q2_1_0 := oth0 hO2 q1_0
   have f2_1 := f1_1.kept hK2
   have q2_1_1 := oth0 hO2 q1_1
   have f2_3 := f1_3.kept hK2
   have q2_1_2 := oth0 hO2 q1_2
   simp only [putK, fC, fN, kZ, kS, vV, sI, sZ, sS]
   have hBt2 := hBt1.trans hB2
   clear hV2 hX2 hA2
   go_upto_region 2 with fail
   by_cases hs : decide (x < 0) = decide (y < 0)
   · have HS := Lib.hid hs
     clear hs
     refine rg0 (n := 9) (t16 := 48) w.heap.size [.val (.pointer (some ⟨(lc1 0), 0, none⟩)), .val (.bool (decide (x < 0))), .val (.pointer (some ⟨(lc1 1), 0, none⟩)), .val (.bool (decide (y < 0))), vT, vT] [(0, 13), (1, 14), (2, 15), (3, 16), (4, 17), (5, 12)] hBt2.size ?st3 ?en3
     case st3 =>
      intro zi zo ho hro a' u lc W hM
      match zi, ho, hro with
      | 0, ho, _ => cases ho; exact wn (kField24_0 rfl (hM.ol 2))
      | 1, ho, _ => cases ho; exact wn (kLoad1 Tryz.underlying4 rfl rfl (hM.d 0 13 rfl) (hM.o0 q2_1_0) rfl rfl)
      | 2, ho, _ => cases ho; exact wn (kField24_0 rfl (hM.ol 3))
      | 3, ho, _ => cases ho; exact wn (kLoad1 Tryz.underlying4 rfl rfl (hM.d 2 15 rfl) (hM.o0 q2_1_1) rfl rfl)
      | 4, ho, _ => cases ho; exact wn (kEql4 rfl (hM.d 1 14 rfl) (hM.d 3 16 rfl) (by rw [HS.out]; simp))
      | 5, ho, _ => cases ho; exact wn (kAssign rfl (hM.d 4 17 rfl))
      | zk + 6, ho, _ => simp at ho
     case en3 =>
      intro u3 lc3 W3 hK3 hB3 hO3 hV3 hX3 hA3
      have q3_1_0 := oth0 hO3 q2_1_0
      have f3_1 := f2_1.kept hK3
      have q3_1_1 := oth0 hO3 q2_1_1
      have f3_3 := f2_3.kept hK3
      have q3_1_2 := oth0 hO3 q2_1_2
      simp only [putK, fC, fN, kZ, kS, vV, sI, sZ, sS]
      have hBt3 := hBt2.trans hB3
      clear hV3 hX3 hA3
      go_upto_region 3 with fail
      refine rg (n := 9) (t16 := 48) w.heap.size [(lc1 2)] [.val (.pointer (some ⟨(lc1 0), 0, none⟩)), .val (.bool (decide (x < 0))), .val (.pointer (some ⟨(lc1 0), 1, none⟩)), .val (.slice pa la ca), .val (.pointer (some ⟨(lc1 1), 1, none⟩)), .val (.slice pb lb cb), .k (rown (((x.natAbs : Nat) : Int) + ((y.natAbs : Nat) : Int))), .k (tup2 (.k (num z)) (vZ)), .k (num z), vZ, .any, vZ] [(0, 18), (1, 19), (2, 20), (3, 21), (4, 22), (5, 23), (6, 24), (7, 25), (8, 26), (9, 27), (11, 5)] [⟨24, none, (lc1 2), pt, 2, [.c #[.bool false, .slice none 0 0]], [(10, 0, 8)]⟩] ?ok4 ?st4 ?al4 ?pu4 ?en4
      case ok4 => exact BxOK.one ⟨(Nat.le_trans hB0.size g1_2), ⟨_, q3_1_2, rfl, rfl, rfl⟩, by simp, (by decide : (24 : Nat) ≠ 48)⟩ rfl hBt3.size
      case st4 =>
       intro zi zo ho hro a' u lc W hM
       match zi, ho, hro with
       | 0, ho, _ => cases ho; exact wn (kField24_0 rfl (hM.ol 2))
       | 1, ho, _ => cases ho; exact wn (kLoad1 Tryz.underlying4 rfl rfl (hM.d 0 18 rfl) (hM.o1 q3_1_0 (by omega)) rfl rfl)
       | 2, ho, _ => cases ho; exact wn (kField24_1 rfl (hM.ol 2))
       | 3, ho, _ => cases ho; exact wn (kLoad1 Tryz.underlying22 rfl rfl (hM.d 2 20 rfl) (hM.o1 q3_1_0 (by omega)) rfl rfl)
       | 4, ho, _ => cases ho; exact wn (kField24_1 rfl (hM.ol 3))
       | 5, ho, _ => cases ho; exact wn (kLoad1 Tryz.underlying22 rfl rfl (hM.d 4 22 rfl) (hM.o1 q3_1_1 (by omega)) rfl rfl)
       | 6, ho, _ => cases ho; exact wn (kCall2 rfl may127 (hM.d 3 21 rfl) (hM.d 5 23 rfl) (c127k HCX.out HCY.out (f3_1.kept hM.kept) (f3_3.kept hM.kept)))
       | 7, ho, _ => cases ho; exact wn (kCall2 rfl may96 (hM.d 1 19 rfl) (hM.v 6 24 rfl) (c96k (sum_same HX.out HS.out) HZ.out (hM.kd 6)))
       | 8, ho, _ => cases ho; exact wn (kEx20 rfl (hM.d 7 25 rfl))
       | 9, ho, _ => cases ho; exact wn (kEx21 rfl (hM.d 7 25 rfl))
       | 10, _, hro => exact nr1 hro (by kernel_rfl)
       | 11, ho, _ => cases ho; exact wn (kAssign rfl (hM.d 9 27 rfl))
       | zk + 12, ho, _ => simp at ho
      case al4 =>
       intro zk zb zi zo hk ha ho a' u lc W hM
       match zk, hk with
       | 0, hk => cases hk; cases ha
       | zk + 1, hk => simp at hk
      case pu4 =>
       intro zk zb zs zo hk hs ho a' u lc W zc hM hc hcs
       match zk, hk with
       | 0, hk =>
        cases hk
        simp only [List.mem_cons, List.not_mem_nil, or_false] at hs
        rcases hs with rfl
        · cases ho
          obtain ⟨sb, sp, sl, sc, e⟩ := (show Is (num z) (u 8) W from (hM.kd 8)).form
          exact kPut rfl e ((hM.ol 4).trans (show _ = Value.pointer (some ⟨lc 0, 0, none⟩) from by rw [show lc 0 = (lc1 2) from hM.locO 0 _ rfl rfl] <;> rfl)) (hM.v 8 26 rfl) hc hcs sz24
       | zk + 1, hk => simp at hk
      case en4 =>
       intro u4 lc4 W4 hK4 hB4 hO4 hV4 hX4 hA4
       have k4_8 := kk (hV4 8 26 rfl) rfl
       obtain ⟨qr, ho, hl⟩ := hX4 0 _ rfl
       have elc : lc4 0 = (lc1 2) := ho rfl
       rw [elc] at qr
       obtain ⟨x4_10, y4_10, z4_10, c4_10, es4_10⟩ := k4_8.form
       have sk4_10 : Is (num z) (.agg #[.bool x4_10, .slice y4_10 z4_10 c4_10]) W4 := by rw [← es4_10]; exact k4_8
       have q4_0 : W4.heap[(lc1 2)]? = some (.cells #[.bool x4_10, .slice y4_10 z4_10 c4_10] 24) := by
        rw [contAll_one rfl (cs := #[.bool x4_10, .slice y4_10 z4_10 c4_10]) (by rw [es4_10]; rfl) rfl] at qr; exact qr
       simp only [putK, fC, fN, kZ, kS, vV, vK, sI, sZ, sS]
       have hBt4 := hBt3.trans hB4
       clear hV4 hX4 hA4
       have cr0 := cell_of q4_0 0 rfl
       have cr1 := cell_of q4_0 1 rfl
       go_wp2
       exact bodyPost_ret (v := .tuple #[.agg #[.bool x4_10, .slice y4_10 z4_10 c4_10], .int .i64 0]) (by simp [results, Tryz.results100, go_sem, cr0, cr1]) rfl ⟨_, rfl, ⟨_, _, rfl, sk4_10, rfl⟩, hBt4⟩
   · have HS := Lib.hid hs
     clear hs
     refine rg0 (n := 9) (t16 := 48) w.heap.size [.val (.pointer (some ⟨(lc1 0), 0, none⟩)), .val (.bool (decide (x < 0))), .val (.pointer (some ⟨(lc1 1), 0, none⟩)), .val (.bool (decide (y < 0))), vF, vF] [(0, 13), (1, 14), (2, 15), (3, 16), (4, 17), (5, 12)] hBt2.size ?st3 ?en3
     case st3 =>
      intro zi zo ho hro a' u lc W hM
      match zi, ho, hro with
      | 0, ho, _ => cases ho; exact wn (kField24_0 rfl (hM.ol 2))
      | 1, ho, _ => cases ho; exact wn (kLoad1 Tryz.underlying4 rfl rfl (hM.d 0 13 rfl) (hM.o0 q2_1_0) rfl rfl)
      | 2, ho, _ => cases ho; exact wn (kField24_0 rfl (hM.ol 3))
      | 3, ho, _ => cases ho; exact wn (kLoad1 Tryz.underlying4 rfl rfl (hM.d 2 15 rfl) (hM.o0 q2_1_1) rfl rfl)
      | 4, ho, _ => cases ho; exact wn (kEql4 rfl (hM.d 1 14 rfl) (hM.d 3 16 rfl) (by rw [beq_eq_false_iff_ne]; exact HS.out))
      | 5, ho, _ => cases ho; exact wn (kAssign rfl (hM.d 4 17 rfl))
      | zk + 6, ho, _ => simp at ho
     case en3 =>
      intro u3 lc3 W3 hK3 hB3 hO3 hV3 hX3 hA3
      have q3_1_0 := oth0 hO3 q2_1_0
      have f3_1 := f2_1.kept hK3
      have q3_1_1 := oth0 hO3 q2_1_1
      have f3_3 := f2_3.kept hK3
      have q3_1_2 := oth0 hO3 q2_1_2
      simp only [putK, fC, fN, kZ, kS, vV, sI, sZ, sS]
      have hBt3 := hBt2.trans hB3
      clear hV3 hX3 hA3
      go_upto_region 4 with fail
      by_cases hg : ((y.natAbs : Nat) : Int) ≤ ((x.natAbs : Nat) : Int)
      · have HG := Lib.hid hg
        clear hg
        refine rg0 (n := 9) (t16 := 48) w.heap.size [.val (.int .i64 (cmpI ((x.natAbs : Nat) : Int) ((y.natAbs : Nat) : Int))), vT, vT] [(0, 29), (1, 30), (2, 28)] hBt3.size ?st4 ?en4
        case st4 =>
         intro zi zo ho hro a' u lc W hM
         match zi, ho, hro with
         | 0, ho, _ => cases ho; exact wn (kMove rfl (hM.ol 6))
         | 1, ho, _ => cases ho; exact wn (kGeqI rfl (hM.d 0 29 rfl) rfl (decide_eq_true (cmp_ge HG.out)))
         | 2, ho, _ => cases ho; exact wn (kAssign rfl (hM.d 1 30 rfl))
         | zk + 3, ho, _ => simp at ho
        case en4 =>
         intro u4 lc4 W4 hK4 hB4 hO4 hV4 hX4 hA4
         have q4_1_0 := oth0 hO4 q3_1_0
         have f4_1 := f3_1.kept hK4
         have q4_1_1 := oth0 hO4 q3_1_1
         have f4_3 := f3_3.kept hK4
         have q4_1_2 := oth0 hO4 q3_1_2
         simp only [putK, fC, fN, kZ, kS, vV, sI, sZ, sS]
         have hBt4 := hBt3.trans hB4
         clear hV4 hX4 hA4
         go_upto_region 5 with fail
         refine rg (n := 9) (t16 := 48) w.heap.size [(lc1 2)] [.val (.pointer (some ⟨(lc1 0), 0, none⟩)), .val (.bool (decide (x < 0))), .val (.pointer (some ⟨(lc1 0), 1, none⟩)), .val (.slice pa la ca), .val (.pointer (some ⟨(lc1 1), 1, none⟩)), .val (.slice pb lb cb), .k (rown (((x.natAbs : Nat) : Int) - ((y.natAbs : Nat) : Int))), .k (tup2 (.k (num z)) (vZ)), .k (num z), vZ, .any, vZ] [(0, 31), (1, 32), (2, 33), (3, 34), (4, 35), (5, 36), (6, 37), (7, 38), (8, 39), (9, 40), (11, 5)] [⟨24, none, (lc1 2), pt, 2, [.c #[.bool false, .slice none 0 0]], [(10, 0, 8)]⟩] ?ok5 ?st5 ?al5 ?pu5 ?en5
         case ok5 => exact BxOK.one ⟨(Nat.le_trans hB0.size g1_2), ⟨_, q4_1_2, rfl, rfl, rfl⟩, by simp, (by decide : (24 : Nat) ≠ 48)⟩ rfl hBt4.size
         case st5 =>
          intro zi zo ho hro a' u lc W hM
          match zi, ho, hro with
          | 0, ho, _ => cases ho; exact wn (kField24_0 rfl (hM.ol 2))
          | 1, ho, _ => cases ho; exact wn (kLoad1 Tryz.underlying4 rfl rfl (hM.d 0 31 rfl) (hM.o1 q4_1_0 (by omega)) rfl rfl)
          | 2, ho, _ => cases ho; exact wn (kField24_1 rfl (hM.ol 2))
          | 3, ho, _ => cases ho; exact wn (kLoad1 Tryz.underlying22 rfl rfl (hM.d 2 33 rfl) (hM.o1 q4_1_0 (by omega)) rfl rfl)
          | 4, ho, _ => cases ho; exact wn (kField24_1 rfl (hM.ol 3))
          | 5, ho, _ => cases ho; exact wn (kLoad1 Tryz.underlying22 rfl rfl (hM.d 4 35 rfl) (hM.o1 q4_1_1 (by omega)) rfl rfl)
          | 6, ho, _ => cases ho; exact wn (kCall2 rfl may128 (hM.d 3 34 rfl) (hM.d 5 36 rfl) (c128k HG.out HCX.out HCY.out (f4_1.kept hM.kept) (f4_3.kept hM.kept)))
          | 7, ho, _ => cases ho; exact wn (kCall2 rfl may96 (hM.d 1 32 rfl) (hM.v 6 37 rfl) (c96k (sum_ge HX.out HS.out HG.out) HZ.out (hM.kd 6)))
          | 8, ho, _ => cases ho; exact wn (kEx20 rfl (hM.d 7 38 rfl))
          | 9, ho, _ => cases ho; exact wn (kEx21 rfl (hM.d 7 38 rfl))
          | 10, _, hro => exact nr1 hro (by kernel_rfl)
          | 11, ho, _ => cases ho; exact wn (kAssign rfl (hM.d 9 40 rfl))
          | zk + 12, ho, _ => simp at ho
         case al5 =>
          intro zk zb zi zo hk ha ho a' u lc W hM
          match zk, hk with
          | 0, hk => cases hk; cases ha
          | zk + 1, hk => simp at hk
         case pu5 =>
          intro zk zb zs zo hk hs ho a' u lc W zc hM hc hcs
          match zk, hk with
          | 0, hk =>
           cases hk
           simp only [List.mem_cons, List.not_mem_nil, or_false] at hs
           rcases hs with rfl
           · cases ho
             obtain ⟨sb, sp, sl, sc, e⟩ := (show Is (num z) (u 8) W from (hM.kd 8)).form
             exact kPut rfl e ((hM.ol 4).trans (show _ = Value.pointer (some ⟨lc 0, 0, none⟩) from by rw [show lc 0 = (lc1 2) from hM.locO 0 _ rfl rfl] <;> rfl)) (hM.v 8 39 rfl) hc hcs sz24
          | zk + 1, hk => simp at hk
         case en5 =>
          intro u5 lc5 W5 hK5 hB5 hO5 hV5 hX5 hA5
          have k5_8 := kk (hV5 8 39 rfl) rfl
          obtain ⟨qr, ho, hl⟩ := hX5 0 _ rfl
          have elc : lc5 0 = (lc1 2) := ho rfl
          rw [elc] at qr
          obtain ⟨x5_10, y5_10, z5_10, c5_10, es5_10⟩ := k5_8.form
          have sk5_10 : Is (num z) (.agg #[.bool x5_10, .slice y5_10 z5_10 c5_10]) W5 := by rw [← es5_10]; exact k5_8
          have q5_0 : W5.heap[(lc1 2)]? = some (.cells #[.bool x5_10, .slice y5_10 z5_10 c5_10] 24) := by
           rw [contAll_one rfl (cs := #[.bool x5_10, .slice y5_10 z5_10 c5_10]) (by rw [es5_10]; rfl) rfl] at qr; exact qr
          simp only [putK, fC, fN, kZ, kS, vV, vK, sI, sZ, sS]
          have hBt5 := hBt4.trans hB5
          clear hV5 hX5 hA5
          have cr0 := cell_of q5_0 0 rfl
          have cr1 := cell_of q5_0 1 rfl
          go_wp2
          exact bodyPost_ret (v := .tuple #[.agg #[.bool x5_10, .slice y5_10 z5_10 c5_10], .int .i64 0]) (by simp [results, Tryz.results100, go_sem, cr0, cr1]) rfl ⟨_, rfl, ⟨_, _, rfl, sk5_10, rfl⟩, hBt5⟩
      · have HG := Lib.hid hg
        clear hg
        refine rg0 (n := 9) (t16 := 48) w.heap.size [.val (.int .i64 (cmpI ((x.natAbs : Nat) : Int) ((y.natAbs : Nat) : Int))), vF, vF] [(0, 29), (1, 30), (2, 28)] hBt3.size ?st4 ?en4
        case st4 =>
         intro zi zo ho hro a' u lc W hM
         match zi, ho, hro with
         | 0, ho, _ => cases ho; exact wn (kMove rfl (hM.ol 6))
         | 1, ho, _ => cases ho; exact wn (kGeqI rfl (hM.d 0 29 rfl) rfl (decide_eq_false (cmp_lt HG.out)))
         | 2, ho, _ => cases ho; exact wn (kAssign rfl (hM.d 1 30 rfl))
         | zk + 3, ho, _ => simp at ho
        case en4 =>
         intro u4 lc4 W4 hK4 hB4 hO4 hV4 hX4 hA4
         have q4_1_0 := oth0 hO4 q3_1_0
         have f4_1 := f3_1.kept hK4
         have q4_1_1 := oth0 hO4 q3_1_1
         have f4_3 := f3_3.kept hK4
         have q4_1_2 := oth0 hO4 q3_1_2
         simp only [putK, fC, fN, kZ, kS, vV, sI, sZ, sS]
         have hBt4 := hBt3.trans hB4
         clear hV4 hX4 hA4
         go_upto_region 6 with fail
         refine rg (n := 9) (t16 := 48) w.heap.size [(lc1 2)] [.val (.pointer (some ⟨(lc1 1), 0, none⟩)), .val (.bool (decide (y < 0))), .val (.pointer (some ⟨(lc1 1), 1, none⟩)), .val (.slice pb lb cb), .val (.pointer (some ⟨(lc1 0), 1, none⟩)), .val (.slice pa la ca), .k (rown (((y.natAbs : Nat) : Int) - ((x.natAbs : Nat) : Int))), .k (tup2 (.k (num z)) (vZ)), .k (num z), vZ, .any, vZ] [(0, 41), (1, 42), (2, 43), (3, 44), (4, 45), (5, 46), (6, 47), (7, 48), (8, 49), (9, 50), (11, 5)] [⟨24, none, (lc1 2), pt, 2, [.c #[.bool false, .slice none 0 0]], [(10, 0, 8)]⟩] ?ok5 ?st5 ?al5 ?pu5 ?en5
         case ok5 => exact BxOK.one ⟨(Nat.le_trans hB0.size g1_2), ⟨_, q4_1_2, rfl, rfl, rfl⟩, by simp, (by decide : (24 : Nat) ≠ 48)⟩ rfl hBt4.size
         case st5 =>
          intro zi zo ho hro a' u lc W hM
          match zi, ho, hro with
          | 0, ho, _ => cases ho; exact wn (kField24_0 rfl (hM.ol 3))
          | 1, ho, _ => cases ho; exact wn (kLoad1 Tryz.underlying4 rfl rfl (hM.d 0 41 rfl) (hM.o1 q4_1_1 (by omega)) rfl rfl)
          | 2, ho, _ => cases ho; exact wn (kField24_1 rfl (hM.ol 3))
          | 3, ho, _ => cases ho; exact wn (kLoad1 Tryz.underlying22 rfl rfl (hM.d 2 43 rfl) (hM.o1 q4_1_1 (by omega)) rfl rfl)
          | 4, ho, _ => cases ho; exact wn (kField24_1 rfl (hM.ol 2))
          | 5, ho, _ => cases ho; exact wn (kLoad1 Tryz.underlying22 rfl rfl (hM.d 4 45 rfl) (hM.o1 q4_1_0 (by omega)) rfl rfl)
          | 6, ho, _ => cases ho; exact wn (kCall2 rfl may128 (hM.d 3 44 rfl) (hM.d 5 46 rfl) (c128k (Int.le_of_lt (Int.not_le.1 HG.out)) HCY.out HCX.out (f4_3.kept hM.kept) (f4_1.kept hM.kept)))
          | 7, ho, _ => cases ho; exact wn (kCall2 rfl may96 (hM.d 1 42 rfl) (hM.v 6 47 rfl) (c96k (sum_lt HX.out HS.out HG.out) HZ.out (hM.kd 6)))
          | 8, ho, _ => cases ho; exact wn (kEx20 rfl (hM.d 7 48 rfl))
          | 9, ho, _ => cases ho; exact wn (kEx21 rfl (hM.d 7 48 rfl))
          | 10, _, hro => exact nr1 hro (by kernel_rfl)
          | 11, ho, _ => cases ho; exact wn (kAssign rfl (hM.d 9 50 rfl))
          | zk + 12, ho, _ => simp at ho
         case al5 =>
          intro zk zb zi zo hk ha ho a' u lc W hM
          match zk, hk with
          | 0, hk => cases hk; cases ha
          | zk + 1, hk => simp at hk
         case pu5 =>
          intro zk zb zs zo hk hs ho a' u lc W zc hM hc hcs
          match zk, hk with
          | 0, hk =>
           cases hk
           simp only [List.mem_cons, List.not_mem_nil, or_false] at hs
           rcases hs with rfl
           · cases ho
             obtain ⟨sb, sp, sl, sc, e⟩ := (show Is (num z) (u 8) W from (hM.kd 8)).form
             exact kPut rfl e ((hM.ol 4).trans (show _ = Value.pointer (some ⟨lc 0, 0, none⟩) from by rw [show lc 0 = (lc1 2) from hM.locO 0 _ rfl rfl] <;> rfl)) (hM.v 8 49 rfl) hc hcs sz24
          | zk + 1, hk => simp at hk
         case en5 =>
          intro u5 lc5 W5 hK5 hB5 hO5 hV5 hX5 hA5
          have k5_8 := kk (hV5 8 49 rfl) rfl
          obtain ⟨qr, ho, hl⟩ := hX5 0 _ rfl
          have elc : lc5 0 = (lc1 2) := ho rfl
          rw [elc] at qr
          obtain ⟨x5_10, y5_10, z5_10, c5_10, es5_10⟩ := k5_8.form
          have sk5_10 : Is (num z) (.agg #[.bool x5_10, .slice y5_10 z5_10 c5_10]) W5 := by rw [← es5_10]; exact k5_8
          have q5_0 : W5.heap[(lc1 2)]? = some (.cells #[.bool x5_10, .slice y5_10 z5_10 c5_10] 24) := by
           rw [contAll_one rfl (cs := #[.bool x5_10, .slice y5_10 z5_10 c5_10]) (by rw [es5_10]; rfl) rfl] at qr; exact qr
          simp only [putK, fC, fN, kZ, kS, vV, vK, sI, sZ, sS]
          have hBt5 := hBt4.trans hB5
          clear hV5 hX5 hA5
          have cr0 := cell_of q5_0 0 rfl
          have cr1 := cell_of q5_0 1 rfl
          go_wp2
          exact bodyPost_ret (v := .tuple #[.agg #[.bool x5_10, .slice y5_10 z5_10 c5_10], .int .i64 0]) (by simp [results, Tryz.results100, go_sem, cr0, cr1]) rfl ⟨_, rfl, ⟨_, _, rfl, sk5_10, rfl⟩, hBt5⟩
theorem c53 {x y z : Int} {v0 v1 : Value} {w : World} (hx : x + y = z) (hz : z.natAbs < Cap) (h0 : Is (num x) v0 w) (h1 : Is (num y) v1 w) : Calls Tryz.prog 53 #[v0, v1] w (Ret (.k (tup2 (.k (num z)) (.val (.int .i64 0)))) w) := by
 obtain ⟨pa, la, ca, rfl, ra, hcx⟩ := num_row h0
 obtain ⟨pb, lb, cb, rfl, rb, hcy⟩ := num_row h1
 have HX := Lib.hid hx
 have HZ := Lib.hid hz
 have HCX := Lib.hid hcx
 have HCY := Lib.hid hcy
 clear hx hz hcx hcy
 have hB0 := Below.refl w.heap.size w
 go_enter Tryz.func53, Tryz.ntmps53
 go_upto_region 0 with fail
 refine rg (n := 9) (t16 := 48) w.heap.size [] [.any, .any, .any, vZ] [(0, 2), (1, 3), (2, 4), (3, 5)] [⟨24, some 0, 0, pt, 2, [.c #[.bool (decide (x < 0)), .slice pa la ca]], []⟩, ⟨24, some 1, 0, pt, 2, [.c #[.bool (decide (y < 0)), .slice pb lb cb]], []⟩, ⟨24, some 2, 0, pt, 2, [.c #[.bool false, .slice none 0 0]], []⟩] ?ok1 ?st1 ?al1 ?pu1 ?en1
 case ok1 => exact BxOK.fresh rfl hB0.size
 case st1 =>
  intro zi zo ho hro a' u lc W hM
  match zi, ho, hro with
  | 0, _, hro => exact nr1 hro (by kernel_rfl)
  | 1, _, hro => exact nr1 hro (by kernel_rfl)
  | 2, _, hro => exact nr1 hro (by kernel_rfl)
  | 3, ho, _ => cases ho; exact wn (kAssign rfl rfl)
  | zk + 4, ho, _ => simp at ho
 case al1 =>
  intro zk zb zi zo hk ha ho a' u lc W hM
  match zk, hk with
  | 0, hk => cases hk; cases ha; cases ho; exact ⟨rfl, rfl, rfl, rfl, kBox rfl (hM.ol 0)⟩
  | 1, hk => cases hk; cases ha; cases ho; exact ⟨rfl, rfl, rfl, rfl, kBox rfl (hM.ol 1)⟩
  | 2, hk => cases hk; cases ha; cases ho; exact ⟨rfl, rfl, rfl, rfl, kAlloc24 rfl⟩
  | zk + 3, hk => simp at hk
 case pu1 =>
  intro zk zb zs zo hk hs ho a' u lc W zc hM hc hcs
  match zk, hk with
  | 0, hk => cases hk; simp at hs
  | 1, hk => cases hk; simp at hs
  | 2, hk => cases hk; simp at hs
  | zk + 3, hk => simp at hk
 case en1 =>
  intro u1 lc1 W1 hK1 hB1 hO1 hV1 hX1 hA1
  obtain ⟨qr, ho, hl⟩ := hX1 0 _ rfl
  have e1_0 : u1 0 = .pointer (some ⟨lc1 0, 0, none⟩) := (hl 0 rfl).1
  have g1_0 := (hl 0 rfl).2
  have f1_0 := h0.kept hK1
  have q1_0 : W1.heap[(lc1 0)]? = some (.cells #[.bool (decide (x < 0)), .slice pa la ca] 24) := by
   exact qr
  obtain ⟨qr, ho, hl⟩ := hX1 1 _ rfl
  have e1_1 : u1 1 = .pointer (some ⟨lc1 1, 0, none⟩) := (hl 1 rfl).1
  have g1_1 := (hl 1 rfl).2
  have f1_2 := h1.kept hK1
  have q1_1 : W1.heap[(lc1 1)]? = some (.cells #[.bool (decide (y < 0)), .slice pb lb cb] 24) := by
   exact qr
  obtain ⟨qr, ho, hl⟩ := hX1 2 _ rfl
  have e1_2 : u1 2 = .pointer (some ⟨lc1 2, 0, none⟩) := (hl 2 rfl).1
  have g1_2 := (hl 2 rfl).2
  have q1_2 : W1.heap[(lc1 2)]? = some (.cells #[.bool false, .slice none 0 0] 24) := by
   exact qr
  have ne1_0_2 := hA1 0 2 _ _ rfl rfl (by decide)
  have ne1_1_2 := hA1 1 2 _ _ rfl rfl (by decide)
  simp only [putK, fC, fN, kZ, kS, vV, vA, sI, sZ, sS, e1_0, e1_1, e1_2]
  have hBt1 := hB0.trans hB1
  clear hV1 hX1 hA1
  go_upto_region 1 with fail
  refine rg (n := 9) (t16 := 48) w.heap.size [] [.val (.agg #[.bool (decide (x < 0)), .slice pa la ca]), .val (.agg #[.bool (decide (y < 0)), .slice pb lb cb]), .any, vT, vF] [(0, 6), (1, 7), (2, 8), (3, 9), (4, 10)] [⟨24, some 2, 0, fun B => .slice (some ⟨B, 0, none⟩) 2 2, 4, [.c #[.bool (decide (x < 0)), .slice pa la ca, .bool (decide (y < 0)), .slice pb lb cb]], []⟩] ?ok2 ?st2 ?al2 ?pu2 ?en2
  case ok2 => exact BxOK.fresh rfl hBt1.size
  case st2 =>
   intro zi zo ho hro a' u lc W hM
   match zi, ho, hro with
   | 0, ho, _ => cases ho; exact wn (kL24 rfl (hM.ol 2) (hM.o0 q1_0) rfl)
   | 1, ho, _ => cases ho; exact wn (kL24 rfl (hM.ol 3) (hM.o0 q1_1) rfl)
   | 2, _, hro => exact nr1 hro (by kernel_rfl)
   | 3, ho, _ => cases ho; exact wn (kCall1 rfl may95 ((hM.v 2 8 rfl).trans (hM.loc 0 _ 2 rfl rfl (by kernel_rfl))) (c95n (hM.full 0 _ rfl (by kernel_rfl) rfl) (f1_0.kept hM.kept) (f1_2.kept hM.kept)))
   | 4, ho, _ => cases ho; exact wn (kNot rfl (hM.d 3 9 rfl) rfl)
   | zk + 5, ho, _ => simp at ho
  case al2 =>
   intro zk zb zi zo hk ha ho a' u lc W hM
   match zk, hk with
   | 0, hk => cases hk; cases ha; cases ho; exact ⟨rfl, rfl, rfl, rfl, kSliceW2 rfl (hM.d 0 6 rfl) (hM.d 1 7 rfl)⟩
   | zk + 1, hk => simp at hk
  case pu2 =>
   intro zk zb zs zo hk hs ho a' u lc W zc hM hc hcs
   match zk, hk with
   | 0, hk => cases hk; simp at hs
   | zk + 1, hk => simp at hk
  case en2 =>
   intro u2 lc2 W2 hK2 hB2 hO2 hV2 hX2 hA2
   have e2_0 := kv (hV2 0 6 rfl) rfl
   obtain ⟨qr, ho, hl⟩ := hX2 0 _ rfl
   have e2_2 : u2 2 = .slice (some ⟨lc2 0, 0, none⟩) 2 2 := (hl 2 rfl).1
   have g2_0 := (hl 2 rfl).2
   have f2_0 := f1_0.kept hK2
   have f2_2 := f1_2.kept hK2
   have ne2_0_1_2 := Nat.ne_of_lt (Nat.lt_of_lt_of_le (Array.getElem?_eq_some_iff.1 q1_2).1 g2_0)
   have q2_1_0 := oth0 hO2 q1_0
   have q2_1_1 := oth0 hO2 q1_1
   have q2_1_2 := oth0 hO2 q1_2
   simp only [putK, fC, fN, kZ, kS, vV, vA, sI, sZ, sS, e2_2]
   have hBt2 := hBt1.trans hB2
   clear hV2 hX2 hA2
   go_upto_region 3 with fail
   refine rg (n := 9) (t16 := 48) w.heap.size [(lc1 2)] [.val (.agg #[.bool (decide (x < 0)), .slice pa la ca]), .val (.agg #[.bool (decide (y < 0)), .slice pb lb cb]), .k (tup2 (.k (num z)) (vZ)), .k (num z), vZ, .any, vZ] [(0, 12), (1, 13), (2, 14), (3, 15), (4, 16), (6, 5)] [⟨24, none, (lc1 2), pt, 2, [.c #[.bool false, .slice none 0 0]], [(5, 0, 3)]⟩] ?ok3 ?st3 ?al3 ?pu3 ?en3
   case ok3 => exact BxOK.one ⟨(Nat.le_trans hB0.size g1_2), ⟨_, q2_1_2, rfl, rfl, rfl⟩, by simp, (by decide : (24 : Nat) ≠ 48)⟩ rfl hBt2.size
   case st3 =>
    intro zi zo ho hro a' u lc W hM
    match zi, ho, hro with
    | 0, ho, _ => cases ho; exact wn (kL24 rfl (hM.ol 2) (hM.o1 q2_1_0 (by omega)) rfl)
    | 1, ho, _ => cases ho; exact wn (kL24 rfl (hM.ol 3) (hM.o1 q2_1_1 (by omega)) rfl)
    | 2, ho, _ => cases ho; exact wn (kCall2 rfl may100 (hM.d 0 12 rfl) (hM.d 1 13 rfl) (c100 HX.out HZ.out (f2_0.kept hM.kept) (f2_2.kept hM.kept)))
    | 3, ho, _ => cases ho; exact wn (kEx20 rfl (hM.d 2 14 rfl))
    | 4, ho, _ => cases ho; exact wn (kEx21 rfl (hM.d 2 14 rfl))
    | 5, _, hro => exact nr1 hro (by kernel_rfl)
    | 6, ho, _ => cases ho; exact wn (kAssign rfl (hM.d 4 16 rfl))
    | zk + 7, ho, _ => simp at ho
   case al3 =>
    intro zk zb zi zo hk ha ho a' u lc W hM
    match zk, hk with
    | 0, hk => cases hk; cases ha
    | zk + 1, hk => simp at hk
   case pu3 =>
    intro zk zb zs zo hk hs ho a' u lc W zc hM hc hcs
    match zk, hk with
    | 0, hk =>
     cases hk
     simp only [List.mem_cons, List.not_mem_nil, or_false] at hs
     rcases hs with rfl
     · cases ho
       obtain ⟨sb, sp, sl, sc, e⟩ := (show Is (num z) (u 3) W from (hM.kd 3)).form
       exact kPut rfl e ((hM.ol 4).trans (show _ = Value.pointer (some ⟨lc 0, 0, none⟩) from by rw [show lc 0 = (lc1 2) from hM.locO 0 _ rfl rfl] <;> rfl)) (hM.v 3 15 rfl) hc hcs sz24
    | zk + 1, hk => simp at hk
   case en3 =>
    intro u3 lc3 W3 hK3 hB3 hO3 hV3 hX3 hA3
    have k3_3 := kk (hV3 3 15 rfl) rfl
    obtain ⟨qr, ho, hl⟩ := hX3 0 _ rfl
    have elc : lc3 0 = (lc1 2) := ho rfl
    rw [elc] at qr
    obtain ⟨x3_5, y3_5, z3_5, c3_5, es3_5⟩ := k3_3.form
    have sk3_5 : Is (num z) (.agg #[.bool x3_5, .slice y3_5 z3_5 c3_5]) W3 := by rw [← es3_5]; exact k3_3
    have q3_0 : W3.heap[(lc1 2)]? = some (.cells #[.bool x3_5, .slice y3_5 z3_5 c3_5] 24) := by
     rw [contAll_one rfl (cs := #[.bool x3_5, .slice y3_5 z3_5 c3_5]) (by rw [es3_5]; rfl) rfl] at qr; exact qr
    simp only [putK, fC, fN, kZ, kS, vV, vK, sI, sZ, sS]
    have hBt3 := hBt2.trans hB3
    clear hV3 hX3 hA3
    have cr0 := cell_of q3_0 0 rfl
    have cr1 := cell_of q3_0 1 rfl
    go_wp2
    exact bodyPost_ret (v := .tuple #[.agg #[.bool x3_5, .slice y3_5 z3_5 c3_5], .int .i64 0]) (by simp [results, Tryz.results53, go_sem, cr0, cr1]) rfl ⟨_, rfl, ⟨_, _, rfl, sk3_5, rfl⟩, hBt3⟩
end Go.Proofs.YtihdbjilolmfiaaGreatDoor
