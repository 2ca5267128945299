import Derived.Test.YtihdbjilolmfiaaGreatDoorD19
import Derived.Test.YtihdbjilolmfiaaGreatDoorD12
import Derived.Test.YtihdbjilolmfiaaGreatDoorD16
import Derived.Test.YtihdbjilolmfiaaGreatDoorD01
set_option maxRecDepth 100000
set_option maxHeartbeats 4000000
namespace Go.Proofs.YtihdbjilolmfiaaGreatDoor
open Go.RowKit Go.WM Go.WR
attribute [local go_sem] Oper.semAt_some
def CapF : Int := 65536 ^ 256
theorem CapF.eq : CapF = 65536 ^ 256 := rfl
attribute [irreducible] CapF
theorem rep_capF {zs : List Int} {n : Int} (h : Rep zs n) : zs.length ≤ 256 ↔ n < CapF := by rw [CapF.eq]; exact h.len_le_iff 256
def lim (zs : List Int) : SK48 := ⟨fun v W => ∃ p l c, v = .slice p l c ∧ Lims W.heap.size W v zs, fun _ _ _ hk ⟨p, l, c, e, h⟩ => ⟨p, l, c, e, h.kept hk⟩⟩
theorem num_mk {z : Int} {t : Bool} {zs : List Int} {p : Option Addr} {l c : Nat} {W : World} (ht : t = decide (z < 0)) (hL : Lims W.heap.size W (.slice p l c) zs) (hR : Rep zs z.natAbs) (hC : z.natAbs < Cap) : Is (num z) (.agg #[.bool t, .slice p l c]) W :=
 ⟨_, zs, by rw [ht], hL, hR, hC⟩
theorem num_sign {z : Int} {b : Bool} {s : Value} {W : World} (h : Is (num z) (.agg #[.bool b, s]) W) : b = decide (z < 0) := by
 obtain ⟨sv, zs, e, _⟩ := h
 cases e; rfl
theorem num_len {z : Int} {b : Bool} {p : Option Addr} {l c : Nat} {W : World} (h : Is (num z) (.agg #[.bool b, .slice p l c]) W) : l = 0 ↔ z = 0 := by
 obtain ⟨sv, zs, e, hL, hR, _⟩ := h
 cases e
 have h1 := hL.cells.1
 have h2 := hR.pos
 omega
theorem fr_frw {x y : Int} {v : Value} {W : World} (h : Is (fr x y) v W) : ∃ n1 z1 n2 z2, Is (frw n1 z1 n2 z2) v W ∧ Rep z1 x.natAbs ∧ Rep z2 y.natAbs := by
 obtain ⟨b1, p1, l1, c1, b2, p2, l2, c2, rfl, ⟨s1, z1, e1, hL1, hR1, _⟩, ⟨s2, z2, e2, hL2, hR2, _⟩⟩ := h
 cases e1; cases e2
 exact ⟨_, z1, _, z2, ⟨p1, l1, c1, p2, l2, c2, rfl, hL1, hL2⟩, hR1, hR2⟩
theorem c92 {zs : List Int} {v0 : Value} {w : World} (hl : zs.length ≤ 70368744177662) (h0 : Is (lim zs) v0 w) : Calls Tryz.prog 92 #[v0] w (Ret (.k (lim zs)) w) := by
 obtain ⟨p, l, c, rfl, hL⟩ := h0
 refine (clone_any _ zs w hl hL).mono ?_
 rintro e w' ⟨v, rfl, hO, hb⟩
 obtain ⟨p', l', c', rfl⟩ := hO.shape
 exact ⟨_, rfl, ⟨p', l', c', rfl, hO.lims⟩, hb⟩
theorem c87r {n1 n2 t : Bool} {z1 z2 : List Int} {v0 : Value} {w : World} (ht : (decide (z1.length ≤ 256) && decide (z2.length ≤ 256)) = t) (h0 : Is (frw n1 z1 n2 z2) v0 w) : Calls Tryz.prog 87 #[v0] w (Ret (.val (.bool t)) w) := by
 obtain ⟨p1, l1, c1, p2, l2, c2, rfl, hL1, hL2⟩ := h0
 have hl1 := hL1.cells.1
 have hl2 := hL2.cells.1
 rw [← hl1, ← hl2] at ht
 have HT := Lib.hid ht
 clear ht hl1 hl2 hL1 hL2
 have hB : Below w.heap.size w (w.alloc (.cells #[.bool n1, .slice p1 l1 c1, .bool n2, .slice p2 l2 c2] 73)) := (Below.refl _ w).alloc (Nat.le_refl _) _
 go_enter Tryz.func87, Tryz.ntmps87
 by_cases g1 : l1 ≤ 256
 · go_wp2
   go_ret
   refine ⟨_, rfl, ?_, hB⟩
   rw [← HT.out, decide_eq_true g1]
   show Value.bool (decide (((l2 : Nat) : Int) ≤ 256)) = .bool (true && decide (l2 ≤ 256))
   rw [Bool.true_and]
   exact congrArg Value.bool (decide_eq_decide.2 (by omega))
 · go_wp2
   go_ret
   exact ⟨_, rfl, by rw [← HT.out, decide_eq_false g1]; rfl, hB⟩
theorem c87 {x y : Int} {t : Bool} {v0 : Value} {w : World} (ht : (decide ((x.natAbs : Int) < CapF) && decide ((y.natAbs : Int) < CapF)) = t) (h0 : Is (fr x y) v0 w) : Calls Tryz.prog 87 #[v0] w (Ret (.val (.bool t)) w) := by
 obtain ⟨n1, z1, n2, z2, h, r1, r2⟩ := fr_frw h0
 refine c87r ?_ h
 rw [← ht, decide_eq_decide.2 (rep_capF r1), decide_eq_decide.2 (rep_capF r2)]
theorem c66 {x y : Int} {t : Bool} {v0 : Value} {w : World} (ht : decide (x = 0) = t) (h0 : Is (fr x y) v0 w) : Calls Tryz.prog 66 #[v0] w (Ret (.val (.bool t)) w) := by
 obtain ⟨b1, p1, l1, c1, b2, p2, l2, c2, rfl, h1, h2⟩ := h0
 have hl : decide (((l1 : Nat) : Int) = 0) = t := by
  rw [← ht]
  have := num_len (W := w) h1
  exact decide_eq_decide.2 (by omega)
 have HT := Lib.hid hl
 clear hl ht h1 h2
 have hB : Below w.heap.size w (w.alloc (.cells #[.bool b1, .slice p1 l1 c1, .bool b2, .slice p2 l2 c2] 73)) := (Below.refl _ w).alloc (Nat.le_refl _) _
 go_enter Tryz.func66, Tryz.ntmps66
 go_wp2
 go_ret
 refine ⟨_, rfl, ?_, hB⟩
 rw [← HT.out]
 show Value.bool _ = Value.bool _
 by_cases h : l1 = 0 <;> simp [h]
theorem c86 {z : Int} {t : Bool} {v0 : Value} {w : World} (ht : decide (z = 1) = t) (h0 : Is (num z) v0 w) : Calls Tryz.prog 86 #[v0] w (Ret (.val (.bool t)) w) := by
 obtain ⟨sv, zs, rfl, hL, hR, hC⟩ := h0
 obtain ⟨p, l, c, rfl⟩ := hL.form
 have hl := hL.cells.1
 have HT := Lib.hid ht
 clear ht hC
 by_cases hz : z < 0
 · rw [decide_eq_true hz]
   have hf : t = false := by rw [← HT.out]; exact decide_eq_false (by omega)
   subst hf
   clear HT hl hR hL
   go_enter Tryz.func86, Tryz.ntmps86
   go_wp2
   go_ret
   exact ⟨_, rfl, rfl, (Below.refl _ w).alloc (Nat.le_refl _) _⟩
 · rw [decide_eq_false hz]
   by_cases h1 : l = 1
   · subst h1
     obtain ⟨y, rfl⟩ : ∃ y, zs = [y] := by
      match zs, hl with
      | [y], _ => exact ⟨y, rfl⟩
     have hy : y = z := by have := hR.eq; simp [val] at this; omega
     subst hy
     obtain ⟨b, off, rfl, hb, _, hc⟩ := hL.cells.2 (by decide)
     have hc0 : w.cell? ⟨b, off, none⟩ = some (.int .u16 y) := hc 0 (by decide)
     have hB : Below w.heap.size w (w.alloc (.cells #[.bool false, .slice (some ⟨b, off, none⟩) 1 c] 24)) := (Below.refl _ w).alloc (Nat.le_refl _) _
     have hc1 := (hB.cell (p := ⟨b, off, none⟩) hb).trans hc0
     clear hL hR hc hl hc0
     by_cases hy1 : y = 1
     · have hf : t = true := by rw [← HT.out]; exact decide_eq_true hy1
       subst hf
       subst hy1
       clear HT
       go_enter Tryz.func86, Tryz.ntmps86
       go_wp2
       go_ret
       exact ⟨_, rfl, rfl, hB⟩
     · have hf : t = false := by rw [← HT.out]; exact decide_eq_false hy1
       subst hf
       clear HT
       have hq : (y == 1) = false := beq_eq_false_iff_ne.2 hy1
       go_enter Tryz.func86, Tryz.ntmps86
       go_wp2
       go_ret
       exact ⟨_, rfl, rfl, hB⟩
   · have hf : t = false := by
      rw [← HT.out]
      refine decide_eq_false (fun e => h1 ?_)
      subst e
      have h2 : zs.length ≤ 1 := (hR.len_le_iff 1).2 (by decide)
      have h3 := hR.pos
      omega
     subst hf
     have hq : (((l : Nat) : Int) == 1) = false := beq_eq_false_iff_ne.2 (by omega)
     clear HT hl hR hL
     go_enter Tryz.func86, Tryz.ntmps86
     go_wp2
     go_ret
     exact ⟨_, rfl, rfl, (Below.refl _ w).alloc (Nat.le_refl _) _⟩
theorem c75fit {x y : Int} {v0 : Value} {w : World} (ht : (decide ((x.natAbs : Int) < CapF) && decide ((y.natAbs : Int) < CapF)) = true) (h0 : Is (fr x y) v0 w) : Calls Tryz.prog 75 #[v0] w (Ret (.k (tup2 (.k (fr x y)) (.val (.int .i64 0)))) w) := by
 obtain ⟨ya0, yp0, yl0, yd0, ye0, yq0, ym0, yr0, rfl, yg0, yk0⟩ := id h0
 replace yg0 : Is (num x) (.agg #[.bool ya0, .slice yp0 yl0 yd0]) w := yg0
 replace yk0 : Is (num y) (.agg #[.bool ye0, .slice yq0 ym0 yr0]) w := yk0
 have hB0 := Below.refl w.heap.size w
 have HT := Lib.hid ht
 clear ht
 go_enter Tryz.func75, Tryz.ntmps75
 go_upto_region 0 with fail
 refine rg (n := 9) (t16 := 48) w.heap.size [] [.any, .any, vZ] [(0, 1), (1, 2), (2, 3)] [⟨73, some 0, 0, pt, 4, [.c #[.bool ya0, .slice yp0 yl0 yd0, .bool ye0, .slice yq0 ym0 yr0]], []⟩, ⟨26, some 1, 0, pt, 4, [.c #[.bool false, .slice none 0 0, .bool false, .slice none 0 0]], []⟩] ?ok1 ?st1 ?al1 ?pu1 ?en1
 case ok1 => exact BxOK.fresh rfl hB0.size
 case st1 =>
  intro zi zo ho hro a' u lc W hM
  match zi, ho, hro with
  | 0, _, hro => exact nr1 hro (by kernel_rfl)
  | 1, _, hro => exact nr1 hro (by kernel_rfl)
  | 2, ho, _ => cases ho; exact wn (kAssign rfl rfl)
  | zk + 3, ho, _ => simp at ho
 case al1 =>
  intro zk zb zi zo hk ha ho a' u lc W hM
  match zk, hk with
  | 0, hk => cases hk; cases ha; cases ho; exact ⟨rfl, rfl, rfl, rfl, kBox rfl (hM.ol 0)⟩
  | 1, hk => cases hk; cases ha; cases ho; exact ⟨rfl, rfl, rfl, rfl, kAlloc26 rfl⟩
  | zk + 2, hk => simp at hk
 case pu1 =>
  intro zk zb zs zo hk hs ho a' u lc W zc hM hc hcs
  match zk, hk with
  | 0, hk => cases hk; simp at hs
  | 1, hk => cases hk; simp at hs
  | zk + 2, hk => simp at hk
 case en1 =>
  intro u1 lc1 W1 hK1 hB1 hO1 hV1 hX1 hA1
  obtain ⟨qr, ho, hl⟩ := hX1 0 _ rfl
  have e1_0 : u1 0 = .pointer (some ⟨lc1 0, 0, none⟩) := (hl 0 rfl).1
  have g1_0 := (hl 0 rfl).2
  have f1_0 := h0.kept hK1
  have q1_0 : W1.heap[(lc1 0)]? = some (.cells #[.bool ya0, .slice yp0 yl0 yd0, .bool ye0, .slice yq0 ym0 yr0] 73) := by
   exact qr
  obtain ⟨qr, ho, hl⟩ := hX1 1 _ rfl
  have e1_1 : u1 1 = .pointer (some ⟨lc1 1, 0, none⟩) := (hl 1 rfl).1
  have g1_1 := (hl 1 rfl).2
  have q1_1 : W1.heap[(lc1 1)]? = some (.cells #[.bool false, .slice none 0 0, .bool false, .slice none 0 0] 26) := by
   exact qr
  have ne1_0_1 := hA1 0 1 _ _ rfl rfl (by decide)
  simp only [putK, fC, fN, kZ, kS, vV, vA, sI, sZ, sS, e1_0, e1_1]
  have hBt1 := hB0.trans hB1
  clear hV1 hX1 hA1
  go_upto_region 1 with fail
  refine rg0 (n := 9) (t16 := 48) w.heap.size [.val (.agg #[.bool ya0, .slice yp0 yl0 yd0, .bool ye0, .slice yq0 ym0 yr0]), vT, vF] [(0, 4), (1, 5), (2, 6)] hBt1.size ?st2 ?en2
  case st2 =>
   intro zi zo ho hro a' u lc W hM
   match zi, ho, hro with
   | 0, ho, _ => cases ho; exact wn (kLoad (rs := [.bool ya0, .slice yp0 yl0 yd0, .bool ye0, .slice yq0 ym0 yr0]) Tryz.underlying73 rfl sz73 rfl (hM.ol 1) (hM.o0 q1_0) rfl rfl)
   | 1, ho, _ => cases ho; exact wn (kCall1 rfl may87 (hM.d 0 4 rfl) (c87 HT.out (f1_0.kept hM.kept)))
   | 2, ho, _ => cases ho; exact wn (kNot rfl (hM.d 1 5 rfl) rfl)
   | zk + 3, ho, _ => simp at ho
  case en2 =>
   intro u2 lc2 W2 hK2 hB2 hO2 hV2 hX2 hA2
   have q2_1_0 := oth0 hO2 q1_0
   have f2_0 := f1_0.kept hK2
   have q2_1_1 := oth0 hO2 q1_1
   simp only [putK, fC, fN, kZ, kS, vV, sI, sZ, sS]
   have hBt2 := hBt1.trans hB2
   clear hV2 hX2 hA2
   go_upto_region 3 with fail
   refine rg (n := 9) (t16 := 48) w.heap.size [(lc1 1)] [.val (.pointer (some ⟨(lc1 0), 0, none⟩)), .val (.agg #[.bool ya0, .slice yp0 yl0 yd0, .bool ye0, .slice yq0 ym0 yr0]), .any, vZ] [(0, 8), (1, 9), (3, 3)] [⟨26, none, (lc1 1), pt, 4, [.c #[.bool false, .slice none 0 0, .bool false, .slice none 0 0]], [(2, 0, 1)]⟩] ?ok3 ?st3 ?al3 ?pu3 ?en3
   case ok3 => exact BxOK.one ⟨(Nat.le_trans hB0.size g1_1), ⟨_, q2_1_1, rfl, rfl, rfl⟩, by simp, (by decide : (26 : Nat) ≠ 48)⟩ rfl hBt2.size
   case st3 =>
    intro zi zo ho hro a' u lc W hM
    match zi, ho, hro with
    | 0, ho, _ => cases ho; exact wn (kField73_0 rfl (hM.ol 1))
    | 1, ho, _ => cases ho; exact wn (kL26 rfl (hM.d 0 8 rfl) (hM.o1 q2_1_0 (by omega)))
    | 2, _, hro => exact nr1 hro (by kernel_rfl)
    | 3, ho, _ => cases ho; exact wn (kAssign rfl rfl)
    | zk + 4, ho, _ => simp at ho
   case al3 =>
    intro zk zb zi zo hk ha ho a' u lc W hM
    match zk, hk with
    | 0, hk => cases hk; cases ha
    | zk + 1, hk => simp at hk
   case pu3 =>
    intro zk zb zs zo hk hs ho a' u lc W zc hM hc hcs
    match zk, hk with
    | 0, hk =>
     cases hk
     simp only [List.mem_cons, List.not_mem_nil, or_false] at hs
     rcases hs with rfl
     · cases ho
       have e : u 1 = .agg #[.bool ya0, .slice yp0 yl0 yd0, .bool ye0, .slice yq0 ym0 yr0] := hM.kd 1
       exact kPut rfl e ((hM.ol 2).trans (show _ = Value.pointer (some ⟨lc 0, 0, none⟩) from by rw [show lc 0 = (lc1 1) from hM.locO 0 _ rfl rfl]; rfl)) (hM.v 1 9 rfl) hc hcs sz26
    | zk + 1, hk => simp at hk
   case en3 =>
    intro u3 lc3 W3 hK3 hB3 hO3 hV3 hX3 hA3
    have e3_1 := kv (hV3 1 9 rfl) rfl
    obtain ⟨qr, ho, hl⟩ := hX3 0 _ rfl
    have elc : lc3 0 = (lc1 1) := ho rfl
    rw [elc] at qr
    have f3_0 := f2_0.kept hK3
    have q3_0 : W3.heap[(lc1 1)]? = some (.cells #[.bool ya0, .slice yp0 yl0 yd0, .bool ye0, .slice yq0 ym0 yr0] 26) := by
     rw [contAll_one rfl (cs := #[.bool ya0, .slice yp0 yl0 yd0, .bool ye0, .slice yq0 ym0 yr0]) (by rw [e3_1]; rfl) rfl] at qr; exact qr
    simp only [putK, fC, fN, kZ, kS, vV, sI, sZ, sS]
    have hBt3 := hBt2.trans hB3
    clear hV3 hX3 hA3
    have cr0 := cell_of q3_0 0 rfl
    have cr1 := cell_of q3_0 1 rfl
    have cr2 := cell_of q3_0 2 rfl
    have cr3 := cell_of q3_0 3 rfl
    go_wp2
    exact bodyPost_ret (v := .tuple #[.agg #[.bool ya0, .slice yp0 yl0 yd0, .bool ye0, .slice yq0 ym0 yr0], .int .i64 0]) (by simp [results, Tryz.results75, go_sem, cr0, cr1, cr2, cr3]) rfl ⟨_, rfl, ⟨_, _, rfl, f3_0, rfl⟩, hBt3⟩
theorem c91a {x : Int} {v0 : Value} {w : World} (hx : x < 0) (h0 : Is (num x) v0 w) : Calls Tryz.prog 91 #[v0] w (Ret (.k (num (-x))) w) := by
 obtain ⟨sv, zs, rfl, hL, hR, hC⟩ := h0
 obtain ⟨yp0, yl0, yd0, rfl⟩ := hL.form
 have hlen := hL.cells.1
 have hpos := hR.pos
 have hcl : zs.length ≤ 70368744177662 := by have := hR.cap.2 hC; omega
 have HCL := Lib.hid hcl
 rw [show decide (x < 0) = true from decide_eq_true hx]
 have hlim : Is (lim zs) (.slice yp0 yl0 yd0) w := ⟨_, _, _, rfl, hL⟩
 have hR' : Rep zs (-x).natAbs := by rw [Int.natAbs_neg]; exact hR
 have hC' : ((-x).natAbs : Int) < Cap := by rw [Int.natAbs_neg]; exact hC
 have HR := Lib.hid hR'
 have HC := Lib.hid hC'
 have hsg : false = decide (-x < 0) := (decide_eq_false (by omega)).symm
 have HS := Lib.hid hsg
 clear hL hR hC hlen hpos hcl hR' hC' hsg hx
 have hB0 := Below.refl w.heap.size w
 go_enter Tryz.func91, Tryz.ntmps91
 go_upto_region 0 with fail
 refine rg (n := 9) (t16 := 48) w.heap.size [] [.any, .any] [(0, 1), (1, 2)] [⟨24, some 0, 0, pt, 2, [.c #[.bool true, .slice yp0 yl0 yd0]], []⟩, ⟨24, some 1, 0, pt, 2, [.c #[.bool false, .slice none 0 0]], []⟩] ?ok1 ?st1 ?al1 ?pu1 ?en1
 case ok1 => exact BxOK.fresh rfl hB0.size
 case st1 =>
  intro zi zo ho hro a' u lc W hM
  match zi, ho, hro with
  | 0, _, hro => exact nr1 hro (by kernel_rfl)
  | 1, _, hro => exact nr1 hro (by kernel_rfl)
  | zk + 2, ho, _ => simp at ho
 case al1 =>
  intro zk zb zi zo hk ha ho a' u lc W hM
  match zk, hk with
  | 0, hk => cases hk; cases ha; cases ho; exact ⟨rfl, rfl, rfl, rfl, kBox rfl (hM.ol 0)⟩
  | 1, hk => cases hk; cases ha; cases ho; exact ⟨rfl, rfl, rfl, rfl, kAlloc24 rfl⟩
  | zk + 2, hk => simp at hk
 case pu1 =>
  intro zk zb zs zo hk hs ho a' u lc W zc hM hc hcs
  match zk, hk with
  | 0, hk => cases hk; simp at hs
  | 1, hk => cases hk; simp at hs
  | zk + 2, hk => simp at hk
 case en1 =>
  intro u1 lc1 W1 hK1 hB1 hO1 hV1 hX1 hA1
  obtain ⟨qr, ho, hl⟩ := hX1 0 _ rfl
  have e1_0 : u1 0 = .pointer (some ⟨lc1 0, 0, none⟩) := (hl 0 rfl).1
  have g1_0 := (hl 0 rfl).2
  have f1_0 := hlim.kept hK1
  have q1_0 : W1.heap[(lc1 0)]? = some (.cells #[.bool true, .slice yp0 yl0 yd0] 24) := by
   exact qr
  obtain ⟨qr, ho, hl⟩ := hX1 1 _ rfl
  have e1_1 : u1 1 = .pointer (some ⟨lc1 1, 0, none⟩) := (hl 1 rfl).1
  have g1_1 := (hl 1 rfl).2
  have q1_1 : W1.heap[(lc1 1)]? = some (.cells #[.bool false, .slice none 0 0] 24) := by
   exact qr
  have ne1_0_1 := hA1 0 1 _ _ rfl rfl (by decide)
  simp only [putK, fC, fN, kZ, kS, vA, sI, sZ, sS, e1_0, e1_1]
  have hBt1 := hB0.trans hB1
  clear hV1 hX1 hA1
  go_upto_region 1 with fail
  refine rg (n := 9) (t16 := 48) w.heap.size [(lc1 1)] [.val (.pointer (some ⟨(lc1 0), 0, none⟩)), vT, vF, vF, .any, .any, .any, .any, vF, .val (.pointer (some ⟨(lc1 0), 1, none⟩)), .val (.slice yp0 yl0 yd0), .k (lim zs), .k (num (-x)), .any] [(0, 3), (1, 4), (2, 5), (3, 6), (4, 7), (5, 8), (6, 9), (7, 10), (8, 11), (9, 12), (10, 13), (11, 14), (12, 15)] [⟨24, none, (lc1 1), pt, 2, [.c #[.bool false, .slice none 0 0]], [(13, 0, 12)]⟩] ?ok2 ?st2 ?al2 ?pu2 ?en2
  case ok2 => exact BxOK.one ⟨(Nat.le_trans hB0.size g1_1), ⟨_, q1_1, rfl, rfl, rfl⟩, by simp, (by decide : (24 : Nat) ≠ 48)⟩ rfl hBt1.size
  case st2 =>
   intro zi zo ho hro a' u lc W hM
   match zi, ho, hro with
   | 0, ho, _ => cases ho; exact wn (kField24_0 rfl (hM.ol 1))
   | 1, ho, _ => cases ho; exact wn (kLoad1 Tryz.underlying4 rfl rfl (hM.d 0 3 rfl) (hM.o1 q1_0 (by omega)) rfl rfl)
   | 2, ho, _ => cases ho; exact wn (kNot rfl (hM.d 1 4 rfl) rfl)
   | 3, ho, _ => cases ho; exact wn (kMove rfl (hM.d 2 5 rfl))
   | 4, ho, _ => cases ho; exact hM.wz (hM.d 3 6 rfl)
   | 5, ho, _ => cases ho; exact hM.wz (hM.d 3 6 rfl)
   | 6, ho, _ => cases ho; exact hM.wz (hM.d 3 6 rfl)
   | 7, ho, _ => cases ho; exact hM.wz (hM.d 3 6 rfl)
   | 8, ho, _ => cases ho; exact wn (kPick rfl (hM.d 3 6 rfl) rfl)
   | 9, ho, _ => cases ho; exact wn (kField24_1 rfl (hM.ol 1))
   | 10, ho, _ => cases ho; exact wn (kLoad1 Tryz.underlying22 rfl rfl (hM.d 9 12 rfl) (hM.o1 q1_0 (by omega)) rfl rfl)
   | 11, ho, _ => cases ho; exact wn (kCall1 rfl may92 (hM.d 10 13 rfl) (c92 HCL.out (f1_0.kept hM.kept)))
   | 12, ho, _ =>
    cases ho
    refine .inl ⟨wanted_none rfl, ?_⟩
    obtain ⟨sp, sl, sc, e, hl⟩ := (show Is (lim zs) _ W from (hM.kd 11))
    rw [e] at hl
    exact kBuild24 rfl (hM.d 8 11 rfl) ((hM.v 11 14 rfl).trans e) (num_mk HS.out hl HR.out HC.out)
   | 13, _, hro => exact nr1 hro (by kernel_rfl)
   | zk + 14, ho, _ => simp at ho
  case al2 =>
   intro zk zb zi zo hk ha ho a' u lc W hM
   match zk, hk with
   | 0, hk => cases hk; cases ha
   | zk + 1, hk => simp at hk
  case pu2 =>
   intro zk zb zs zo hk hs ho a' u lc W zc hM hc hcs
   match zk, hk with
   | 0, hk =>
    cases hk
    simp only [List.mem_cons, List.not_mem_nil, or_false] at hs
    rcases hs with rfl
    · cases ho
      obtain ⟨sb, sp, sl, sc, e⟩ := (show Is (num (-x)) (u 12) W from (hM.kd 12)).form
      exact kPut rfl e ((hM.ol 2).trans (show _ = Value.pointer (some ⟨lc 0, 0, none⟩) from by rw [show lc 0 = (lc1 1) from hM.locO 0 _ rfl rfl]; rfl)) (hM.v 12 15 rfl) hc hcs sz24
   | zk + 1, hk => simp at hk
  case en2 =>
   intro u2 lc2 W2 hK2 hB2 hO2 hV2 hX2 hA2
   have k2_12 := kk (hV2 12 15 rfl) rfl
   obtain ⟨qr, ho, hl⟩ := hX2 0 _ rfl
   have elc : lc2 0 = (lc1 1) := ho rfl
   rw [elc] at qr
   obtain ⟨x2_13, y2_13, z2_13, c2_13, es2_13⟩ := k2_12.form
   have sk2_13 : Is (num (-x)) (.agg #[.bool x2_13, .slice y2_13 z2_13 c2_13]) W2 := by rw [← es2_13]; exact k2_12
   have q2_0 : W2.heap[(lc1 1)]? = some (.cells #[.bool x2_13, .slice y2_13 z2_13 c2_13] 24) := by
    rw [contAll_one rfl (cs := #[.bool x2_13, .slice y2_13 z2_13 c2_13]) (by rw [es2_13]; rfl) rfl] at qr; exact qr
   simp only [putK, fC, fN, kZ, kS, vV, vA, vK, sI, sZ, sS]
   have hBt2 := hBt1.trans hB2
   clear hV2 hX2 hA2
   have cr0 := cell_of q2_0 0 rfl
   have cr1 := cell_of q2_0 1 rfl
   go_wp2
   exact bodyPost_ret (v := .agg #[.bool x2_13, .slice y2_13 z2_13 c2_13]) (by simp [results, Tryz.results91, go_sem, cr0, cr1]) rfl ⟨_, rfl, sk2_13, hBt2⟩
theorem c91b {x : Int} {v0 : Value} {w : World} (hx : ¬ x < 0) (h0 : Is (num x) v0 w) : Calls Tryz.prog 91 #[v0] w (Ret (.k (num (-x))) w) := by
 obtain ⟨sv, zs, rfl, hL, hR, hC⟩ := h0
 obtain ⟨yp0, yl0, yd0, rfl⟩ := hL.form
 have hlen := hL.cells.1
 have hpos := hR.pos
 have hcl : zs.length ≤ 70368744177662 := by have := hR.cap.2 hC; omega
 have HCL := Lib.hid hcl
 rw [show decide (x < 0) = false from decide_eq_false hx]
 have hlim : Is (lim zs) (.slice yp0 yl0 yd0) w := ⟨_, _, _, rfl, hL⟩
 have hR' : Rep zs (-x).natAbs := by rw [Int.natAbs_neg]; exact hR
 have hC' : ((-x).natAbs : Int) < Cap := by rw [Int.natAbs_neg]; exact hC
 have HR := Lib.hid hR'
 have HC := Lib.hid hC'
 obtain ⟨t, ht⟩ : ∃ t, decide (0 < ((yl0 : Nat) : Int)) = t := ⟨_, rfl⟩
 have hsg : t = decide (-x < 0) := by rw [← ht]; exact decide_eq_decide.2 (by omega)
 have HS := Lib.hid hsg
 have HT := Lib.hid ht
 clear hL hR hC hlen hpos hcl hR' hC' hsg hx ht
 have hB0 := Below.refl w.heap.size w
 go_enter Tryz.func91, Tryz.ntmps91
 go_upto_region 0 with fail
 refine rg (n := 9) (t16 := 48) w.heap.size [] [.any, .any] [(0, 1), (1, 2)] [⟨24, some 0, 0, pt, 2, [.c #[.bool false, .slice yp0 yl0 yd0]], []⟩, ⟨24, some 1, 0, pt, 2, [.c #[.bool false, .slice none 0 0]], []⟩] ?ok1 ?st1 ?al1 ?pu1 ?en1
 case ok1 => exact BxOK.fresh rfl hB0.size
 case st1 =>
  intro zi zo ho hro a' u lc W hM
  match zi, ho, hro with
  | 0, _, hro => exact nr1 hro (by kernel_rfl)
  | 1, _, hro => exact nr1 hro (by kernel_rfl)
  | zk + 2, ho, _ => simp at ho
 case al1 =>
  intro zk zb zi zo hk ha ho a' u lc W hM
  match zk, hk with
  | 0, hk => cases hk; cases ha; cases ho; exact ⟨rfl, rfl, rfl, rfl, kBox rfl (hM.ol 0)⟩
  | 1, hk => cases hk; cases ha; cases ho; exact ⟨rfl, rfl, rfl, rfl, kAlloc24 rfl⟩
  | zk + 2, hk => simp at hk
 case pu1 =>
  intro zk zb zs zo hk hs ho a' u lc W zc hM hc hcs
  match zk, hk with
  | 0, hk => cases hk; simp at hs
  | 1, hk => cases hk; simp at hs
  | zk + 2, hk => simp at hk
 case en1 =>
  intro u1 lc1 W1 hK1 hB1 hO1 hV1 hX1 hA1
  obtain ⟨qr, ho, hl⟩ := hX1 0 _ rfl
  have e1_0 : u1 0 = .pointer (some ⟨lc1 0, 0, none⟩) := (hl 0 rfl).1
  have g1_0 := (hl 0 rfl).2
  have f1_0 := hlim.kept hK1
  have q1_0 : W1.heap[(lc1 0)]? = some (.cells #[.bool false, .slice yp0 yl0 yd0] 24) := by
   exact qr
  obtain ⟨qr, ho, hl⟩ := hX1 1 _ rfl
  have e1_1 : u1 1 = .pointer (some ⟨lc1 1, 0, none⟩) := (hl 1 rfl).1
  have g1_1 := (hl 1 rfl).2
  have q1_1 : W1.heap[(lc1 1)]? = some (.cells #[.bool false, .slice none 0 0] 24) := by
   exact qr
  have ne1_0_1 := hA1 0 1 _ _ rfl rfl (by decide)
  simp only [putK, fC, fN, kZ, kS, vA, sI, sZ, sS, e1_0, e1_1]
  have hBt1 := hB0.trans hB1
  clear hV1 hX1 hA1
  go_upto_region 1 with fail
  refine rg (n := 9) (t16 := 48) w.heap.size [(lc1 1)] [.val (.pointer (some ⟨(lc1 0), 0, none⟩)), vF, vT, vT, .val (.pointer (some ⟨(lc1 0), 1, none⟩)), .val (.slice yp0 yl0 yd0), .val (.int .i64 ((yl0 : Nat) : Int)), .val (.bool t), .val (.bool t), .val (.pointer (some ⟨(lc1 0), 1, none⟩)), .val (.slice yp0 yl0 yd0), .k (lim zs), .k (num (-x)), .any] [(0, 3), (1, 4), (2, 5), (3, 6), (4, 7), (5, 8), (6, 9), (7, 10), (8, 11), (9, 12), (10, 13), (11, 14), (12, 15)] [⟨24, none, (lc1 1), pt, 2, [.c #[.bool false, .slice none 0 0]], [(13, 0, 12)]⟩] ?ok2 ?st2 ?al2 ?pu2 ?en2
  case ok2 => exact BxOK.one ⟨(Nat.le_trans hB0.size g1_1), ⟨_, q1_1, rfl, rfl, rfl⟩, by simp, (by decide : (24 : Nat) ≠ 48)⟩ rfl hBt1.size
  case st2 =>
   intro zi zo ho hro a' u lc W hM
   match zi, ho, hro with
   | 0, ho, _ => cases ho; exact wn (kField24_0 rfl (hM.ol 1))
   | 1, ho, _ => cases ho; exact wn (kLoad1 Tryz.underlying4 rfl rfl (hM.d 0 3 rfl) (hM.o1 q1_0 (by omega)) rfl rfl)
   | 2, ho, _ => cases ho; exact wn (kNot rfl (hM.d 1 4 rfl) rfl)
   | 3, ho, _ => cases ho; exact wn (kMove rfl (hM.d 2 5 rfl))
   | 4, ho, _ => cases ho; exact hM.wg (hM.d 3 6 rfl) (kField24_1 rfl (hM.ol 1))
   | 5, ho, _ => cases ho; exact hM.wg (hM.d 3 6 rfl) (kLoad1 Tryz.underlying22 rfl rfl (hM.d 4 7 rfl) (hM.o1 q1_0 (by omega)) rfl rfl)
   | 6, ho, _ => cases ho; exact hM.wg (hM.d 3 6 rfl) (kLen rfl (hM.d 5 8 rfl))
   | 7, ho, _ => cases ho; exact hM.wg (hM.d 3 6 rfl) (kGtr3 rfl (hM.d 6 9 rfl) rfl HT.out)
   | 8, ho, _ => cases ho; exact wn (kPick rfl (hM.d 3 6 rfl) (hM.d 7 10 rfl))
   | 9, ho, _ => cases ho; exact wn (kField24_1 rfl (hM.ol 1))
   | 10, ho, _ => cases ho; exact wn (kLoad1 Tryz.underlying22 rfl rfl (hM.d 9 12 rfl) (hM.o1 q1_0 (by omega)) rfl rfl)
   | 11, ho, _ => cases ho; exact wn (kCall1 rfl may92 (hM.d 10 13 rfl) (c92 HCL.out (f1_0.kept hM.kept)))
   | 12, ho, _ =>
    cases ho
    refine .inl ⟨wanted_none rfl, ?_⟩
    obtain ⟨sp, sl, sc, e, hl⟩ := (show Is (lim zs) _ W from (hM.kd 11))
    rw [e] at hl
    exact kBuild24 rfl (hM.d 8 11 rfl) ((hM.v 11 14 rfl).trans e) (num_mk HS.out hl HR.out HC.out)
   | 13, _, hro => exact nr1 hro (by kernel_rfl)
   | zk + 14, ho, _ => simp at ho
  case al2 =>
   intro zk zb zi zo hk ha ho a' u lc W hM
   match zk, hk with
   | 0, hk => cases hk; cases ha
   | zk + 1, hk => simp at hk
  case pu2 =>
   intro zk zb zs zo hk hs ho a' u lc W zc hM hc hcs
   match zk, hk with
   | 0, hk =>
    cases hk
    simp only [List.mem_cons, List.not_mem_nil, or_false] at hs
    rcases hs with rfl
    · cases ho
      obtain ⟨sb, sp, sl, sc, e⟩ := (show Is (num (-x)) (u 12) W from (hM.kd 12)).form
      exact kPut rfl e ((hM.ol 2).trans (show _ = Value.pointer (some ⟨lc 0, 0, none⟩) from by rw [show lc 0 = (lc1 1) from hM.locO 0 _ rfl rfl]; rfl)) (hM.v 12 15 rfl) hc hcs sz24
   | zk + 1, hk => simp at hk
  case en2 =>
   intro u2 lc2 W2 hK2 hB2 hO2 hV2 hX2 hA2
   have k2_12 := kk (hV2 12 15 rfl) rfl
   obtain ⟨qr, ho, hl⟩ := hX2 0 _ rfl
   have elc : lc2 0 = (lc1 1) := ho rfl
   rw [elc] at qr
   obtain ⟨x2_13, y2_13, z2_13, c2_13, es2_13⟩ := k2_12.form
   have sk2_13 : Is (num (-x)) (.agg #[.bool x2_13, .slice y2_13 z2_13 c2_13]) W2 := by rw [← es2_13]; exact k2_12
   have q2_0 : W2.heap[(lc1 1)]? = some (.cells #[.bool x2_13, .slice y2_13 z2_13 c2_13] 24) := by
    rw [contAll_one rfl (cs := #[.bool x2_13, .slice y2_13 z2_13 c2_13]) (by rw [es2_13]; rfl) rfl] at qr; exact qr
   simp only [putK, fC, fN, kZ, kS, vV, vK, sI, sZ, sS]
   have hBt2 := hBt1.trans hB2
   clear hV2 hX2 hA2
   have cr0 := cell_of q2_0 0 rfl
   have cr1 := cell_of q2_0 1 rfl
   go_wp2
   exact bodyPost_ret (v := .agg #[.bool x2_13, .slice y2_13 z2_13 c2_13]) (by simp [results, Tryz.results91, go_sem, cr0, cr1]) rfl ⟨_, rfl, sk2_13, hBt2⟩
theorem c85a {x y : Int} {v0 : Value} {w : World} (hx : x < 0) (hy : ¬ y < 0) (h0 : Is (fr x y) v0 w) : Calls Tryz.prog 85 #[v0] w (Ret (.k (fr (-y) (-x))) w) := by
 obtain ⟨ya0, yp0, yl0, yd0, ye0, yq0, ym0, yr0, rfl, yg0, yk0⟩ := id h0
 obtain rfl : ya0 = true := (num_sign (W := w) yg0).trans (decide_eq_true hx)
 replace yg0 : Is (num x) (.agg #[.bool true, .slice yp0 yl0 yd0]) w := yg0
 replace yk0 : Is (num y) (.agg #[.bool ye0, .slice yq0 ym0 yr0]) w := yk0
 have HX := Lib.hid hx
 clear hx
 have HY := Lib.hid hy
 clear hy
 have hB0 := Below.refl w.heap.size w
 go_enter Tryz.func85, Tryz.ntmps85
 go_upto_region 0 with fail
 refine rg (n := 9) (t16 := 48) w.heap.size [] [.any, .any] [(0, 1), (1, 2)] [⟨73, some 0, 0, pt, 4, [.c #[.bool true, .slice yp0 yl0 yd0, .bool ye0, .slice yq0 ym0 yr0]], []⟩, ⟨73, some 1, 0, pt, 4, [.c #[.bool false, .slice none 0 0, .bool false, .slice none 0 0]], []⟩] ?ok1 ?st1 ?al1 ?pu1 ?en1
 case ok1 => exact BxOK.fresh rfl hB0.size
 case st1 =>
  intro zi zo ho hro a' u lc W hM
  match zi, ho, hro with
  | 0, _, hro => exact nr1 hro (by kernel_rfl)
  | 1, _, hro => exact nr1 hro (by kernel_rfl)
  | zk + 2, ho, _ => simp at ho
 case al1 =>
  intro zk zb zi zo hk ha ho a' u lc W hM
  match zk, hk with
  | 0, hk => cases hk; cases ha; cases ho; exact ⟨rfl, rfl, rfl, rfl, kBox rfl (hM.ol 0)⟩
  | 1, hk => cases hk; cases ha; cases ho; exact ⟨rfl, rfl, rfl, rfl, kAlloc73 rfl⟩
  | zk + 2, hk => simp at hk
 case pu1 =>
  intro zk zb zs zo hk hs ho a' u lc W zc hM hc hcs
  match zk, hk with
  | 0, hk => cases hk; simp at hs
  | 1, hk => cases hk; simp at hs
  | zk + 2, hk => simp at hk
 case en1 =>
  intro u1 lc1 W1 hK1 hB1 hO1 hV1 hX1 hA1
  obtain ⟨qr, ho, hl⟩ := hX1 0 _ rfl
  have e1_0 : u1 0 = .pointer (some ⟨lc1 0, 0, none⟩) := (hl 0 rfl).1
  have g1_0 := (hl 0 rfl).2
  have f1_1 := yg0.kept hK1
  have f1_2 := yk0.kept hK1
  have q1_0 : W1.heap[(lc1 0)]? = some (.cells #[.bool true, .slice yp0 yl0 yd0, .bool ye0, .slice yq0 ym0 yr0] 73) := by
   exact qr
  obtain ⟨qr, ho, hl⟩ := hX1 1 _ rfl
  have e1_1 : u1 1 = .pointer (some ⟨lc1 1, 0, none⟩) := (hl 1 rfl).1
  have g1_1 := (hl 1 rfl).2
  have q1_1 : W1.heap[(lc1 1)]? = some (.cells #[.bool false, .slice none 0 0, .bool false, .slice none 0 0] 73) := by
   exact qr
  have ne1_0_1 := hA1 0 1 _ _ rfl rfl (by decide)
  simp only [putK, fC, fN, kZ, kS, vA, sI, sZ, sS, e1_0, e1_1]
  have hBt1 := hB0.trans hB1
  clear hV1 hX1 hA1
  go_upto_region 1 with fail
  refine rg (n := 9) (t16 := 48) w.heap.size [] [.val (.pointer (some ⟨(lc1 0), 0, none⟩)), .val (.pointer (some ⟨(lc1 0), 2, none⟩)), .val (.agg #[.bool ye0, .slice yq0 ym0 yr0]), .val (.pointer (some ⟨(lc1 0), 0, none⟩)), .val (.pointer (some ⟨(lc1 0), 0, none⟩)), .val (.agg #[.bool true, .slice yp0 yl0 yd0]), .any, .any, .any, .any] [(0, 5), (1, 6), (2, 7), (3, 8), (4, 9), (5, 10), (6, 3), (7, 4)] [⟨24, some 6, 0, pt, 2, [.c #[.bool false, .slice none 0 0]], [(8, 0, 2)]⟩, ⟨24, some 7, 0, pt, 2, [.c #[.bool false, .slice none 0 0]], [(9, 0, 5)]⟩] ?ok2 ?st2 ?al2 ?pu2 ?en2
  case ok2 => exact BxOK.fresh rfl hBt1.size
  case st2 =>
   intro zi zo ho hro a' u lc W hM
   match zi, ho, hro with
   | 0, ho, _ => cases ho; exact wn (kField73_0 rfl (hM.ol 1))
   | 1, ho, _ => cases ho; exact wn (kField26_1 rfl (hM.d 0 5 rfl))
   | 2, ho, _ => cases ho; exact wn (kL24 rfl (hM.d 1 6 rfl) (hM.o0 q1_0) rfl)
   | 3, ho, _ => cases ho; exact wn (kField73_0 rfl (hM.ol 1))
   | 4, ho, _ => cases ho; exact wn (kField26_0 rfl (hM.d 3 8 rfl))
   | 5, ho, _ => cases ho; exact wn (kL24 rfl (hM.d 4 9 rfl) (hM.o0 q1_0) rfl)
   | 6, _, hro => exact nr1 hro (by kernel_rfl)
   | 7, _, hro => exact nr1 hro (by kernel_rfl)
   | 8, _, hro => exact nr1 hro (by kernel_rfl)
   | 9, _, hro => exact nr1 hro (by kernel_rfl)
   | zk + 10, ho, _ => simp at ho
  case al2 =>
   intro zk zb zi zo hk ha ho a' u lc W hM
   match zk, hk with
   | 0, hk => cases hk; cases ha; cases ho; exact ⟨rfl, rfl, rfl, rfl, kAlloc24 rfl⟩
   | 1, hk => cases hk; cases ha; cases ho; exact ⟨rfl, rfl, rfl, rfl, kAlloc24 rfl⟩
   | zk + 2, hk => simp at hk
  case pu2 =>
   intro zk zb zs zo hk hs ho a' u lc W zc hM hc hcs
   match zk, hk with
   | 0, hk =>
    cases hk
    simp only [List.mem_cons, List.not_mem_nil, or_false] at hs
    rcases hs with rfl
    · cases ho
      have e : u 2 = .agg #[.bool ye0, .slice yq0 ym0 yr0] := hM.kd 2
      exact kPut rfl e ((hM.v 6 3 rfl).trans (hM.loc 0 _ 6 rfl rfl (by kernel_rfl))) (hM.v 2 7 rfl) hc hcs sz24
   | 1, hk =>
    cases hk
    simp only [List.mem_cons, List.not_mem_nil, or_false] at hs
    rcases hs with rfl
    · cases ho
      have e : u 5 = .agg #[.bool true, .slice yp0 yl0 yd0] := hM.kd 5
      exact kPut rfl e ((hM.v 7 4 rfl).trans (hM.loc 1 _ 7 rfl rfl (by kernel_rfl))) (hM.v 5 10 rfl) hc hcs sz24
   | zk + 2, hk => simp at hk
  case en2 =>
   intro u2 lc2 W2 hK2 hB2 hO2 hV2 hX2 hA2
   have e2_0 := kv (hV2 0 5 rfl) rfl
   have e2_1 := kv (hV2 1 6 rfl) rfl
   have e2_2 := kv (hV2 2 7 rfl) rfl
   have e2_5 := kv (hV2 5 10 rfl) rfl
   obtain ⟨qr, ho, hl⟩ := hX2 0 _ rfl
   have e2_6 : u2 6 = .pointer (some ⟨lc2 0, 0, none⟩) := (hl 6 rfl).1
   have g2_0 := (hl 6 rfl).2
   have f2_0 := f1_2.kept hK2
   have q2_0 : W2.heap[(lc2 0)]? = some (.cells #[.bool ye0, .slice yq0 ym0 yr0] 24) := by
    rw [contAll_one rfl (cs := #[.bool ye0, .slice yq0 ym0 yr0]) (by rw [e2_2]; rfl) rfl] at qr; exact qr
   obtain ⟨qr, ho, hl⟩ := hX2 1 _ rfl
   have e2_7 : u2 7 = .pointer (some ⟨lc2 1, 0, none⟩) := (hl 7 rfl).1
   have g2_1 := (hl 7 rfl).2
   have f2_1 := f1_1.kept hK2
   have q2_1 : W2.heap[(lc2 1)]? = some (.cells #[.bool true, .slice yp0 yl0 yd0] 24) := by
    rw [contAll_one rfl (cs := #[.bool true, .slice yp0 yl0 yd0]) (by rw [e2_5]; rfl) rfl] at qr; exact qr
   have ne2_0_1 := hA2 0 1 _ _ rfl rfl (by decide)
   have ne2_0_1_0 := Nat.ne_of_lt (Nat.lt_of_lt_of_le (Array.getElem?_eq_some_iff.1 q1_0).1 g2_0)
   have ne2_0_1_1 := Nat.ne_of_lt (Nat.lt_of_lt_of_le (Array.getElem?_eq_some_iff.1 q1_1).1 g2_0)
   have ne2_1_1_0 := Nat.ne_of_lt (Nat.lt_of_lt_of_le (Array.getElem?_eq_some_iff.1 q1_0).1 g2_1)
   have ne2_1_1_1 := Nat.ne_of_lt (Nat.lt_of_lt_of_le (Array.getElem?_eq_some_iff.1 q1_1).1 g2_1)
   have q2_1_1 := oth0 hO2 q1_1
   simp only [putK, fC, fN, kZ, kS, vV, vA, sI, sZ, sS, e2_6, e2_7]
   have hBt2 := hBt1.trans hB2
   clear hV2 hX2 hA2
   go_upto_region 2 with fail
   refine rg0 (n := 9) (t16 := 48) w.heap.size [.val (.pointer (some ⟨(lc2 1), 0, none⟩)), vT] [(0, 11), (1, 12)] hBt2.size ?st3 ?en3
   case st3 =>
    intro zi zo ho hro a' u lc W hM
    match zi, ho, hro with
    | 0, ho, _ => cases ho; exact wn (kField24_0 rfl (hM.ol 4))
    | 1, ho, _ => cases ho; exact wn (kLoad1 Tryz.underlying4 rfl rfl (hM.d 0 11 rfl) (hM.o0 q2_1) rfl rfl)
    | zk + 2, ho, _ => simp at ho
   case en3 =>
    intro u3 lc3 W3 hK3 hB3 hO3 hV3 hX3 hA3
    have f3_1 := f2_1.kept hK3
    have f3_2 := f2_0.kept hK3
    have q3_1_1 := oth0 hO3 q2_1_1
    have q3_2_0 := oth0 hO3 q2_0
    have q3_2_1 := oth0 hO3 q2_1
    simp only [putK, fC, fN, kZ, kS, vV, sI, sZ, sS]
    have hBt3 := hBt2.trans hB3
    clear hV3 hX3 hA3
    go_upto_region 3 with fail
    refine rg (n := 9) (t16 := 48) w.heap.size [(lc2 0), (lc2 1)] [.val (.agg #[.bool ye0, .slice yq0 ym0 yr0]), .k (num (-y)), .val (.agg #[.bool true, .slice yp0 yl0 yd0]), .k (num (-x)), .any, .any] [(0, 13), (1, 14), (2, 15), (3, 16)] [⟨24, none, (lc2 0), pt, 2, [.c #[.bool ye0, .slice yq0 ym0 yr0]], [(4, 0, 1)]⟩, ⟨24, none, (lc2 1), pt, 2, [.c #[.bool true, .slice yp0 yl0 yd0]], [(5, 0, 3)]⟩] ?ok4 ?st4 ?al4 ?pu4 ?en4
    case ok4 => exact BxOK.two ⟨(Nat.le_trans hBt1.size g2_0), ⟨_, q3_2_0, rfl, rfl, rfl⟩, by simp, (by decide : (24 : Nat) ≠ 48)⟩ ⟨(Nat.le_trans hBt1.size g2_1), ⟨_, q3_2_1, rfl, rfl, rfl⟩, by simp, (by decide : (24 : Nat) ≠ 48)⟩ (by show (lc2 0) ≠ (lc2 1); omega) rfl hBt3.size
    case st4 =>
     intro zi zo ho hro a' u lc W hM
     match zi, ho, hro with
     | 0, ho, _ => cases ho; exact wn (kL24 rfl (hM.ol 3) (show W.heap[(lc2 0)]? = some (.cells #[.bool ye0, .slice yq0 ym0 yr0] 24) from by rw [← (show lc 0 = (lc2 0) from hM.locO 0 _ rfl rfl)]; exact hM.fresh 0 _ rfl (by kernel_rfl) (by kernel_rfl)) rfl)
     | 1, ho, _ => cases ho; exact wn (kCall1 rfl may91 (hM.d 0 13 rfl) (c91b HY.out (f3_2.kept hM.kept)))
     | 2, ho, _ => cases ho; exact wn (kL24 rfl (hM.ol 4) (show W.heap[(lc2 1)]? = some (.cells #[.bool true, .slice yp0 yl0 yd0] 24) from by rw [← (show lc 1 = (lc2 1) from hM.locO 1 _ rfl rfl)]; exact hM.fresh 1 _ rfl (by kernel_rfl) (by kernel_rfl)) rfl)
     | 3, ho, _ => cases ho; exact wn (kCall1 rfl may91 (hM.d 2 15 rfl) (c91a HX.out (f3_1.kept hM.kept)))
     | 4, _, hro => exact nr1 hro (by kernel_rfl)
     | 5, _, hro => exact nr1 hro (by kernel_rfl)
     | zk + 6, ho, _ => simp at ho
    case al4 =>
     intro zk zb zi zo hk ha ho a' u lc W hM
     match zk, hk with
     | 0, hk => cases hk; cases ha
     | 1, hk => cases hk; cases ha
     | zk + 2, hk => simp at hk
    case pu4 =>
     intro zk zb zs zo hk hs ho a' u lc W zc hM hc hcs
     match zk, hk with
     | 0, hk =>
      cases hk
      simp only [List.mem_cons, List.not_mem_nil, or_false] at hs
      rcases hs with rfl
      · cases ho
        obtain ⟨sb, sp, sl, sc, e⟩ := (show Is (num (-y)) (u 1) W from (hM.kd 1)).form
        exact kPut rfl e ((hM.ol 3).trans (show _ = Value.pointer (some ⟨lc 0, 0, none⟩) from by rw [show lc 0 = (lc2 0) from hM.locO 0 _ rfl rfl]; rfl)) (hM.v 1 14 rfl) hc hcs sz24
     | 1, hk =>
      cases hk
      simp only [List.mem_cons, List.not_mem_nil, or_false] at hs
      rcases hs with rfl
      · cases ho
        obtain ⟨sb, sp, sl, sc, e⟩ := (show Is (num (-x)) (u 3) W from (hM.kd 3)).form
        exact kPut rfl e ((hM.ol 4).trans (show _ = Value.pointer (some ⟨lc 1, 0, none⟩) from by rw [show lc 1 = (lc2 1) from hM.locO 1 _ rfl rfl]; rfl)) (hM.v 3 16 rfl) hc hcs sz24
     | zk + 2, hk => simp at hk
    case en4 =>
     intro u4 lc4 W4 hK4 hB4 hO4 hV4 hX4 hA4
     have k4_1 := kk (hV4 1 14 rfl) rfl
     have k4_3 := kk (hV4 3 16 rfl) rfl
     obtain ⟨qr, ho, hl⟩ := hX4 0 _ rfl
     have elc : lc4 0 = (lc2 0) := ho rfl
     rw [elc] at qr
     obtain ⟨x4_4, y4_4, z4_4, c4_4, es4_4⟩ := k4_1.form
     have sk4_4 : Is (num (-y)) (.agg #[.bool x4_4, .slice y4_4 z4_4 c4_4]) W4 := by rw [← es4_4]; exact k4_1
     have q4_0 : W4.heap[(lc2 0)]? = some (.cells #[.bool x4_4, .slice y4_4 z4_4 c4_4] 24) := by
      rw [contAll_one rfl (cs := #[.bool x4_4, .slice y4_4 z4_4 c4_4]) (by rw [es4_4]; rfl) rfl] at qr; exact qr
     obtain ⟨qr, ho, hl⟩ := hX4 1 _ rfl
     have elc : lc4 1 = (lc2 1) := ho rfl
     rw [elc] at qr
     obtain ⟨x4_5, y4_5, z4_5, c4_5, es4_5⟩ := k4_3.form
     have sk4_5 : Is (num (-x)) (.agg #[.bool x4_5, .slice y4_5 z4_5 c4_5]) W4 := by rw [← es4_5]; exact k4_3
     have q4_1 : W4.heap[(lc2 1)]? = some (.cells #[.bool x4_5, .slice y4_5 z4_5 c4_5] 24) := by
      rw [contAll_one rfl (cs := #[.bool x4_5, .slice y4_5 z4_5 c4_5]) (by rw [es4_5]; rfl) rfl] at qr; exact qr
     have q4_1_1 := (hO4 _ (Array.getElem?_eq_some_iff.1 q3_1_1).1 (by simp only [List.mem_cons, List.not_mem_nil, or_false, not_or]; omega)).trans q3_1_1
     simp only [putK, fC, fN, kZ, kS, vV, vK, sI, sZ, sS]
     have hBt4 := hBt3.trans hB4
     clear hV4 hX4 hA4
     go_upto_region 4 with fail
     refine rg (n := 9) (t16 := 48) w.heap.size [(lc1 1)] [.val (.agg #[.bool x4_4, .slice y4_4 z4_4 c4_4]), .val (.agg #[.bool x4_5, .slice y4_5 z4_5 c4_5]), .k (fr (-y) (-x)), .k (fr (-y) (-x)), .any] [(0, 17), (1, 18), (2, 19), (3, 20)] [⟨73, none, (lc1 1), pt, 4, [.c #[.bool false, .slice none 0 0, .bool false, .slice none 0 0]], [(4, 0, 3)]⟩] ?ok5 ?st5 ?al5 ?pu5 ?en5
     case ok5 => exact BxOK.one ⟨(Nat.le_trans hB0.size g1_1), ⟨_, q4_1_1, rfl, rfl, rfl⟩, by simp, (by decide : (73 : Nat) ≠ 48)⟩ rfl hBt4.size
     case st5 =>
      intro zi zo ho hro a' u lc W hM
      match zi, ho, hro with
      | 0, ho, _ => cases ho; exact wn (kL24 rfl (hM.ol 3) (hM.o1 q4_0 (by omega)) rfl)
      | 1, ho, _ => cases ho; exact wn (kL24 rfl (hM.ol 4) (hM.o1 q4_1 (by omega)) rfl)
      | 2, ho, _ => cases ho; exact wn (kBuild26 rfl (hM.d 0 17 rfl) (hM.d 1 18 rfl) ⟨_, _, _, _, _, _, _, _, rfl, (sk4_4.kept hM.kept), (sk4_5.kept hM.kept)⟩)
      | 3, ho, _ =>
       cases ho
       refine .inl ⟨wanted_none rfl, ?_⟩
       obtain ⟨sb1, sp1, sl1, sc1, sb2, sp2, sl2, sc2, e, sh1, sh2⟩ := (show Is (fr (-y) (-x)) _ W from (hM.kd 2))
       exact kBuild73 rfl ((hM.v 2 19 rfl).trans e) ⟨_, _, _, _, _, _, _, _, rfl, sh1, sh2⟩
      | 4, _, hro => exact nr1 hro (by kernel_rfl)
      | zk + 5, ho, _ => simp at ho
     case al5 =>
      intro zk zb zi zo hk ha ho a' u lc W hM
      match zk, hk with
      | 0, hk => cases hk; cases ha
      | zk + 1, hk => simp at hk
     case pu5 =>
      intro zk zb zs zo hk hs ho a' u lc W zc hM hc hcs
      match zk, hk with
      | 0, hk =>
       cases hk
       simp only [List.mem_cons, List.not_mem_nil, or_false] at hs
       rcases hs with rfl
       · cases ho
         obtain ⟨sb, sp, sl, sc, sb2, sp2, sl2, sc2, e, _⟩ := (show Is (fr (-y) (-x)) (u 3) W from (hM.kd 3))
         exact kPut rfl e ((hM.ol 2).trans (show _ = Value.pointer (some ⟨lc 0, 0, none⟩) from by rw [show lc 0 = (lc1 1) from hM.locO 0 _ rfl rfl]; rfl)) (hM.v 3 20 rfl) hc hcs sz73
      | zk + 1, hk => simp at hk
     case en5 =>
      intro u5 lc5 W5 hK5 hB5 hO5 hV5 hX5 hA5
      have k5_3 := kk (hV5 3 20 rfl) rfl
      obtain ⟨qr, ho, hl⟩ := hX5 0 _ rfl
      have elc : lc5 0 = (lc1 1) := ho rfl
      rw [elc] at qr
      obtain ⟨x5_4, y5_4, z5_4, c5_4, x25_4, y25_4, z25_4, c25_4, es5_4, sa5_4, sb5_4⟩ := id k5_3
      have sk5_4 : Is (fr (-y) (-x)) (.agg #[.bool x5_4, .slice y5_4 z5_4 c5_4, .bool x25_4, .slice y25_4 z25_4 c25_4]) W5 := by rw [← es5_4]; exact k5_3
      have q5_0 : W5.heap[(lc1 1)]? = some (.cells #[.bool x5_4, .slice y5_4 z5_4 c5_4, .bool x25_4, .slice y25_4 z25_4 c25_4] 73) := by
       rw [contAll_one rfl (cs := #[.bool x5_4, .slice y5_4 z5_4 c5_4, .bool x25_4, .slice y25_4 z25_4 c25_4]) (by rw [es5_4]; rfl) rfl] at qr; exact qr
      simp only [putK, fC, fN, kZ, kS, vV, vK, sI, sZ, sS]
      have hBt5 := hBt4.trans hB5
      clear hV5 hX5 hA5
      have cr0 := cell_of q5_0 0 rfl
      have cr1 := cell_of q5_0 1 rfl
      have cr2 := cell_of q5_0 2 rfl
      have cr3 := cell_of q5_0 3 rfl
      go_wp2
      exact bodyPost_ret (v := .agg #[.bool x5_4, .slice y5_4 z5_4 c5_4, .bool x25_4, .slice y25_4 z25_4 c25_4]) (by simp [results, Tryz.results85, go_sem, cr0, cr1, cr2, cr3]) rfl ⟨_, rfl, sk5_4, hBt5⟩
theorem c85b {x y : Int} {v0 : Value} {w : World} (hx : ¬ x < 0) (h0 : Is (fr x y) v0 w) : Calls Tryz.prog 85 #[v0] w (Ret (.k (fr y x)) w) := by
 obtain ⟨ya0, yp0, yl0, yd0, ye0, yq0, ym0, yr0, rfl, yg0, yk0⟩ := id h0
 obtain rfl : ya0 = false := (num_sign (W := w) yg0).trans (decide_eq_false hx)
 replace yg0 : Is (num x) (.agg #[.bool false, .slice yp0 yl0 yd0]) w := yg0
 replace yk0 : Is (num y) (.agg #[.bool ye0, .slice yq0 ym0 yr0]) w := yk0
 have HX := Lib.hid hx
 clear hx
 have hB0 := Below.refl w.heap.size w
 go_enter Tryz.func85, Tryz.ntmps85
 go_upto_region 0 with fail
 refine rg (n := 9) (t16 := 48) w.heap.size [] [.any, .any] [(0, 1), (1, 2)] [⟨73, some 0, 0, pt, 4, [.c #[.bool false, .slice yp0 yl0 yd0, .bool ye0, .slice yq0 ym0 yr0]], []⟩, ⟨73, some 1, 0, pt, 4, [.c #[.bool false, .slice none 0 0, .bool false, .slice none 0 0]], []⟩] ?ok1 ?st1 ?al1 ?pu1 ?en1
 case ok1 => exact BxOK.fresh rfl hB0.size
 case st1 =>
  intro zi zo ho hro a' u lc W hM
  match zi, ho, hro with
  | 0, _, hro => exact nr1 hro (by kernel_rfl)
  | 1, _, hro => exact nr1 hro (by kernel_rfl)
  | zk + 2, ho, _ => simp at ho
 case al1 =>
  intro zk zb zi zo hk ha ho a' u lc W hM
  match zk, hk with
  | 0, hk => cases hk; cases ha; cases ho; exact ⟨rfl, rfl, rfl, rfl, kBox rfl (hM.ol 0)⟩
  | 1, hk => cases hk; cases ha; cases ho; exact ⟨rfl, rfl, rfl, rfl, kAlloc73 rfl⟩
  | zk + 2, hk => simp at hk
 case pu1 =>
  intro zk zb zs zo hk hs ho a' u lc W zc hM hc hcs
  match zk, hk with
  | 0, hk => cases hk; simp at hs
  | 1, hk => cases hk; simp at hs
  | zk + 2, hk => simp at hk
 case en1 =>
  intro u1 lc1 W1 hK1 hB1 hO1 hV1 hX1 hA1
  obtain ⟨qr, ho, hl⟩ := hX1 0 _ rfl
  have e1_0 : u1 0 = .pointer (some ⟨lc1 0, 0, none⟩) := (hl 0 rfl).1
  have g1_0 := (hl 0 rfl).2
  have f1_1 := yg0.kept hK1
  have f1_2 := yk0.kept hK1
  have q1_0 : W1.heap[(lc1 0)]? = some (.cells #[.bool false, .slice yp0 yl0 yd0, .bool ye0, .slice yq0 ym0 yr0] 73) := by
   exact qr
  obtain ⟨qr, ho, hl⟩ := hX1 1 _ rfl
  have e1_1 : u1 1 = .pointer (some ⟨lc1 1, 0, none⟩) := (hl 1 rfl).1
  have g1_1 := (hl 1 rfl).2
  have q1_1 : W1.heap[(lc1 1)]? = some (.cells #[.bool false, .slice none 0 0, .bool false, .slice none 0 0] 73) := by
   exact qr
  have ne1_0_1 := hA1 0 1 _ _ rfl rfl (by decide)
  simp only [putK, fC, fN, kZ, kS, vA, sI, sZ, sS, e1_0, e1_1]
  have hBt1 := hB0.trans hB1
  clear hV1 hX1 hA1
  go_upto_region 1 with fail
  refine rg (n := 9) (t16 := 48) w.heap.size [] [.val (.pointer (some ⟨(lc1 0), 0, none⟩)), .val (.pointer (some ⟨(lc1 0), 2, none⟩)), .val (.agg #[.bool ye0, .slice yq0 ym0 yr0]), .val (.pointer (some ⟨(lc1 0), 0, none⟩)), .val (.pointer (some ⟨(lc1 0), 0, none⟩)), .val (.agg #[.bool false, .slice yp0 yl0 yd0]), .any, .any, .any, .any] [(0, 5), (1, 6), (2, 7), (3, 8), (4, 9), (5, 10), (6, 3), (7, 4)] [⟨24, some 6, 0, pt, 2, [.c #[.bool false, .slice none 0 0]], [(8, 0, 2)]⟩, ⟨24, some 7, 0, pt, 2, [.c #[.bool false, .slice none 0 0]], [(9, 0, 5)]⟩] ?ok2 ?st2 ?al2 ?pu2 ?en2
  case ok2 => exact BxOK.fresh rfl hBt1.size
  case st2 =>
   intro zi zo ho hro a' u lc W hM
   match zi, ho, hro with
   | 0, ho, _ => cases ho; exact wn (kField73_0 rfl (hM.ol 1))
   | 1, ho, _ => cases ho; exact wn (kField26_1 rfl (hM.d 0 5 rfl))
   | 2, ho, _ => cases ho; exact wn (kL24 rfl (hM.d 1 6 rfl) (hM.o0 q1_0) rfl)
   | 3, ho, _ => cases ho; exact wn (kField73_0 rfl (hM.ol 1))
   | 4, ho, _ => cases ho; exact wn (kField26_0 rfl (hM.d 3 8 rfl))
   | 5, ho, _ => cases ho; exact wn (kL24 rfl (hM.d 4 9 rfl) (hM.o0 q1_0) rfl)
   | 6, _, hro => exact nr1 hro (by kernel_rfl)
   | 7, _, hro => exact nr1 hro (by kernel_rfl)
   | 8, _, hro => exact nr1 hro (by kernel_rfl)
   | 9, _, hro => exact nr1 hro (by kernel_rfl)
   | zk + 10, ho, _ => simp at ho
  case al2 =>
   intro zk zb zi zo hk ha ho a' u lc W hM
   match zk, hk with
   | 0, hk => cases hk; cases ha; cases ho; exact ⟨rfl, rfl, rfl, rfl, kAlloc24 rfl⟩
   | 1, hk => cases hk; cases ha; cases ho; exact ⟨rfl, rfl, rfl, rfl, kAlloc24 rfl⟩
   | zk + 2, hk => simp at hk
  case pu2 =>
   intro zk zb zs zo hk hs ho a' u lc W zc hM hc hcs
   match zk, hk with
   | 0, hk =>
    cases hk
    simp only [List.mem_cons, List.not_mem_nil, or_false] at hs
    rcases hs with rfl
    · cases ho
      have e : u 2 = .agg #[.bool ye0, .slice yq0 ym0 yr0] := hM.kd 2
      exact kPut rfl e ((hM.v 6 3 rfl).trans (hM.loc 0 _ 6 rfl rfl (by kernel_rfl))) (hM.v 2 7 rfl) hc hcs sz24
   | 1, hk =>
    cases hk
    simp only [List.mem_cons, List.not_mem_nil, or_false] at hs
    rcases hs with rfl
    · cases ho
      have e : u 5 = .agg #[.bool false, .slice yp0 yl0 yd0] := hM.kd 5
      exact kPut rfl e ((hM.v 7 4 rfl).trans (hM.loc 1 _ 7 rfl rfl (by kernel_rfl))) (hM.v 5 10 rfl) hc hcs sz24
   | zk + 2, hk => simp at hk
  case en2 =>
   intro u2 lc2 W2 hK2 hB2 hO2 hV2 hX2 hA2
   have e2_0 := kv (hV2 0 5 rfl) rfl
   have e2_1 := kv (hV2 1 6 rfl) rfl
   have e2_2 := kv (hV2 2 7 rfl) rfl
   have e2_5 := kv (hV2 5 10 rfl) rfl
   obtain ⟨qr, ho, hl⟩ := hX2 0 _ rfl
   have e2_6 : u2 6 = .pointer (some ⟨lc2 0, 0, none⟩) := (hl 6 rfl).1
   have g2_0 := (hl 6 rfl).2
   have f2_0 := f1_2.kept hK2
   have q2_0 : W2.heap[(lc2 0)]? = some (.cells #[.bool ye0, .slice yq0 ym0 yr0] 24) := by
    rw [contAll_one rfl (cs := #[.bool ye0, .slice yq0 ym0 yr0]) (by rw [e2_2]; rfl) rfl] at qr; exact qr
   obtain ⟨qr, ho, hl⟩ := hX2 1 _ rfl
   have e2_7 : u2 7 = .pointer (some ⟨lc2 1, 0, none⟩) := (hl 7 rfl).1
   have g2_1 := (hl 7 rfl).2
   have f2_1 := f1_1.kept hK2
   have q2_1 : W2.heap[(lc2 1)]? = some (.cells #[.bool false, .slice yp0 yl0 yd0] 24) := by
    rw [contAll_one rfl (cs := #[.bool false, .slice yp0 yl0 yd0]) (by rw [e2_5]; rfl) rfl] at qr; exact qr
   have ne2_0_1_1 := Nat.ne_of_lt (Nat.lt_of_lt_of_le (Array.getElem?_eq_some_iff.1 q1_1).1 g2_0)
   have ne2_1_1_1 := Nat.ne_of_lt (Nat.lt_of_lt_of_le (Array.getElem?_eq_some_iff.1 q1_1).1 g2_1)
   have q2_1_1 := oth0 hO2 q1_1
   simp only [putK, fC, fN, kZ, kS, vV, vA, sI, sZ, sS, e2_6, e2_7]
   have hBt2 := hBt1.trans hB2
   clear hV2 hX2 hA2
   go_upto_region 2 with fail
   refine rg0 (n := 9) (t16 := 48) w.heap.size [.val (.pointer (some ⟨(lc2 1), 0, none⟩)), vF] [(0, 11), (1, 12)] hBt2.size ?st3 ?en3
   case st3 =>
    intro zi zo ho hro a' u lc W hM
    match zi, ho, hro with
    | 0, ho, _ => cases ho; exact wn (kField24_0 rfl (hM.ol 4))
    | 1, ho, _ => cases ho; exact wn (kLoad1 Tryz.underlying4 rfl rfl (hM.d 0 11 rfl) (hM.o0 q2_1) rfl rfl)
    | zk + 2, ho, _ => simp at ho
   case en3 =>
    intro u3 lc3 W3 hK3 hB3 hO3 hV3 hX3 hA3
    have f3_1 := f2_1.kept hK3
    have f3_2 := f2_0.kept hK3
    have q3_1_1 := oth0 hO3 q2_1_1
    have q3_2_0 := oth0 hO3 q2_0
    have q3_2_1 := oth0 hO3 q2_1
    simp only [putK, fC, fN, kZ, kS, vV, sI, sZ, sS]
    have hBt3 := hBt2.trans hB3
    clear hV3 hX3 hA3
    go_upto_region 4 with fail
    refine rg (n := 9) (t16 := 48) w.heap.size [(lc1 1)] [.val (.agg #[.bool ye0, .slice yq0 ym0 yr0]), .val (.agg #[.bool false, .slice yp0 yl0 yd0]), .k (fr y x), .k (fr y x), .any] [(0, 17), (1, 18), (2, 19), (3, 20)] [⟨73, none, (lc1 1), pt, 4, [.c #[.bool false, .slice none 0 0, .bool false, .slice none 0 0]], [(4, 0, 3)]⟩] ?ok4 ?st4 ?al4 ?pu4 ?en4
    case ok4 => exact BxOK.one ⟨(Nat.le_trans hB0.size g1_1), ⟨_, q3_1_1, rfl, rfl, rfl⟩, by simp, (by decide : (73 : Nat) ≠ 48)⟩ rfl hBt3.size
    case st4 =>
     intro zi zo ho hro a' u lc W hM
     match zi, ho, hro with
     | 0, ho, _ => cases ho; exact wn (kL24 rfl (hM.ol 3) (hM.o1 q3_2_0 (by omega)) rfl)
     | 1, ho, _ => cases ho; exact wn (kL24 rfl (hM.ol 4) (hM.o1 q3_2_1 (by omega)) rfl)
     | 2, ho, _ => cases ho; exact wn (kBuild26 rfl (hM.d 0 17 rfl) (hM.d 1 18 rfl) ⟨_, _, _, _, _, _, _, _, rfl, (f3_2.kept hM.kept), (f3_1.kept hM.kept)⟩)
     | 3, ho, _ =>
      cases ho
      refine .inl ⟨wanted_none rfl, ?_⟩
      obtain ⟨sb1, sp1, sl1, sc1, sb2, sp2, sl2, sc2, e, sh1, sh2⟩ := (show Is (fr y x) _ W from (hM.kd 2))
      exact kBuild73 rfl ((hM.v 2 19 rfl).trans e) ⟨_, _, _, _, _, _, _, _, rfl, sh1, sh2⟩
     | 4, _, hro => exact nr1 hro (by kernel_rfl)
     | zk + 5, ho, _ => simp at ho
    case al4 =>
     intro zk zb zi zo hk ha ho a' u lc W hM
     match zk, hk with
     | 0, hk => cases hk; cases ha
     | zk + 1, hk => simp at hk
    case pu4 =>
     intro zk zb zs zo hk hs ho a' u lc W zc hM hc hcs
     match zk, hk with
     | 0, hk =>
      cases hk
      simp only [List.mem_cons, List.not_mem_nil, or_false] at hs
      rcases hs with rfl
      · cases ho
        obtain ⟨sb, sp, sl, sc, sb2, sp2, sl2, sc2, e, _⟩ := (show Is (fr y x) (u 3) W from (hM.kd 3))
        exact kPut rfl e ((hM.ol 2).trans (show _ = Value.pointer (some ⟨lc 0, 0, none⟩) from by rw [show lc 0 = (lc1 1) from hM.locO 0 _ rfl rfl]; rfl)) (hM.v 3 20 rfl) hc hcs sz73
     | zk + 1, hk => simp at hk
    case en4 =>
     intro u4 lc4 W4 hK4 hB4 hO4 hV4 hX4 hA4
     have k4_3 := kk (hV4 3 20 rfl) rfl
     obtain ⟨qr, ho, hl⟩ := hX4 0 _ rfl
     have elc : lc4 0 = (lc1 1) := ho rfl
     rw [elc] at qr
     obtain ⟨x4_4, y4_4, z4_4, c4_4, x24_4, y24_4, z24_4, c24_4, es4_4, sa4_4, sb4_4⟩ := id k4_3
     have sk4_4 : Is (fr y x) (.agg #[.bool x4_4, .slice y4_4 z4_4 c4_4, .bool x24_4, .slice y24_4 z24_4 c24_4]) W4 := by rw [← es4_4]; exact k4_3
     have q4_0 : W4.heap[(lc1 1)]? = some (.cells #[.bool x4_4, .slice y4_4 z4_4 c4_4, .bool x24_4, .slice y24_4 z24_4 c24_4] 73) := by
      rw [contAll_one rfl (cs := #[.bool x4_4, .slice y4_4 z4_4 c4_4, .bool x24_4, .slice y24_4 z24_4 c24_4]) (by rw [es4_4]; rfl) rfl] at qr; exact qr
     simp only [putK, fC, fN, kZ, kS, vV, vK, sI, sZ, sS]
     have hBt4 := hBt3.trans hB4
     clear hV4 hX4 hA4
     have cr0 := cell_of q4_0 0 rfl
     have cr1 := cell_of q4_0 1 rfl
     have cr2 := cell_of q4_0 2 rfl
     have cr3 := cell_of q4_0 3 rfl
     go_wp2
     exact bodyPost_ret (v := .agg #[.bool x4_4, .slice y4_4 z4_4 c4_4, .bool x24_4, .slice y24_4 z24_4 c24_4]) (by simp [results, Tryz.results85, go_sem, cr0, cr1, cr2, cr3]) rfl ⟨_, rfl, sk4_4, hBt4⟩
theorem c99 {x y q r : Int} {t : Bool} {v0 : Value} {w : World} (hy : y ≠ 0) (hf : Floor x y q r) (ht : decide (r = 0) = t) (h0 : Is (fr x y) v0 w) : Calls Tryz.prog 99 #[v0] w (Ret (.k (tup2 (.k (num q)) (.val (.bool t)))) w) := by
 obtain ⟨ya0, yp0, yl0, yd0, ye0, yq0, ym0, yr0, rfl, yg0, yk0⟩ := id h0
 replace yg0 : Is (num x) (.agg #[.bool ya0, .slice yp0 yl0 yd0]) w := yg0
 replace yk0 : Is (num y) (.agg #[.bool ye0, .slice yq0 ym0 yr0]) w := yk0
 have hB0 := Below.refl w.heap.size w
 have HY := Lib.hid hy
 have HF := Lib.hid hf
 have HT := Lib.hid ht
 clear hy hf ht
 go_enter Tryz.func99, Tryz.ntmps99
 go_upto_region 0 with fail
 refine rg (n := 9) (t16 := 48) w.heap.size [] [.any, .any, vF] [(0, 1), (1, 2), (2, 3)] [⟨73, some 0, 0, pt, 4, [.c #[.bool ya0, .slice yp0 yl0 yd0, .bool ye0, .slice yq0 ym0 yr0]], []⟩, ⟨24, some 1, 0, pt, 2, [.c #[.bool false, .slice none 0 0]], []⟩] ?ok1 ?st1 ?al1 ?pu1 ?en1
 case ok1 => exact BxOK.fresh rfl hB0.size
 case st1 =>
  intro zi zo ho hro a' u lc W hM
  match zi, ho, hro with
  | 0, _, hro => exact nr1 hro (by kernel_rfl)
  | 1, _, hro => exact nr1 hro (by kernel_rfl)
  | 2, ho, _ => cases ho; exact wn (kAssign rfl rfl)
  | zk + 3, ho, _ => simp at ho
 case al1 =>
  intro zk zb zi zo hk ha ho a' u lc W hM
  match zk, hk with
  | 0, hk => cases hk; cases ha; cases ho; exact ⟨rfl, rfl, rfl, rfl, kBox rfl (hM.ol 0)⟩
  | 1, hk => cases hk; cases ha; cases ho; exact ⟨rfl, rfl, rfl, rfl, kAlloc24 rfl⟩
  | zk + 2, hk => simp at hk
 case pu1 =>
  intro zk zb zs zo hk hs ho a' u lc W zc hM hc hcs
  match zk, hk with
  | 0, hk => cases hk; simp at hs
  | 1, hk => cases hk; simp at hs
  | zk + 2, hk => simp at hk
 case en1 =>
  intro u1 lc1 W1 hK1 hB1 hO1 hV1 hX1 hA1
  obtain ⟨qr, ho, hl⟩ := hX1 0 _ rfl
  have e1_0 : u1 0 = .pointer (some ⟨lc1 0, 0, none⟩) := (hl 0 rfl).1
  have g1_0 := (hl 0 rfl).2
  have f1_1 := yg0.kept hK1
  have f1_2 := yk0.kept hK1
  have q1_0 : W1.heap[(lc1 0)]? = some (.cells #[.bool ya0, .slice yp0 yl0 yd0, .bool ye0, .slice yq0 ym0 yr0] 73) := by
   exact qr
  obtain ⟨qr, ho, hl⟩ := hX1 1 _ rfl
  have e1_1 : u1 1 = .pointer (some ⟨lc1 1, 0, none⟩) := (hl 1 rfl).1
  have g1_1 := (hl 1 rfl).2
  have q1_1 : W1.heap[(lc1 1)]? = some (.cells #[.bool false, .slice none 0 0] 24) := by
   exact qr
  have ne1_0_1 := hA1 0 1 _ _ rfl rfl (by decide)
  simp only [putK, fC, fN, kZ, kS, vV, vA, sI, sZ, sS, e1_0, e1_1]
  have hBt1 := hB0.trans hB1
  clear hV1 hX1 hA1
  go_upto_region 1 with fail
  refine rg (n := 9) (t16 := 48) w.heap.size [] [.val (.pointer (some ⟨(lc1 0), 0, none⟩)), .val (.pointer (some ⟨(lc1 0), 0, none⟩)), .val (.agg #[.bool ya0, .slice yp0 yl0 yd0]), .val (.pointer (some ⟨(lc1 0), 0, none⟩)), .val (.pointer (some ⟨(lc1 0), 2, none⟩)), .val (.agg #[.bool ye0, .slice yq0 ym0 yr0]), .k (tup3 (.k (num q)) (.k (num r)) (vZ)), .k (tup3 (.k (num q)) (.k (num r)) (vZ)), .k (num q), .k (num r), vZ, .any, .any, .any, .any, vZ] [(0, 8), (1, 9), (2, 10), (3, 11), (4, 12), (5, 13), (6, 14), (7, 7), (8, 15), (9, 16), (10, 17), (11, 4), (12, 5), (15, 6)] [⟨24, some 11, 0, pt, 2, [.c #[.bool false, .slice none 0 0]], [(13, 0, 8)]⟩, ⟨24, some 12, 0, pt, 2, [.c #[.bool false, .slice none 0 0]], [(14, 0, 9)]⟩] ?ok2 ?st2 ?al2 ?pu2 ?en2
  case ok2 => exact BxOK.fresh rfl hBt1.size
  case st2 =>
   intro zi zo ho hro a' u lc W hM
   match zi, ho, hro with
   | 0, ho, _ => cases ho; exact wn (kField73_0 rfl (hM.ol 1))
   | 1, ho, _ => cases ho; exact wn (kField26_0 rfl (hM.d 0 8 rfl))
   | 2, ho, _ => cases ho; exact wn (kL24 rfl (hM.d 1 9 rfl) (hM.o0 q1_0) rfl)
   | 3, ho, _ => cases ho; exact wn (kField73_0 rfl (hM.ol 1))
   | 4, ho, _ => cases ho; exact wn (kField26_1 rfl (hM.d 3 11 rfl))
   | 5, ho, _ => cases ho; exact wn (kL24 rfl (hM.d 4 12 rfl) (hM.o0 q1_0) rfl)
   | 6, ho, _ => cases ho; exact wn (kCall2 rfl may68 (hM.d 2 10 rfl) (hM.d 5 13 rfl) (c68 HY.out HF.out (f1_1.kept hM.kept) (f1_2.kept hM.kept)))
   | 7, ho, _ => cases ho; exact wn (kMove rfl (hM.d 6 14 rfl))
   | 8, ho, _ => cases ho; exact wn (kEx30 rfl (hM.d 7 7 rfl))
   | 9, ho, _ => cases ho; exact wn (kEx31 rfl (hM.d 7 7 rfl))
   | 10, ho, _ => cases ho; exact wn (kEx32 rfl (hM.d 7 7 rfl))
   | 11, _, hro => exact nr1 hro (by kernel_rfl)
   | 12, _, hro => exact nr1 hro (by kernel_rfl)
   | 13, _, hro => exact nr1 hro (by kernel_rfl)
   | 14, _, hro => exact nr1 hro (by kernel_rfl)
   | 15, ho, _ => cases ho; exact wn (kAssign rfl (hM.d 10 17 rfl))
   | zk + 16, ho, _ => simp at ho
  case al2 =>
   intro zk zb zi zo hk ha ho a' u lc W hM
   match zk, hk with
   | 0, hk => cases hk; cases ha; cases ho; exact ⟨rfl, rfl, rfl, rfl, kAlloc24 rfl⟩
   | 1, hk => cases hk; cases ha; cases ho; exact ⟨rfl, rfl, rfl, rfl, kAlloc24 rfl⟩
   | zk + 2, hk => simp at hk
  case pu2 =>
   intro zk zb zs zo hk hs ho a' u lc W zc hM hc hcs
   match zk, hk with
   | 0, hk =>
    cases hk
    simp only [List.mem_cons, List.not_mem_nil, or_false] at hs
    rcases hs with rfl
    · cases ho
      obtain ⟨sb, sp, sl, sc, e⟩ := (show Is (num q) (u 8) W from (hM.kd 8)).form
      exact kPut rfl e ((hM.v 11 4 rfl).trans (hM.loc 0 _ 11 rfl rfl (by kernel_rfl))) (hM.v 8 15 rfl) hc hcs sz24
   | 1, hk =>
    cases hk
    simp only [List.mem_cons, List.not_mem_nil, or_false] at hs
    rcases hs with rfl
    · cases ho
      obtain ⟨sb, sp, sl, sc, e⟩ := (show Is (num r) (u 9) W from (hM.kd 9)).form
      exact kPut rfl e ((hM.v 12 5 rfl).trans (hM.loc 1 _ 12 rfl rfl (by kernel_rfl))) (hM.v 9 16 rfl) hc hcs sz24
   | zk + 2, hk => simp at hk
  case en2 =>
   intro u2 lc2 W2 hK2 hB2 hO2 hV2 hX2 hA2
   have e2_0 := kv (hV2 0 8 rfl) rfl
   have e2_1 := kv (hV2 1 9 rfl) rfl
   have k2_8 := kk (hV2 8 15 rfl) rfl
   have k2_9 := kk (hV2 9 16 rfl) rfl
   obtain ⟨qr, ho, hl⟩ := hX2 0 _ rfl
   have e2_11 : u2 11 = .pointer (some ⟨lc2 0, 0, none⟩) := (hl 11 rfl).1
   have g2_0 := (hl 11 rfl).2
   obtain ⟨x2_13, y2_13, z2_13, c2_13, es2_13⟩ := k2_8.form
   have sk2_13 : Is (num q) (.agg #[.bool x2_13, .slice y2_13 z2_13 c2_13]) W2 := by rw [← es2_13]; exact k2_8
   have q2_0 : W2.heap[(lc2 0)]? = some (.cells #[.bool x2_13, .slice y2_13 z2_13 c2_13] 24) := by
    rw [contAll_one rfl (cs := #[.bool x2_13, .slice y2_13 z2_13 c2_13]) (by rw [es2_13]; rfl) rfl] at qr; exact qr
   obtain ⟨qr, ho, hl⟩ := hX2 1 _ rfl
   have e2_12 : u2 12 = .pointer (some ⟨lc2 1, 0, none⟩) := (hl 12 rfl).1
   have g2_1 := (hl 12 rfl).2
   obtain ⟨x2_14, y2_14, z2_14, c2_14, es2_14⟩ := k2_9.form
   have sk2_14 : Is (num r) (.agg #[.bool x2_14, .slice y2_14 z2_14 c2_14]) W2 := by rw [← es2_14]; exact k2_9
   have q2_1 : W2.heap[(lc2 1)]? = some (.cells #[.bool x2_14, .slice y2_14 z2_14 c2_14] 24) := by
    rw [contAll_one rfl (cs := #[.bool x2_14, .slice y2_14 z2_14 c2_14]) (by rw [es2_14]; rfl) rfl] at qr; exact qr
   have ne2_0_1_1 := Nat.ne_of_lt (Nat.lt_of_lt_of_le (Array.getElem?_eq_some_iff.1 q1_1).1 g2_0)
   have ne2_1_1_1 := Nat.ne_of_lt (Nat.lt_of_lt_of_le (Array.getElem?_eq_some_iff.1 q1_1).1 g2_1)
   have q2_1_1 := oth0 hO2 q1_1
   simp only [putK, fC, fN, kZ, kS, vV, vA, vK, sI, sZ, sS, e2_11, e2_12]
   have hBt2 := hBt1.trans hB2
   clear hV2 hX2 hA2
   go_upto_region 2 with fail
   refine rg (n := 9) (t16 := 48) w.heap.size [(lc1 1)] [.val (.agg #[.bool x2_13, .slice y2_13 z2_13 c2_13]), .val (.pointer (some ⟨(lc2 1), 1, none⟩)), .val (.slice y2_14 z2_14 c2_14), .val (.int .i64 ((z2_14 : Nat) : Int)), .val (.bool t), .any, .val (.bool t)] [(0, 18), (1, 19), (2, 20), (3, 21), (4, 22), (6, 3)] [⟨24, none, (lc1 1), pt, 2, [.c #[.bool false, .slice none 0 0]], [(5, 0, 0)]⟩] ?ok3 ?st3 ?al3 ?pu3 ?en3
   case ok3 => exact BxOK.one ⟨(Nat.le_trans hB0.size g1_1), ⟨_, q2_1_1, rfl, rfl, rfl⟩, by simp, (by decide : (24 : Nat) ≠ 48)⟩ rfl hBt2.size
   case st3 =>
    intro zi zo ho hro a' u lc W hM
    match zi, ho, hro with
    | 0, ho, _ => cases ho; exact wn (kL24 rfl (hM.ol 4) (hM.o1 q2_0 (by omega)) rfl)
    | 1, ho, _ => cases ho; exact wn (kField24_1 rfl (hM.ol 5))
    | 2, ho, _ => cases ho; exact wn (kLoad1 Tryz.underlying22 rfl rfl (hM.d 1 19 rfl) (hM.o1 q2_1 (by omega)) rfl rfl)
    | 3, ho, _ => cases ho; exact wn (kLen rfl (hM.d 2 20 rfl))
    | 4, ho, _ => cases ho; exact wn (kEql3 rfl (hM.d 3 21 rfl) rfl (by rw [← HT.out]; exact decide_eq_decide.2 (by have := num_len sk2_14; omega)))
    | 5, _, hro => exact nr1 hro (by kernel_rfl)
    | 6, ho, _ => cases ho; exact wn (kAssign rfl (hM.d 4 22 rfl))
    | zk + 7, ho, _ => simp at ho
   case al3 =>
    intro zk zb zi zo hk ha ho a' u lc W hM
    match zk, hk with
    | 0, hk => cases hk; cases ha
    | zk + 1, hk => simp at hk
   case pu3 =>
    intro zk zb zs zo hk hs ho a' u lc W zc hM hc hcs
    match zk, hk with
    | 0, hk =>
     cases hk
     simp only [List.mem_cons, List.not_mem_nil, or_false] at hs
     rcases hs with rfl
     · cases ho
       have e : u 0 = .agg #[.bool x2_13, .slice y2_13 z2_13 c2_13] := hM.kd 0
       exact kPut rfl e ((hM.ol 2).trans (show _ = Value.pointer (some ⟨lc 0, 0, none⟩) from by rw [show lc 0 = (lc1 1) from hM.locO 0 _ rfl rfl]; rfl)) (hM.v 0 18 rfl) hc hcs sz24
    | zk + 1, hk => simp at hk
   case en3 =>
    intro u3 lc3 W3 hK3 hB3 hO3 hV3 hX3 hA3
    have e3_0 := kv (hV3 0 18 rfl) rfl
    obtain ⟨qr, ho, hl⟩ := hX3 0 _ rfl
    have elc : lc3 0 = (lc1 1) := ho rfl
    rw [elc] at qr
    have f3_0 := sk2_13.kept hK3
    have q3_0 : W3.heap[(lc1 1)]? = some (.cells #[.bool x2_13, .slice y2_13 z2_13 c2_13] 24) := by
     rw [contAll_one rfl (cs := #[.bool x2_13, .slice y2_13 z2_13 c2_13]) (by rw [e3_0]; rfl) rfl] at qr; exact qr
    simp only [putK, fC, fN, kZ, kS, vV, sI, sZ, sS]
    have hBt3 := hBt2.trans hB3
    clear hV3 hX3 hA3
    have cr0 := cell_of q3_0 0 rfl
    have cr1 := cell_of q3_0 1 rfl
    go_wp2
    exact bodyPost_ret (v := .tuple #[.agg #[.bool x2_13, .slice y2_13 z2_13 c2_13], .bool t]) (by simp [results, Tryz.results99, go_sem, cr0, cr1]) rfl ⟨_, rfl, ⟨_, _, rfl, f3_0, rfl⟩, hBt3⟩
theorem cmp_pm {a b : Int} (ha : a < 0) (hb : ¬ b < 0) : cmpI a b = -1 := by have := cmpI_lt.2 (show a < b by omega); have := cmpI_bd a b; omega
theorem cmp_mp {a b : Int} (ha : ¬ a < 0) (hb : b < 0) : cmpI a b = 1 := by have := cmpI_swap a b; have := cmp_pm hb ha; omega
theorem cmp_nn {a b : Int} (ha : a < 0) (hb : b < 0) : cmpI b.natAbs a.natAbs = cmpI a b := by
 have h1 := cmpI_lt (n := (b.natAbs : Int)) (m := a.natAbs)
 have h2 := cmpI_eq (n := (b.natAbs : Int)) (m := a.natAbs)
 have h3 := cmpI_lt (n := a) (m := b)
 have h4 := cmpI_eq (n := a) (m := b)
 have h5 := cmpI_bd (b.natAbs : Int) a.natAbs
 have h6 := cmpI_bd a b
 omega
theorem cmp_pp {a b : Int} (ha : ¬ a < 0) (hb : ¬ b < 0) : cmpI a.natAbs b.natAbs = cmpI a b := by rw [show (a.natAbs : Int) = a by omega, show (b.natAbs : Int) = b by omega]
theorem Cmp_ok (va vb : Value) (a b : Int) (w : World) (hA : Wn w.heap.size w va a) (hB : Wn w.heap.size w vb b) : Calls Tryz.prog 69 #[va, vb] w fun e w' => e = .returned (.int .i64 (cmpI a b)) ∧ Below w.heap.size w w' := by
 obtain ⟨sa, A, rfl, hLa, hRa, hca⟩ := hA
 obtain ⟨sb, B, rfl, hLb, hRb, hcb⟩ := hB
 obtain ⟨pa, la, ca, rfl⟩ := hLa.form
 obtain ⟨pb, lb, cb, rfl⟩ := hLb.form
 have HOA := Lib.hid (rep_ok hRa hca)
 have HOB := Lib.hid (rep_ok hRb hcb)
 have hla := rep_short hRa hca
 have hlb := rep_short hRb hcb
 obtain ⟨na, hna⟩ : ∃ na, na = decide (a < 0) := ⟨_, rfl⟩
 obtain ⟨nb, hnb⟩ : ∃ nb, nb = decide (b < 0) := ⟨_, rfl⟩
 rw [← hna, ← hnb]
 rw [← hna] at HOA
 rw [← hnb] at HOB
 have HNA := Lib.hid hna
 have HNB := Lib.hid hnb
 clear hna hnb
 obtain ⟨w3, hw3⟩ : ∃ w3, w3 = ((w.alloc (.cells #[.bool na, .slice pa la ca] 24)).alloc (.cells #[.bool nb, .slice pb lb cb] 24)).alloc (.cells #[.bool na, .slice pa la ca, .bool nb, .slice pb lb cb] 24) := ⟨_, rfl⟩
 have hB3 : Below w.heap.size w w3 := by rw [hw3]; exact (((Below.refl _ w).alloc (Nat.le_refl _) _).alloc (by simp) _).alloc (by simp; omega) _
 have hs3 : w3.heap.size = w.heap.size + 3 := by rw [hw3]; simp
 obtain ⟨q0, q1, q2⟩ := alloc3 w (.cells #[.bool na, .slice pa la ca] 24) (.cells #[.bool nb, .slice pb lb cb] 24) (.cells #[.bool na, .slice pa la ca, .bool nb, .slice pb lb cb] 24)
 rw [← hw3] at q0 q1 q2
 go_enter Tryz.func69, Tryz.ntmps69
 cases na with
 | true =>
  have ha : a < 0 := by simpa using HNA.out
  cases nb with
  | true =>
   have hb : b < 0 := by simpa using HNB.out
   have HC := Lib.hid (cmp_nn ha hb)
   go_wp2_with (first | (go_at_call 95; rw [← hw3]; refine (valid_two (w.heap.size + 1 + 1) true true (.slice pa la ca) (.slice pb lb cb) A B w3 (by omega) (by omega) (by omega) (cell_of q2 0 rfl) (cell_of q2 1 rfl) (cell_of q2 2 rfl) (cell_of q2 3 rfl) ((hLa.below hB3).mono hB3.size) ((hLb.below hB3).mono hB3.size)).mono ?_; rintro e w5 ⟨rfl, hb5⟩; rw [HOA.out, HOB.out]; clear hw3; have p0 := (hb5.block _ (show w.heap.size < w3.heap.size by omega)).trans q0; have p1 := (hb5.block _ (show w.heap.size + 1 < w3.heap.size by omega)).trans q1; have c0 := cell_of p0 0 rfl; have c1 := cell_of p0 1 rfl; have c2 := cell_of p1 0 rfl; have c3 := cell_of p1 1 rfl; have hs5 := hb5.size; have hB5 := hB3.trans (hb5.mono hB3.size)) | (go_at_call 130; refine (compare_any (.slice pb lb cb) (.slice pa la ca) B A _ _ w5 hRb hRa (by omega) (by omega) ((hLb.below hB5).mono hB5.size) ((hLa.below hB5).mono hB5.size)).mono ?_; rintro e w6 ⟨rfl, hb6⟩; rw [HC.out]))
   go_ret
   exact ⟨rfl, hB5.trans (hb6.mono hB5.size)⟩
  | false =>
   have hb : ¬ b < 0 := by simpa using HNB.out
   have HC := Lib.hid (cmp_pm ha hb)
   rw [HC.out]
   go_wp2_with (first | (go_at_call 95; rw [← hw3]; refine (valid_two (w.heap.size + 1 + 1) true false (.slice pa la ca) (.slice pb lb cb) A B w3 (by omega) (by omega) (by omega) (cell_of q2 0 rfl) (cell_of q2 1 rfl) (cell_of q2 2 rfl) (cell_of q2 3 rfl) ((hLa.below hB3).mono hB3.size) ((hLb.below hB3).mono hB3.size)).mono ?_; rintro e w5 ⟨rfl, hb5⟩; rw [HOA.out, HOB.out]; clear hw3; have p0 := (hb5.block _ (show w.heap.size < w3.heap.size by omega)).trans q0; have p1 := (hb5.block _ (show w.heap.size + 1 < w3.heap.size by omega)).trans q1; have c0 := cell_of p0 0 rfl; have c1 := cell_of p0 1 rfl; have c2 := cell_of p1 0 rfl; have c3 := cell_of p1 1 rfl; have hs5 := hb5.size; have hB5 := hB3.trans (hb5.mono hB3.size)) | (go_at_call 129; refine (sign_any true w5).mono ?_; rintro e w6 ⟨rfl, rfl⟩))
   go_ret
   exact ⟨rfl, hB5⟩
 | false =>
  have ha : ¬ a < 0 := by simpa using HNA.out
  cases nb with
  | true =>
   have hb : b < 0 := by simpa using HNB.out
   have HC := Lib.hid (cmp_mp ha hb)
   rw [HC.out]
   go_wp2_with (first | (go_at_call 95; rw [← hw3]; refine (valid_two (w.heap.size + 1 + 1) false true (.slice pa la ca) (.slice pb lb cb) A B w3 (by omega) (by omega) (by omega) (cell_of q2 0 rfl) (cell_of q2 1 rfl) (cell_of q2 2 rfl) (cell_of q2 3 rfl) ((hLa.below hB3).mono hB3.size) ((hLb.below hB3).mono hB3.size)).mono ?_; rintro e w5 ⟨rfl, hb5⟩; rw [HOA.out, HOB.out]; clear hw3; have p0 := (hb5.block _ (show w.heap.size < w3.heap.size by omega)).trans q0; have p1 := (hb5.block _ (show w.heap.size + 1 < w3.heap.size by omega)).trans q1; have c0 := cell_of p0 0 rfl; have c1 := cell_of p0 1 rfl; have c2 := cell_of p1 0 rfl; have c3 := cell_of p1 1 rfl; have hs5 := hb5.size; have hB5 := hB3.trans (hb5.mono hB3.size)) | (go_at_call 129; refine (sign_any false w5).mono ?_; rintro e w6 ⟨rfl, rfl⟩))
   go_ret
   exact ⟨rfl, hB5⟩
  | false =>
   have hb : ¬ b < 0 := by simpa using HNB.out
   have HC := Lib.hid (cmp_pp ha hb)
   go_wp2_with (first | (go_at_call 95; rw [← hw3]; refine (valid_two (w.heap.size + 1 + 1) false false (.slice pa la ca) (.slice pb lb cb) A B w3 (by omega) (by omega) (by omega) (cell_of q2 0 rfl) (cell_of q2 1 rfl) (cell_of q2 2 rfl) (cell_of q2 3 rfl) ((hLa.below hB3).mono hB3.size) ((hLb.below hB3).mono hB3.size)).mono ?_; rintro e w5 ⟨rfl, hb5⟩; rw [HOA.out, HOB.out]; clear hw3; have p0 := (hb5.block _ (show w.heap.size < w3.heap.size by omega)).trans q0; have p1 := (hb5.block _ (show w.heap.size + 1 < w3.heap.size by omega)).trans q1; have c0 := cell_of p0 0 rfl; have c1 := cell_of p0 1 rfl; have c2 := cell_of p1 0 rfl; have c3 := cell_of p1 1 rfl; have hs5 := hb5.size; have hB5 := hB3.trans (hb5.mono hB3.size)) | (go_at_call 130; refine (compare_any (.slice pa la ca) (.slice pb lb cb) A B _ _ w5 hRa hRb (by omega) (by omega) ((hLa.below hB5).mono hB5.size) ((hLb.below hB5).mono hB5.size)).mono ?_; rintro e w6 ⟨rfl, hb6⟩; rw [HC.out]))
   go_ret
   exact ⟨rfl, hB5.trans (hb6.mono hB5.size)⟩
theorem Wn.raw {n₀ : Nat} {W : World} {v : Value} {z : Int} (h : Wn n₀ W v z) : ∃ zs, Wr n₀ W v (decide (z < 0)) zs ∧ Rep zs z.natAbs ∧ z.natAbs < Cap ∧ zs.length ≤ 1024 ∧ okB (decide (z < 0)) zs = true := by
 obtain ⟨sv, zs, e, hL, hR, hc⟩ := h
 exact ⟨zs, ⟨sv, e, hL⟩, hR, hc, rep_short hR hc, rep_ok hR hc⟩
end Go.Proofs.YtihdbjilolmfiaaGreatDoor
