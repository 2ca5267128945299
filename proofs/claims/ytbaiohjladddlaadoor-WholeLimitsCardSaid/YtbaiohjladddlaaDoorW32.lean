import Derived.Test.YtbaiohjladddlaaDoorW31
import Derived.OwnWalkIn
import Derived.LoopIn
import Derived.LoopNIn
/- whole: Text. -/
namespace Go.Proofs.YtbaiohjladddlaaDoor
open Go.RowKit Go.WM Go.WR
attribute [local go_sem] Oper.semAt_some

/-- what Text answers at a valid number -/
def TextPost (z : Int) (w : World) (e : Ending) (w' : World) : Prop := e = .returned (.tuple #[.string ⟨(Lib.itoa z).toArray⟩, .int .i64 0]) ∧ Below w.heap.size w w'

theorem info57 : (Tryd.prog.info? 57).map (fun i => (i.zero, i.size, i.bytes)) = some (some (.int .u32 0), 1, 4) := by kernel_rfl

/-- a row of groups of one's own -/
def Own32 (B : Nat) (W : World) (v : Value) (gs : List Int) : Prop := W.ownsRow B 57 1 v gs.length (gs.map (Value.int .u32))

theorem Own32.below {B : Nat} {W W' : World} {v : Value} {zs : List Int} (h : Own32 B W v zs) (hb : Below W.heap.size W W') : Own32 B W' v zs := by
  refine World.ownsRow.kept h (row := none) ⟨hb.os, hb.tape, hb.output, hb.size, fun k hk _ => hb.block k hk⟩ ?_
  cases hv : v.ownBlock <;> simp

theorem Own32.alloc {B : Nat} {W : World} {v : Value} {zs : List Int} (h : Own32 B W v zs) (o : Obj) : Own32 B (W.alloc o) v zs := World.ownsRow.alloc h o

theorem Own32.shape {B : Nat} {W : World} {v : Value} {zs : List Int} (h : Own32 B W v zs) : ∃ p c, v = .slice p zs.length c := by
  rcases h.2 with ⟨e, h0⟩ | ⟨g, cap, cur, e, _⟩
  · exact ⟨none, 0, by rw [e, h0]⟩
  · exact ⟨_, _, e⟩

theorem own_apart {B B' : Nat} {W : World} {v u : Value} {zs gs : List Int} (h : Own16 B W v zs) (k : Own32 B' W u gs) : v.ownBlock = none ∨ v.ownBlock ≠ u.ownBlock := by
  rcases h.2 with ⟨rfl, _⟩ | ⟨g, cap, cur, rfl, _, hg, _⟩
  · exact .inl rfl
  · right
    rcases k.2 with ⟨rfl, _⟩ | ⟨g', cap', cur', rfl, _, hg', _⟩
    · simp [Value.ownBlock]
    · intro e
      simp only [Value.ownBlock, Option.some.injEq] at e
      subst e
      rw [hg] at hg'
      simp at hg'

theorem Own32.form {B : Nat} {W : World} {v : Value} {zs : List Int} (h : Own32 B W v zs) (h0 : zs ≠ []) : ∃ g cap, v = .slice (some ⟨g, 0, none⟩) zs.length cap ∧ B ≤ g ∧ g < W.heap.size ∧ zs.length ≤ cap ∧ ∀ j, j < zs.length → W.cell? ⟨g, 0 + j, none⟩ = some (.int .u32 (zs[j]?.getD 0)) := by
  have hcells := fun g => World.ownsRow.cells (g := g) h
  obtain ⟨hl, h⟩ := h
  rcases h with ⟨e, hn⟩ | ⟨g', cap', cur, e, hB, hh, hn, hc, hs, ht⟩
  · exact absurd (List.length_eq_zero_iff.1 hn) h0
  · refine ⟨g', cap', e, hB, (Array.getElem?_eq_some_iff.1 hh).1, hn, fun j hj => ?_⟩
    have := hcells g' (by rw [e]; rfl) j (.int .u32 (zs[j]?.getD 0)) (by simp [hj])
    rw [show (⟨g', 0, none⟩ : Addr).add j = ⟨g', 0 + j, none⟩ by by_cases hj0 : j = 0 <;> simp [Addr.add, hj0]] at this
    exact this

theorem bldAt_kept {B b : Nat} {p : Value} {bs : List Value} {w w' : World} {row : Option Nat} (h : Lib.BuilderAtF 62 5 B b p bs w) (hg : w.grownBy w' row) (hr : ∀ r, row = some r → ∃ o : Obj, w.heap[r]? = some o ∧ o.isCells = false) : Lib.BuilderAtF 62 5 B b p bs w' := by
  have hlt := h.lt
  obtain ⟨hB, v, hb, hown, hne⟩ := h
  refine ⟨hB, v, (hg.block b hlt fun e => ?_).trans hb, hown.kept hg ?_, hne⟩
  · obtain ⟨o, ho, hc⟩ := hr b e.symm
    rw [hb] at ho; cases ho; cases hc
  · rcases hown.2 with ⟨rfl, _⟩ | ⟨g, cap, cur, fz, rfl, _, hgb, _⟩
    · exact .inl rfl
    · refine .inr fun e' => ?_
      obtain ⟨o, ho, hc⟩ := hr g e'.symm
      rw [hgb] at ho; cases ho; cases hc

theorem bld_kept {B b : Nat} {bs : List Value} {w w' : World} {row : Option Nat} (h : Lib.IsBuilderF 62 5 B b bs w) (hg : w.grownBy w' row) (hr : ∀ r, row = some r → ∃ o : Obj, w.heap[r]? = some o ∧ o.isCells = false) : Lib.IsBuilderF 62 5 B b bs w' :=
  h.elim (fun x => .inl (bldAt_kept x hg hr)) (fun x => .inr (bldAt_kept x hg hr))

theorem bld_below {B b : Nat} {bs : List Value} {w w' : World} (h : Lib.IsBuilderF 62 5 B b bs w) (hb : Below w.heap.size w w') : Lib.IsBuilderF 62 5 B b bs w' :=
  bld_kept h (row := none) ⟨hb.os, hb.tape, hb.output, hb.size, fun k hk _ => hb.block k hk⟩ (fun _ e => by cases e)

theorem bld_block {B b : Nat} {bs : List Value} {w : World} (h : Lib.IsBuilderF 62 5 B b bs w) : ∃ cs fz, w.heap[b]? = some (.cells cs 62 fz) := by
  rcases h with ⟨_, v, hb, _⟩ | ⟨_, v, hb, _⟩ <;> exact ⟨_, _, hb⟩

theorem keepsOthers_of {b : Nat} {w w' : World} (h : Lib.OthersKept 5 (some b) w w') (hs : w.heap.size ≤ w'.heap.size) (hb : ∃ cs fz, w.heap[b]? = some (.cells cs 62 fz)) : KeepsOthers w w' :=
  ⟨hs, fun k o hk ho => h k o hk (fun e => by
    obtain ⟨cs, fz, hc⟩ := hb
    simp only [Option.some.injEq] at e
    subst e
    rw [hk] at hc; cases hc; cases ho) (fun c fz e => by subst e; cases ho)⟩

theorem othersKept_of_below {b : Option Nat} {w w' : World} (h : Below w.heap.size w w') : Lib.OthersKept 5 b w w' :=
  fun k o hk _ _ => (h.block k (Array.getElem?_eq_some_iff.1 hk).1).trans hk

theorem bcat (l m : List UInt8) : Lib.byteCells l ++ Lib.byteCells m = Lib.byteCells (l ++ m) := by simp [Lib.byteCells]

theorem two_pow_lt {k m : Nat} {n : Nat} (h : (10000 : Nat) ^ k ≤ n) (hn : n < 65536 ^ m) : k < 16 * m := by
  have h1 : 2 ^ k ≤ 10000 ^ k := Nat.pow_le_pow_left (by decide) k
  rw [p16 m] at hn
  have h3 : 2 ^ k < 2 ^ (16 * m) := by omega
  exact (Nat.pow_lt_pow_iff_right (by decide)).1 h3

theorem groups_short {gs : List Int} {m n : Int} (hg : Gr gs) (hm : 0 < m) (h : gval gs + 10000 ^ gs.length * m = n) (hn : n < Cap) : gs.length < 16384 := by
  have h0 := gval_nonneg hg
  have hp : (0 : Int) < 10000 ^ gs.length := Int.pow_pos (by decide)
  have h1 : (10000 : Int) ^ gs.length * 1 ≤ 10000 ^ gs.length * m := Int.mul_le_mul_of_nonneg_left (by omega) (by omega)
  refine two_pow_lt (m := 1024) (n := n.toNat) ?_ ?_
  · have e : ((10000 ^ gs.length : Nat) : Int) = (10000 : Int) ^ gs.length := by rw [Int.natCast_pow]; rfl
    omega
  · rw [Cap.eq] at hn
    have e := np65 1024
    rw [← e] at hn
    generalize 65536 ^ 1024 = b at *
    omega

theorem gval_step {gs : List Int} {m n : Int} (h : gval gs + 10000 ^ gs.length * m = n) : gval (gs ++ [m % 10000]) + 10000 ^ (gs ++ [m % 10000]).length * (m / 10000) = n := by
  rw [gval_snoc, List.length_append, List.length_singleton, Int.pow_succ, ← h]
  have e : m = 10000 * (m / 10000) + m % 10000 := by omega
  generalize hq : m / 10000 = q at *
  generalize hr : m % 10000 = r at *
  rw [e]
  grind

theorem last_snoc (gs : List Int) (x : Int) : (gs ++ [x])[(gs ++ [x]).length - 1]?.getD 0 = x := by simp

theorem nDigits_small4 {u : Nat} (h : u < 10000) : (Lib.decDigits u).length ≤ 4 := by
  rw [Lib.decDigits_length]
  by_cases h1 : u < 10
  · rw [Lib.nDigits_small h1]; omega
  · rw [Lib.nDigits_big h1]
    by_cases h2 : u / 10 < 10
    · rw [Lib.nDigits_small h2]; omega
    · rw [Lib.nDigits_big h2]
      by_cases h3 : u / 10 / 10 < 10
      · rw [Lib.nDigits_small h3]; omega
      · rw [Lib.nDigits_big h3, Lib.nDigits_small (by omega)]; omega

theorem itoa_nat {n : Int} (h : 0 ≤ n) : Lib.itoa n = Lib.decDigits n.toNat := by unfold Lib.itoa; rw [if_neg (by omega)]

theorem itoa_tail {x : Int} (h0 : 0 ≤ x) : (Lib.itoa (10000 + x)).tail = pad4 x.toNat := by
  rw [itoa_nat (by omega), show (10000 + x).toNat = 10000 + x.toNat by omega]; rfl

theorem extract_one (l : List UInt8) : ((⟨l.toArray⟩ : ByteArray).extract 1 (⟨l.toArray⟩ : ByteArray).size).data.toList = l.tail := by
  rw [Lib.extract_data]
  have e : (⟨l.toArray⟩ : ByteArray).data.toList = l := by simp
  rw [e, List.drop_one, List.take_of_length_le]
  have : (⟨l.toArray⟩ : ByteArray).size = l.length := by rw [Lib.size_eq]
  rw [this, List.length_tail]; omega

/-- the text of a number that is not 0 -/
theorem itoa_sign (z : Int) : Lib.itoa z = (if decide (z < 0) = true then [45] else []) ++ Lib.decDigits z.natAbs := by
  unfold Lib.itoa
  by_cases h : z < 0
  · rw [if_pos h, if_pos (decide_eq_true h)]; rfl
  · rw [if_neg h, if_neg (by rw [decide_eq_false h]; decide), show z.toNat = z.natAbs by omega]; rfl

set_option maxRecDepth 100000 in
set_option maxHeartbeats 2000000 in
theorem Text_nz (va : Value) (z : Int) (w : World) (hA : Wn w.heap.size w va z) (hz0 : z ≠ 0) (htab : Tab w) : Calls Tryd.prog 21 #[va] w (TextPost z w) := by
  obtain ⟨zs, hr, hR, hc, hlen, hok⟩ := hA.raw
  obtain ⟨sv, rfl, hL⟩ := hr
  obtain ⟨p, l, c, rfl⟩ := hL.form
  have hl := hL.cells.1
  have hpos := hR.pos
  have hl0 : 0 < l := by omega
  obtain ⟨ng, hng⟩ : ∃ ng, ng = decide (z < 0) := ⟨_, rfl⟩
  rw [← hng] at hok ⊢
  obtain ⟨i0, hi, hz1, hz2, hz3⟩ := info_parts info57
  have HNG := Lib.hid hng
  have HOK := Lib.hid hok
  have HL := Lib.hid hl
  clear hok hl hng hpos
  have hc0 : ((l : Int) == 0) = false := by rw [beq_eq_false_iff_ne]; omega
  obtain ⟨w1, hw1⟩ : ∃ w1, w1 = w.alloc (.cells #[.bool ng, .slice p l c] 24) := ⟨_, rfl⟩
  have hB1 : Below w.heap.size w w1 := by rw [hw1]; exact (Below.refl _ w).alloc (Nat.le_refl _) _
  have hs1 : w1.heap.size = w.heap.size + 1 := by rw [hw1]; simp
  have q0 : w1.heap[w.heap.size]? = some (.cells #[.bool ng, .slice p l c] 24) := by rw [hw1]; exact alloc_new _ _ rfl
  have HW := Lib.hid hw1
  clear hw1
  refine (callsIn_wide (n := 9)).1 ?_
  refine callsIn_of_wp_marks Tryd.func21 rfl trivial ?_ rfl
  simp only [Tryd.ntmps21, List.size_toArray, List.length_cons, List.length_nil, Nat.reduceAdd, Nat.reduceSub, Array.replicate_succ, Array.replicate_zero, List.push_toArray, List.append_toArray, List.nil_append, List.cons_append]
  gi_wp2_with (refine ⟨trivial, ?_⟩; gi_at_call 15; rw [← HW.out]; refine ((callsIn_wide (n := 8)).2 (Valid_any (.agg #[.bool ng, .slice p l c]) ng zs w1 ⟨_, rfl, (hL.below hB1).mono hB1.size⟩ (by omega))).mono ?_; rintro e w2 ⟨rfl, hb2⟩; rw [HOK.out]; have p0 := (hb2.block _ (show w.heap.size < w1.heap.size by omega)).trans q0; have c0 := cell_of p0 0 rfl; have c1 := cell_of p0 1 rfl; have hs2 : w.heap.size + 1 ≤ w2.heap.size := (by have := hb2.size; omega); have hB2 := hB1.trans (hb2.mono hB1.size); clear hs1 q0 hb2)
  clear c0 c1
  gi_loopw [4, 5] (fun gv lv wr => ∃ (gs X : List Int) (m : Int) (pl : Option Addr) (ll cl : Nat) (pg : Option Addr) (lg cg : Nat), lv = .slice pl ll cl ∧ gv = .slice pg lg cg ∧ Rep X m ∧ m < Cap ∧ Gr gs ∧ gval gs + 10000 ^ gs.length * m = z.natAbs ∧ gs.length ≤ 16384 ∧ (m = 0 → 0 < gs[gs.length - 1]?.getD 0) ∧
    Own32 w2.heap.size wr (.slice pg lg cg) gs ∧ Lims wr.heap.size wr (.slice pl ll cl) X ∧ Below w2.heap.size w2 wr) (fun _ lv wr => readN wr lv)
  case atStart => exact ⟨[], zs, z.natAbs, p, l, c, none, 0, 0, rfl, rfl, hR, hc, Gr.nil, by simp [gval], by simp, fun h => absurd h (by omega), ⟨rfl, .inl ⟨rfl, rfl⟩⟩, (hL.below hB2).mono hB2.size, Below.refl _ _⟩
  case round =>
    obtain ⟨gs, X, m, pl, ll, cl, pg, lg, cg, rfl, rfl, hRX, hmC, hGr, hval, hgl, hlast, hown, hLX, hBw⟩ := hrel
    have hXl := hRX.cap.2 hmC
    have hll := hLX.cells.1
    have hposX := hRX.pos
    by_cases hm : 0 < m
    · have hl1 : 0 < ll := by omega
      have hgs := groups_short hGr hm hval hc
      have hsh := short_some pl cl ll 10000 X wr (by omega) (by omega) (by omega) hRX.lm hLX
      rw [hRX.eq] at hsh
      obtain ⟨g, hg⟩ : ∃ g, g = m % 10000 := ⟨_, rfl⟩
      obtain ⟨q, hq⟩ : ∃ q, q = m / 10000 := ⟨_, rfl⟩
      rw [← hg, ← hq] at hsh
      have hg0 : 0 ≤ g := by omega
      have hg1 : g < 10000 := by omega
      have hst := gval_step hval
      rw [← hg, ← hq] at hst
      have hqm : q < m := by omega
      have hq0 : q = 0 → 0 < g := by omega
      have hsw := hBw.size
      have HST := Lib.hid hst
      have HQ0 := Lib.hid hq0
      have HLL := Lib.hid hll
      have HX := Lib.hid hRX.eq
      clear hst hq0 hg hq hval hlast hll hposX
      gi_wp2_with (first | (refine ⟨trivial, ?_⟩; gi_at_call 43; refine ((callsIn_wide (n := 8)).2 hsh).mono ?_; rintro e w3 ⟨v3, Z, rfl, hOz, hRz, hb3⟩; obtain ⟨p3, l3, c3, rfl⟩ := hOz.shape; have z3 := hb3.size; have hown3 : Own32 w2.heap.size w3 (.slice pg lg cg) gs := hown.below hb3) | (gi_at_builtin; refine wpListIn_append_own _ rfl _ _ 56 rfl w2.heap.size 57 i0 (.int .u32 0) 1 4 Tryd.underlying56 hi hz1 hz2 hz3 rfl (by decide) _ _ _ rfl (hown3.alloc _) ⟨w3.heap.size, 0, none⟩ 1 1 [.int .u32 g] rfl rfl ?c1 ?c2 ?c3 ?c4 ?c5 ?_))
      case c1 => intro j u hj; match j, hj with | 0, hj => (simp at hj; subst hj; simp [Addr.add])
      case c2 => intro u hu; simp at hu; subst hu; rfl
      case c3 => unfold maxLen; omega
      case c4 => omega
      case c5 => simp; omega
      intro v4 w4 hown4 hgrow _
      have hO4 : Own16 wr.heap.size w4 (.slice p3 l3 c3) Z := World.ownsRow.kept (hOz.alloc (.cells #[.int .u32 g] 57)) hgrow (own_apart (hOz.alloc (.cells #[.int .u32 g] 57)) (hown3.alloc (.cells #[.int .u32 g] 57)))
      have hB4 : Below w2.heap.size w2 w4 := ((hBw.trans (hb3.mono hsw)).alloc (by omega) _).grown hgrow (by simp; omega) (fun k hk => ((hown3.alloc (.cells #[.int .u32 g] 57)).lt k hk).1)
      have hown5 : Own32 w2.heap.size w4 v4 (gs ++ [g]) := by
        have h := hown4
        unfold Own32
        rw [List.length_append, List.map_append]
        exact h
      obtain ⟨pv, lv, cv, rfl⟩ : ∃ p l c, v4 = .slice p l c := (let ⟨p, c, e⟩ := hown5.shape; ⟨p, _, c, e⟩)
      clear hown4 hown3 hown hgrow hOz hsh
      gi_wp2
      go_roundw
      case rel => exact ⟨gs ++ [g], Z, q, p3, l3, c3, pv, lv, cv, rfl, rfl, hRz, by omega, hGr.snoc ⟨hg0, hg1⟩, HST.out, by simp; omega, fun h => by rw [last_snoc]; exact HQ0.out h, hown5, hO4.lims, hB4⟩
      case measure =>
        rw [readN_eq hO4.lims, readN_eq hLX, hRz.eq, HX.out]
        omega
    · have hm0 : m = 0 := by have := hRX.nonneg; omega
      subst hm0
      have hll0 : ll = 0 := by omega
      subst hll0
      have htop := hlast rfl
      have hgv : gval gs = z.natAbs := by rw [Int.mul_zero, Int.add_zero] at hval; exact hval
      have hgne : gs ≠ [] := by rintro rfl; simp [gval] at hgv; omega
      have hk1 : 1 ≤ gs.length := by
        rcases Nat.eq_zero_or_pos gs.length with e | e
        · exact absurd (List.length_eq_zero_iff.1 e) hgne
        · exact e
      obtain ⟨gb, gc, hpg, hgbB, hgbW, hgcap, hgcells⟩ := hown.form hgne
      cases hpg
      obtain ⟨k, hk⟩ : ∃ k, k = gs.length := ⟨_, rfl⟩
      rw [← hk] at hgcap ⊢
      obtain ⟨top, htp⟩ : ∃ top, top = gs[gs.length - 1]?.getD 0 := ⟨_, rfl⟩
      rw [← htp] at htop
      obtain ⟨ht0, ht1⟩ := hGr.getD (gs.length - 1)
      rw [← htp] at ht0 ht1
      have hctop : wr.cell? ⟨gb, k - 1, none⟩ = some (.int .u32 top) := by have := hgcells (k - 1) (by omega); rw [Nat.zero_add, hk, ← htp] at this; rw [hk]; exact this
      obtain ⟨wb, hwb⟩ : ∃ wb, wb = wr.alloc (.cells #[.pointer none, .slice none 0 0] 62) := ⟨_, rfl⟩
      have hBb : Below wr.heap.size wr wb := by rw [hwb]; exact (Below.refl _ wr).alloc (Nat.le_refl _) _
      have hsb : wb.heap.size = wr.heap.size + 1 := by rw [hwb]; simp
      have hld0 : Lib.IsBuilderF 62 5 wr.heap.size wr.heap.size (Lib.byteCells []) wb := by rw [hwb]; exact Lib.IsBuilderF.of (Lib.fresh_isBuilder 62 5 wr)
      have p1 := (hBw.block _ (show w.heap.size < w2.heap.size by omega)).trans p0
      have htw : Tab wr := (htab.below (hB2.trans (hBw.mono (by omega))))
      have d0 : (wr.alloc (.cells #[.pointer none, .slice none 0 0] 62)).cell? ⟨w.heap.size, 0, none⟩ = some (.bool ng) := by rw [← hwb]; exact cell_of ((hBb.block _ (show w.heap.size < wr.heap.size by have := hBw.size; omega)).trans p1) 0 rfl
      have HWB := Lib.hid hwb
      have HK := Lib.hid hk
      have HTP := Lib.hid htp
      have HGV := Lib.hid hgv
      clear hwb hk htp hgv hlast hval hll hposX
      have hk1 : 1 ≤ k := by have := HK.out; omega
      have hgl : k ≤ 16384 := by have := HK.out; omega
      have hsw := hBw.size
      obtain ⟨sg, hsg⟩ : ∃ sg : List UInt8, sg = if ng = true then [45] else [] := ⟨_, rfl⟩
      have hsgl : sg.length ≤ 1 := by rw [hsg]; split <;> simp
      have HSG := Lib.hid hsg
      clear hsg
      cases ng
      case false =>
        have hsg : sg = [] := HSG.out
        have z5 : wr.heap.size + 1 ≤ wb.heap.size := by omega
        have hB5 : Below wr.heap.size wr wb := hBb
        have hbl5 : Lib.IsBuilderF 62 5 wr.heap.size wr.heap.size (Lib.byteCells sg) wb := by rw [hsg]; exact hld0
        have c5 : (wr.alloc (.cells #[.pointer none, .slice none 0 0] 62)).cell? ⟨gb, k - 1, none⟩ = some (.int .u32 top) := by rw [← HWB.out]; exact (hB5.cell (p := ⟨gb, k - 1, none⟩) hgbW).trans hctop
        have tab5 : Tab wb := htw.below hB5
        have hitl : (Lib.itoa top).length ≤ 4 := by rw [itoa_nat (by omega)]; exact nDigits_small4 (by omega)
        have hlen7 : sg.length + (⟨(Lib.itoa top).toArray⟩ : ByteArray).size ≤ 140737488355328 := by rw [Lib.size_eq]; simp; omega
        gi_wp2_with (first | (refine ⟨trivial, ?_⟩; gi_at_call 46; rw [← HWB.out]; refine ((callsIn_wide (n := 8)).2 (itoa_c top wb (by omega) (by omega) tab5)).mono ?_; rintro e w6 ⟨rfl, hb6⟩; have z6 := hb6.size; have hB6 : Below wr.heap.size wr w6 := hB5.trans (hb6.mono (by omega)); have hbl6 := bld_below hbl5 hb6) | (refine ⟨trivial, ?_⟩; gi_at_call 45; refine ((callsIn_wide (n := 8)).2 (bWriteString_k wr.heap.size wr.heap.size _ ⟨(Lib.itoa top).toArray⟩ w6 hbl6 (by rw [Lib.byteCells_length]; exact hlen7) (by omega))).mono ?_; rintro e w7 ⟨rfl, hbl7, hb7, _⟩; have z7 := hb7.size; have hB7 : Below wr.heap.size wr w7 := hB6.trans hb7) | (refine ⟨trivial, ?_⟩; gi_at_call 47; refine ((callsIn_wide (n := 8)).2 (back_any _ _ _ _)).mono ?_; rintro e w' ⟨rfl, rfl⟩))
        have bA := Boxed.new w7 56 (.slice (some ⟨gb, 0, none⟩) (k - 1) cg)
        have hBA : Below wr.heap.size wr (w7.alloc (.cells #[.slice (some ⟨gb, 0, none⟩) (k - 1) cg] 56)) := hB7.alloc (by omega) _
        have hblA : Lib.IsBuilderF 62 5 wr.heap.size wr.heap.size (Lib.byteCells (sg ++ Lib.itoa top)) (w7.alloc (.cells #[.slice (some ⟨gb, 0, none⟩) (k - 1) cg] 56)) := by
          refine bld_below (w := w7) ?_ ((Below.refl _ w7).alloc (Nat.le_refl _) _)
          rw [← bcat]; exact .inr hbl7
        have hzA : (w7.alloc (.cells #[.slice (some ⟨gb, 0, none⟩) (k - 1) cg] 56)).heap.size = w7.heap.size + 1 := by simp
        have hbn : wr.heap.size ≠ w7.heap.size := by omega
        have hLA : Lims32 wr.heap.size (w7.alloc (.cells #[.slice (some ⟨gb, 0, none⟩) (k - 1) cg] 56)) (.slice (some ⟨gb, 0, none⟩) (k - 1) cg) (gs.take (k - 1)) := by
          have hl : (gs.take (k - 1)).length = k - 1 := by rw [List.length_take]; have := HK.out; omega
          refine .inr ⟨gb, 0, cg, by rw [hl], by rw [hl]; omega, hgbW, fun j hj => ?_⟩
          rw [hl] at hj
          rw [List.getElem?_take_of_lt hj]
          exact (hBA.cell (p := ⟨gb, 0 + j, none⟩) hgbW).trans (hgcells j (by have := HK.out; omega))
        have hN : k - 1 = (gs.take (k - 1)).length := by rw [List.length_take]; have := HK.out; omega
        obtain ⟨G, hG⟩ : ∃ G, G = gs.take (k - 1) := ⟨_, rfl⟩
        rw [← hG] at hLA hN
        have HG := Lib.hid hG
        have HN := Lib.hid hN
        clear hG
        have htop1 : gval (gs.drop (k - 1 - 0)) = top := by
          have h := HK.out
          have e := gval_drop (l := gs) (k := k - 1) (by omega)
          rw [Nat.sub_zero, e, List.drop_eq_nil_of_le (by omega), h, ← HTP.out]; simp [gval]
        have HT1 := Lib.hid htop1
        clear htop1 hN
        generalize w7.alloc (.cells #[.slice (some ⟨gb, 0, none⟩) (k - 1) cg] 56) = W0 at *
        refine' wpIn_range (n := 9) (gf := 75) (lb := #[.pointer (some ⟨w7.heap.size, 0, none⟩)]) (N := G.length) rfl (by omega) rfl trivial (enters_of Tryd.func75 (by kernel_rfl) rfl)
          (back_seq Fence.wide 8 trivial rfl (by omega) _ wr.heap.size _ G (by rw [← HN.out]; omega) W0 (by omega) bA hLA) keep1_t (keep1_b (by omega)) (fun _ => rfl)
          (fun j W => ∃ tx : List UInt8, Lib.IsBuilderF 62 5 wr.heap.size wr.heap.size (Lib.byteCells tx) W ∧ tx = sg ++ Lib.decDigits (gval (gs.drop (k - 1 - j))).toNat ∧ tx.length ≤ 5 + 4 * j ∧ 0 < gval (gs.drop (k - 1 - j)) ∧ Below wr.heap.size wr W)
          (fun c _ W => False)
          ?hI ?hIx ?h0 _ ?assign ?body ?done ?stop
        case hI =>
          rintro j W W' row ⟨tx, hbl, h1, h2, h3, hB⟩ hg hr
          exact ⟨tx, bld_kept hbl hg (fun r e => by obtain ⟨_, o, ho, hc⟩ := hr r e; exact ⟨o, ho, hc⟩), h1, h2, h3, hB.grown hg (by have := hB.size; omega) (fun k e => by have := (hr k e).1; omega)⟩
        case hIx => exact fun c => ownFrom_pure _ _
        case h0 => exact ⟨sg ++ Lib.itoa top, hblA, by rw [HT1.out, itoa_nat (by omega)], by rw [List.length_append]; omega, by rw [HT1.out]; omega, hBA⟩
        case assign =>
          intro l' x W K hK
          simp only [backs]
          gi_wp2
          exact hK
        case body =>
          rintro l' j W ⟨tx, hbl, htx, htl, hgp, hB⟩ hj
          have hjk : j < k - 1 := by rw [HN.out]; exact hj
          obtain ⟨m, hm⟩ : ∃ m : Nat, m = G.length - 1 - j := ⟨_, rfl⟩
          have hm1 : m + 1 = k - 1 - j := by have := HN.out; omega
          have hm2 : m = k - 1 - (j + 1) := by omega
          rw [← hm]
          obtain ⟨x, hx⟩ : ∃ x, x = gs[m]?.getD 0 := ⟨_, rfl⟩
          have hx' : G[m]?.getD 0 = x := by rw [hx, HG.out, List.getElem?_take_of_lt (by omega)]
          rw [hx']
          obtain ⟨hx0, hx1⟩ := hGr.getD m
          rw [← hx] at hx0 hx1
          rw [← hm1] at htx hgp
          obtain ⟨hst, hgp'⟩ := text_step hGr (k := m) (by have := HK.out; omega) hgp
          rw [← hx] at hst
          rw [hm2] at hgp'
          have hp4 : (pad4 x.toNat).length = 4 := by rw [pad4_eq (by omega)]; rfl
          have htx' : tx ++ pad4 x.toNat = sg ++ Lib.decDigits (gval (gs.drop (k - 1 - (j + 1)))).toNat := by rw [← hm2, htx, List.append_assoc, ← hst]
          have tabW : Tab W := htw.below hB
          have hzW := hB.size
          obtain ⟨s1, hs1⟩ : ∃ s1 : ByteArray, s1 = (⟨(Lib.itoa (10000 + x)).toArray⟩ : ByteArray) := ⟨_, rfl⟩
          have hs1t : (s1.extract 1 s1.size).data.toList = pad4 x.toNat := by rw [hs1, extract_one, itoa_tail hx0]
          have hs1n : 1 ≤ s1.size := by
            have h : s1.data.toList = Lib.itoa (10000 + x) := by rw [hs1]
            rw [Lib.size_eq, h, itoa_nat (by omega), Lib.decDigits_length]; exact Lib.nDigits_pos _
          have hwl : (Lib.byteCells tx).length + (s1.extract 1 s1.size).size ≤ 140737488355328 := by
            rw [Lib.byteCells_length, Lib.size_eq, hs1t, hp4]; omega
          have HTX := Lib.hid htx'
          have HS1 := Lib.hid hs1
          have HS1T := Lib.hid hs1t
          clear hst htx htx' hs1 hs1t hx hm hm1 hm2 hx'
          have h46 : Calls Tryd.prog 46 #[.int .i64 (10000 + x)] W fun e w' => e = .returned (.string s1) ∧ Below W.heap.size W w' := by rw [HS1.out]; exact itoa_c (10000 + x) W (by omega) (by omega) tabW
          gi_wp2
          refine ⟨trivial, ?_⟩
          refine CallsIn.mono (CallsIn.inRound l' (n := 6) ((callsIn_wide (n := 6)).2 h46)) ?_
          rintro e w8 ⟨rfl, hb8⟩
          have hbl8 := bld_below hbl hb8
          have z8 := hb8.size
          gi_wp2
          refine ⟨trivial, ?_⟩
          refine CallsIn.mono (CallsIn.inRound l' (n := 6) ((callsIn_wide (n := 6)).2 (bWriteString_k wr.heap.size wr.heap.size _ (s1.extract 1 s1.size) w8 hbl8 hwl (by omega)))) ?_
          rintro e w9 ⟨rfl, hbl9, hb9, hk9⟩
          gi_wp2
          have hko : KeepsOthers W w9 := (keepsOthers_of (b := wr.heap.size) (othersKept_of_below hb8) hb8.size (let ⟨cs, fz, h⟩ := bld_block hbl; ⟨cs, fz, h⟩)).trans (keepsOthers_of (b := wr.heap.size) hk9 hb9.size (let ⟨cs, fz, h⟩ := bld_block hbl8; ⟨cs, fz, h⟩))
          have hB9 : Below wr.heap.size W w9 := (hb8.mono hzW).trans hb9
          have hK1 : Keep1 wr.heap.size w7.heap.size 56 W w9 := ⟨hB9, fun v hv => hk9 _ _ ((hb8.block _ hv.lt).trans hv) (by simp; omega) (fun c fz e => by cases e)⟩
          refine ⟨hko.from _, hK1, tx ++ pad4 x.toNat, ?_, HTX.out, by rw [List.length_append, hp4]; omega, hgp', hB.trans hB9⟩
          refine .inr ?_
          rw [← bcat, ← HS1T.out]
          exact hbl9
        case done =>
          rintro D W hD ⟨tx, hbl, htx, htl, hgp, hB⟩ hK
          have hfin : tx = Lib.itoa z := by
            have h1 := HN.out
            have h2 := HSG.out
            have h3 := HNG.out
            rw [htx, itoa_sign, show k - 1 - G.length = 0 by omega, List.drop_zero, HGV.out, ← h3, h2, Int.toNat_natCast]
            all_goals simp
          rw [hfin] at hbl
          have hzW := hB.size
          clear htx htl hgp hfin
          gi_wp2_with (refine ⟨trivial, ?_⟩; gi_at_call 48; refine ((callsIn_wide (n := 8)).2 (Tryd.Builder_String_any_k wr.heap.size wr.heap.size (Lib.itoa z) _ hbl (by omega))).mono ?_; rintro e w8 ⟨rfl, hbl8, hb8, hk8⟩; have hK8 : w8.heap[D]? = some (Obj.deferred (some [])) := hk8 D _ hK (by simp; omega) (fun c fz e => by cases e))
          refine ⟨by simp, .inl ⟨_, _, rfl, run_takeDeferred (b := D) hK8, ?_⟩⟩
          have hBB : Below w.heap.size w w8 := hB2.trans ((hBw.mono (by omega)).trans ((hB.trans hb8).mono (by omega)))
          exact ⟨.tuple #[.string ⟨(Lib.itoa z).toArray⟩, .int .i64 0], by simp [results, Tryd.f21, go_sem], rfl, hBB.trans (belowK_b (w := w) (Nat.le_refl _) w8 D _ _ (by omega) hK8 rfl rfl)⟩
        case stop =>
          rintro D c k W hD hk h
          exact h.elim
      case true =>
        have hsg : sg = [45] := HSG.out
        have hitl : (Lib.itoa top).length ≤ 4 := by rw [itoa_nat (by omega)]; exact nDigits_small4 (by omega)
        have hlen7 : sg.length + (⟨(Lib.itoa top).toArray⟩ : ByteArray).size ≤ 140737488355328 := by rw [Lib.size_eq]; simp; omega
        gi_wp2_with (first | (refine ⟨trivial, ?_⟩; gi_at_call 44; rw [← HWB.out]; refine ((callsIn_wide (n := 8)).2 (bWriteByte_k wr.heap.size wr.heap.size (Lib.byteCells []) 45 wb hld0 (by simp [Lib.byteCells]) (by omega))).mono ?_; rintro e w5 ⟨rfl, hbl, hb5, _⟩; have z5 : wr.heap.size + 1 ≤ w5.heap.size := (by have := hb5.size; omega); have hB5 : Below wr.heap.size wr w5 := hBb.trans hb5; have hbl5 : Lib.IsBuilderF 62 5 wr.heap.size wr.heap.size (Lib.byteCells sg) w5 := (by rw [hsg]; exact .inr hbl); have c5 : w5.cell? ⟨gb, k - 1, none⟩ = some (.int .u32 top) := (hB5.cell (p := ⟨gb, k - 1, none⟩) hgbW).trans hctop; have tab5 : Tab w5 := htw.below hB5) | (refine ⟨trivial, ?_⟩; gi_at_call 46; refine ((callsIn_wide (n := 8)).2 (itoa_c top w5 (by omega) (by omega) tab5)).mono ?_; rintro e w6 ⟨rfl, hb6⟩; have z6 := hb6.size; have hB6 : Below wr.heap.size wr w6 := hB5.trans (hb6.mono (by omega)); have hbl6 := bld_below hbl5 hb6) | (refine ⟨trivial, ?_⟩; gi_at_call 45; refine ((callsIn_wide (n := 8)).2 (bWriteString_k wr.heap.size wr.heap.size _ ⟨(Lib.itoa top).toArray⟩ w6 hbl6 (by rw [Lib.byteCells_length]; exact hlen7) (by omega))).mono ?_; rintro e w7 ⟨rfl, hbl7, hb7, _⟩; have z7 := hb7.size; have hB7 : Below wr.heap.size wr w7 := hB6.trans hb7) | (refine ⟨trivial, ?_⟩; gi_at_call 47; refine ((callsIn_wide (n := 8)).2 (back_any _ _ _ _)).mono ?_; rintro e w' ⟨rfl, rfl⟩))
        have bA := Boxed.new w7 56 (.slice (some ⟨gb, 0, none⟩) (k - 1) cg)
        have hBA : Below wr.heap.size wr (w7.alloc (.cells #[.slice (some ⟨gb, 0, none⟩) (k - 1) cg] 56)) := hB7.alloc (by omega) _
        have hblA : Lib.IsBuilderF 62 5 wr.heap.size wr.heap.size (Lib.byteCells (sg ++ Lib.itoa top)) (w7.alloc (.cells #[.slice (some ⟨gb, 0, none⟩) (k - 1) cg] 56)) := by
          refine bld_below (w := w7) ?_ ((Below.refl _ w7).alloc (Nat.le_refl _) _)
          rw [← bcat]; exact .inr hbl7
        have hzA : (w7.alloc (.cells #[.slice (some ⟨gb, 0, none⟩) (k - 1) cg] 56)).heap.size = w7.heap.size + 1 := by simp
        have hbn : wr.heap.size ≠ w7.heap.size := by omega
        have hLA : Lims32 wr.heap.size (w7.alloc (.cells #[.slice (some ⟨gb, 0, none⟩) (k - 1) cg] 56)) (.slice (some ⟨gb, 0, none⟩) (k - 1) cg) (gs.take (k - 1)) := by
          have hl : (gs.take (k - 1)).length = k - 1 := by rw [List.length_take]; have := HK.out; omega
          refine .inr ⟨gb, 0, cg, by rw [hl], by rw [hl]; omega, hgbW, fun j hj => ?_⟩
          rw [hl] at hj
          rw [List.getElem?_take_of_lt hj]
          exact (hBA.cell (p := ⟨gb, 0 + j, none⟩) hgbW).trans (hgcells j (by have := HK.out; omega))
        have hN : k - 1 = (gs.take (k - 1)).length := by rw [List.length_take]; have := HK.out; omega
        obtain ⟨G, hG⟩ : ∃ G, G = gs.take (k - 1) := ⟨_, rfl⟩
        rw [← hG] at hLA hN
        have HG := Lib.hid hG
        have HN := Lib.hid hN
        clear hG
        have htop1 : gval (gs.drop (k - 1 - 0)) = top := by
          have h := HK.out
          have e := gval_drop (l := gs) (k := k - 1) (by omega)
          rw [Nat.sub_zero, e, List.drop_eq_nil_of_le (by omega), h, ← HTP.out]; simp [gval]
        have HT1 := Lib.hid htop1
        clear htop1 hN
        generalize w7.alloc (.cells #[.slice (some ⟨gb, 0, none⟩) (k - 1) cg] 56) = W0 at *
        refine' wpIn_range (n := 9) (gf := 75) (lb := #[.pointer (some ⟨w7.heap.size, 0, none⟩)]) (N := G.length) rfl (by omega) rfl trivial (enters_of Tryd.func75 (by kernel_rfl) rfl)
          (back_seq Fence.wide 8 trivial rfl (by omega) _ wr.heap.size _ G (by rw [← HN.out]; omega) W0 (by omega) bA hLA) keep1_t (keep1_b (by omega)) (fun _ => rfl)
          (fun j W => ∃ tx : List UInt8, Lib.IsBuilderF 62 5 wr.heap.size wr.heap.size (Lib.byteCells tx) W ∧ tx = sg ++ Lib.decDigits (gval (gs.drop (k - 1 - j))).toNat ∧ tx.length ≤ 5 + 4 * j ∧ 0 < gval (gs.drop (k - 1 - j)) ∧ Below wr.heap.size wr W)
          (fun c _ W => False)
          ?hI ?hIx ?h0 _ ?assign ?body ?done ?stop
        case hI =>
          rintro j W W' row ⟨tx, hbl, h1, h2, h3, hB⟩ hg hr
          exact ⟨tx, bld_kept hbl hg (fun r e => by obtain ⟨_, o, ho, hc⟩ := hr r e; exact ⟨o, ho, hc⟩), h1, h2, h3, hB.grown hg (by have := hB.size; omega) (fun k e => by have := (hr k e).1; omega)⟩
        case hIx => exact fun c => ownFrom_pure _ _
        case h0 => exact ⟨sg ++ Lib.itoa top, hblA, by rw [HT1.out, itoa_nat (by omega)], by rw [List.length_append]; omega, by rw [HT1.out]; omega, hBA⟩
        case assign =>
          intro l' x W K hK
          simp only [backs]
          gi_wp2
          exact hK
        case body =>
          rintro l' j W ⟨tx, hbl, htx, htl, hgp, hB⟩ hj
          have hjk : j < k - 1 := by rw [HN.out]; exact hj
          obtain ⟨m, hm⟩ : ∃ m : Nat, m = G.length - 1 - j := ⟨_, rfl⟩
          have hm1 : m + 1 = k - 1 - j := by have := HN.out; omega
          have hm2 : m = k - 1 - (j + 1) := by omega
          rw [← hm]
          obtain ⟨x, hx⟩ : ∃ x, x = gs[m]?.getD 0 := ⟨_, rfl⟩
          have hx' : G[m]?.getD 0 = x := by rw [hx, HG.out, List.getElem?_take_of_lt (by omega)]
          rw [hx']
          obtain ⟨hx0, hx1⟩ := hGr.getD m
          rw [← hx] at hx0 hx1
          rw [← hm1] at htx hgp
          obtain ⟨hst, hgp'⟩ := text_step hGr (k := m) (by have := HK.out; omega) hgp
          rw [← hx] at hst
          rw [hm2] at hgp'
          have hp4 : (pad4 x.toNat).length = 4 := by rw [pad4_eq (by omega)]; rfl
          have htx' : tx ++ pad4 x.toNat = sg ++ Lib.decDigits (gval (gs.drop (k - 1 - (j + 1)))).toNat := by rw [← hm2, htx, List.append_assoc, ← hst]
          have tabW : Tab W := htw.below hB
          have hzW := hB.size
          obtain ⟨s1, hs1⟩ : ∃ s1 : ByteArray, s1 = (⟨(Lib.itoa (10000 + x)).toArray⟩ : ByteArray) := ⟨_, rfl⟩
          have hs1t : (s1.extract 1 s1.size).data.toList = pad4 x.toNat := by rw [hs1, extract_one, itoa_tail hx0]
          have hs1n : 1 ≤ s1.size := by
            have h : s1.data.toList = Lib.itoa (10000 + x) := by rw [hs1]
            rw [Lib.size_eq, h, itoa_nat (by omega), Lib.decDigits_length]; exact Lib.nDigits_pos _
          have hwl : (Lib.byteCells tx).length + (s1.extract 1 s1.size).size ≤ 140737488355328 := by
            rw [Lib.byteCells_length, Lib.size_eq, hs1t, hp4]; omega
          have HTX := Lib.hid htx'
          have HS1 := Lib.hid hs1
          have HS1T := Lib.hid hs1t
          clear hst htx htx' hs1 hs1t hx hm hm1 hm2 hx'
          have h46 : Calls Tryd.prog 46 #[.int .i64 (10000 + x)] W fun e w' => e = .returned (.string s1) ∧ Below W.heap.size W w' := by rw [HS1.out]; exact itoa_c (10000 + x) W (by omega) (by omega) tabW
          gi_wp2
          refine ⟨trivial, ?_⟩
          refine CallsIn.mono (CallsIn.inRound l' (n := 6) ((callsIn_wide (n := 6)).2 h46)) ?_
          rintro e w8 ⟨rfl, hb8⟩
          have hbl8 := bld_below hbl hb8
          have z8 := hb8.size
          gi_wp2
          refine ⟨trivial, ?_⟩
          refine CallsIn.mono (CallsIn.inRound l' (n := 6) ((callsIn_wide (n := 6)).2 (bWriteString_k wr.heap.size wr.heap.size _ (s1.extract 1 s1.size) w8 hbl8 hwl (by omega)))) ?_
          rintro e w9 ⟨rfl, hbl9, hb9, hk9⟩
          gi_wp2
          have hko : KeepsOthers W w9 := (keepsOthers_of (b := wr.heap.size) (othersKept_of_below hb8) hb8.size (let ⟨cs, fz, h⟩ := bld_block hbl; ⟨cs, fz, h⟩)).trans (keepsOthers_of (b := wr.heap.size) hk9 hb9.size (let ⟨cs, fz, h⟩ := bld_block hbl8; ⟨cs, fz, h⟩))
          have hB9 : Below wr.heap.size W w9 := (hb8.mono hzW).trans hb9
          have hK1 : Keep1 wr.heap.size w7.heap.size 56 W w9 := ⟨hB9, fun v hv => hk9 _ _ ((hb8.block _ hv.lt).trans hv) (by simp; omega) (fun c fz e => by cases e)⟩
          refine ⟨hko.from _, hK1, tx ++ pad4 x.toNat, ?_, HTX.out, by rw [List.length_append, hp4]; omega, hgp', hB.trans hB9⟩
          refine .inr ?_
          rw [← bcat, ← HS1T.out]
          exact hbl9
        case done =>
          rintro D W hD ⟨tx, hbl, htx, htl, hgp, hB⟩ hK
          have hfin : tx = Lib.itoa z := by
            have h1 := HN.out
            have h2 := HSG.out
            have h3 := HNG.out
            rw [htx, itoa_sign, show k - 1 - G.length = 0 by omega, List.drop_zero, HGV.out, ← h3, h2, Int.toNat_natCast]
            all_goals simp
          rw [hfin] at hbl
          have hzW := hB.size
          clear htx htl hgp hfin
          gi_wp2_with (refine ⟨trivial, ?_⟩; gi_at_call 48; refine ((callsIn_wide (n := 8)).2 (Tryd.Builder_String_any_k wr.heap.size wr.heap.size (Lib.itoa z) _ hbl (by omega))).mono ?_; rintro e w8 ⟨rfl, hbl8, hb8, hk8⟩; have hK8 : w8.heap[D]? = some (Obj.deferred (some [])) := hk8 D _ hK (by simp; omega) (fun c fz e => by cases e))
          refine ⟨by simp, .inl ⟨_, _, rfl, run_takeDeferred (b := D) hK8, ?_⟩⟩
          have hBB : Below w.heap.size w w8 := hB2.trans ((hBw.mono (by omega)).trans ((hB.trans hb8).mono (by omega)))
          exact ⟨.tuple #[.string ⟨(Lib.itoa z).toArray⟩, .int .i64 0], by simp [results, Tryd.f21, go_sem], rfl, hBB.trans (belowK_b (w := w) (Nat.le_refl _) w8 D _ _ (by omega) hK8 rfl rfl)⟩
        case stop =>
          rintro D c k W hD hk h
          exact h.elim

theorem Wn.of_zero {n₀ : Nat} {W : World} {v : Value} (h : Wn n₀ W v 0) : v = .agg #[.bool false, .slice none 0 0] ∨ ∃ b off cap, v = .agg #[.bool false, .slice (some ⟨b, off, none⟩) 0 cap] := by
  obtain ⟨sv, zs, rfl, hL, hR, hc⟩ := h
  have hz := hR.zero_iff.2 rfl
  subst hz
  rcases hL with ⟨rfl, _⟩ | ⟨b, off, cap, rfl, _⟩
  · exact .inl rfl
  · exact .inr ⟨b, off, cap, rfl⟩

set_option maxRecDepth 100000 in
set_option maxHeartbeats 1000000 in
theorem Text_zero (va : Value) (w : World) (hA : Wn w.heap.size w va 0) : Calls Tryd.prog 21 #[va] w (TextPost 0 w) := by
  obtain ⟨zs, hr, hR, hc, hlen, hok⟩ := hA.raw
  obtain ⟨sv, rfl, hL⟩ := hr
  obtain ⟨p, l, c, rfl⟩ := hL.form
  have hz := hR.zero_iff.2 rfl
  subst hz
  obtain rfl : l = 0 := hL.cells.1
  rw [show decide ((0 : Int) < 0) = false from rfl] at hok ⊢
  have HOK := Lib.hid hok
  clear hok
  obtain ⟨w1, hw1⟩ : ∃ w1, w1 = w.alloc (.cells #[.bool false, .slice p 0 c] 24) := ⟨_, rfl⟩
  have hB1 : Below w.heap.size w w1 := by rw [hw1]; exact (Below.refl _ w).alloc (Nat.le_refl _) _
  have hs1 : w1.heap.size = w.heap.size + 1 := by rw [hw1]; simp
  have q0 : w1.heap[w.heap.size]? = some (.cells #[.bool false, .slice p 0 c] 24) := by rw [hw1]; exact alloc_new _ _ rfl
  have HW := Lib.hid hw1
  clear hw1
  go_enter Tryd.func21, Tryd.ntmps21
  go_wp2_with (go_at_call 15; rw [← HW.out]; refine (Valid_any (.agg #[.bool false, .slice p 0 c]) false [] w1 ⟨_, rfl, (hL.below hB1).mono hB1.size⟩ (by simp)).mono ?_; rintro e w2 ⟨rfl, hb2⟩; rw [HOK.out]; have p0 := (hb2.block _ (show w.heap.size < w1.heap.size by omega)).trans q0; have c0 := cell_of p0 0 rfl; have c1 := cell_of p0 1 rfl)
  exact bodyPost_ret (v := .tuple #[.string ⟨#[48]⟩, .int .i64 0]) (by simp [results, Tryd.results21, go_sem]) rfl ⟨by rw [show (Lib.itoa 0) = [48] by rw [itoa_nat (by omega), Lib.decDigits_one (by decide)]; rfl], hB1.trans (hb2.mono hB1.size)⟩

theorem Text_ok (va : Value) (z : Int) (w : World) (hA : Wn w.heap.size w va z) (htab : Tab w) : Calls Tryd.prog 21 #[va] w (TextPost z w) := by
  by_cases h : z = 0
  · subst h; exact Text_zero va w hA
  · exact Text_nz va z w hA h htab

set_option maxRecDepth 100000 in
set_option maxHeartbeats 1000000 in
theorem Text_bad (va : Value) (ng : Bool) (zs : List Int) (w : World) (hA : Wr w.heap.size w va ng zs) (hlen : zs.length ≤ 140737488355328) (hbad : okB ng zs = false) : Calls Tryd.prog 21 #[va] w fun e w' => e = .returned (.tuple #[.string ⟨#[]⟩, .int .i64 2]) ∧ Below w.heap.size w w' := by
  obtain ⟨sv, rfl, hL⟩ := hA
  obtain ⟨p, l, c, rfl⟩ := hL.form
  have HOK := Lib.hid hbad
  clear hbad
  obtain ⟨w1, hw1⟩ : ∃ w1, w1 = w.alloc (.cells #[.bool ng, .slice p l c] 24) := ⟨_, rfl⟩
  have hB1 : Below w.heap.size w w1 := by rw [hw1]; exact (Below.refl _ w).alloc (Nat.le_refl _) _
  have HW := Lib.hid hw1
  clear hw1
  go_enter Tryd.func21, Tryd.ntmps21
  go_wp2_with (go_at_call 15; rw [← HW.out]; refine (Valid_any (.agg #[.bool ng, .slice p l c]) ng zs w1 ⟨_, rfl, (hL.below hB1).mono hB1.size⟩ (by omega)).mono ?_; rintro e w2 ⟨rfl, hb2⟩; rw [HOK.out])
  exact bodyPost_ret (v := .tuple #[.string ⟨#[]⟩, .int .i64 2]) (by simp [results, Tryd.results21, go_sem]) rfl ⟨rfl, hB1.trans (hb2.mono hB1.size)⟩

end Go.Proofs.YtbaiohjladddlaaDoor
