import Derived.Test.YtbaiohjladddlaaDoorW40
import Derived.Test.YtbaiohjladddlaaDoorL15
import Derived.Test.YtbaiohjladddlaaDoorF4
import Derived.Test.YtbaiohjladddlaaDoorW33
import Derived.Test.YtbaiohjladddlaaDoorL5
/- What the law WholeLimits needs: results of any kind, long texts, rows of one limb. -/
namespace Go.Proofs.YtbaiohjladddlaaDoor
open Go.RowKit Go.WM Go.WR
attribute [local go_sem] Oper.semAt_some

/-- what a call answered: the zero value and ErrArg, a number, or the zero value and ErrLong -/
def Res (W : World) (v : Value) (er : Int) : Option Int → Prop
  | none => v = zeroW ∧ er = 2
  | some z => (z.natAbs < Cap ∧ er = 0 ∧ Wn W.heap.size W v z) ∨ (Cap ≤ z.natAbs ∧ er = 3 ∧ v = zeroW)
theorem Res.later {W W' : World} {v : Value} {er : Int} {t : Option Int} (h : Res W v er t) (hb : Below W.heap.size W W') : Res W' v er t := by
  cases t with
  | none => exact h
  | some z =>
    rcases h with ⟨h1, h2, h3⟩ | h
    · exact .inl ⟨h1, h2, h3.later hb⟩
    · exact .inr h
def ResP (t : Option Int) (w : World) (e : Ending) (w' : World) : Prop :=
  ∃ (b : Bool) (p : Option Addr) (l c : Nat) (er : Int), e = .returned (.tuple #[.agg #[.bool b, .slice p l c], .int .i64 er]) ∧ Res w' (.agg #[.bool b, .slice p l c]) er t ∧ Below w.heap.size w w'

theorem res_of_fit {z : Int} {w : World} {e : Ending} {w' : World} (h : FitPost w.heap.size z w e w') : ResP (some z) w e w' := by
  obtain ⟨b, p, l, c, er, rfl, hf, hb⟩ := h
  refine ⟨b, p, l, c, er, rfl, ?_, hb⟩
  rcases hf with ⟨h1, h2, h3⟩ | ⟨h1, h2, h3⟩
  · exact .inl ⟨h1, h2, h3.num⟩
  · exact .inr ⟨h1, h2, h3⟩
theorem res_of_bad {w : World} {e : Ending} {w' : World} (h : BadPost w e w') : ResP none w e w' := by
  obtain ⟨rfl, hb⟩ := h
  exact ⟨false, none, 0, 0, 2, rfl, ⟨rfl, rfl⟩, hb⟩
theorem res_of_num {z : Int} {w : World} {e : Ending} {w' : World} (hz : z.natAbs < Cap) (h : NumR z w e w') : ResP (some z) w e w' := by
  obtain ⟨b, p, l, c, rfl, hn, hb⟩ := h
  exact ⟨b, p, l, c, 0, rfl, .inl ⟨hz, rfl, hn⟩, hb⟩
theorem res_of_long {z : Int} {w : World} {e : Ending} {w' : World} (hz : Cap ≤ z.natAbs) (h : LongP w e w') : ResP (some z) w e w' := by
  obtain ⟨rfl, hb⟩ := h
  exact ⟨false, none, 0, 0, 3, rfl, .inr ⟨hz, rfl, rfl⟩, hb⟩

/-- the answer for two operands as they are handed in -/
def opt (f : Int → Int → Int) (na nb : Bool) (A B : List Int) : Option Int := if (okB na A && okB nb B) = true then some (f (sgn na (val A)) (sgn nb (val B))) else none

theorem num_of {n₀ : Nat} {W : World} {v : Value} {ng : Bool} {zs : List Int} (h : Wr n₀ W v ng zs) (hok : okB ng zs = true) (hlm : Lm zs) : Wn n₀ W v (sgn ng (val zs)) := by
  obtain ⟨sv, rfl, hL⟩ := h
  obtain ⟨h1, h2, h3⟩ := okB_true hok
  have hR : Rep zs (val zs) := ⟨hlm, h2, rfl⟩
  refine ⟨sv, zs, ?_, hL, ?_, ?_⟩
  · rw [sgn_neg ng hR]
    congr 2
    cases ng with
    | false => rfl
    | true =>
      have : 0 < zs.length := by
        rcases Nat.eq_zero_or_pos zs.length with e | e
        · have := h3 (List.length_eq_zero_iff.1 e); cases this
        · exact e
      rw [decide_eq_true this]; rfl
  · rw [sgn_abs ng hR]; exact hR
  · rw [sgn_abs ng hR]; exact hR.cap.1 h1

section
variable (va vb : Value) (na nb : Bool) (A B : List Int) (w : World) (hA : Wr w.heap.size w va na A) (hB : Wr w.heap.size w vb nb B) (hla : A.length ≤ 140737488355328) (hlb : B.length ≤ 140737488355328) (hma : Lm A) (hmb : Lm B)
include hA hB hla hlb hma hmb

omit hla hlb in
theorem resOp {f : Nat} (F : Int → Int → Int)
    (hok : ∀ a b, Wn w.heap.size w va a → Wn w.heap.size w vb b → Calls Tryd.prog f #[va, vb] w (FitPost w.heap.size (F a b) w))
    (hbad : (okB na A && okB nb B) = false → Calls Tryd.prog f #[va, vb] w (BadPost w)) : Calls Tryd.prog f #[va, vb] w (ResP (opt F na nb A B) w) := by
  unfold opt
  by_cases h : (okB na A && okB nb B) = true
  · rw [if_pos h]
    rw [Bool.and_eq_true] at h
    exact (hok _ _ (num_of hA h.1 hma) (num_of hB h.2 hmb)).mono fun _ _ => res_of_fit
  · rw [if_neg h]
    exact (hbad (by simpa using h)).mono fun _ _ => res_of_bad
omit hla hlb in
theorem resOp' {f : Nat} (F : Int → Int → Int)
    (hok : ∀ a b, Wn w.heap.size w va a → Wn w.heap.size w vb b → (F a b).natAbs < Cap → Calls Tryd.prog f #[va, vb] w (NumR (F a b) w))
    (hlong : ∀ a b, Wn w.heap.size w va a → Wn w.heap.size w vb b → Cap ≤ (F a b).natAbs → Calls Tryd.prog f #[va, vb] w (LongP w))
    (hbad : (okB na A && okB nb B) = false → Calls Tryd.prog f #[va, vb] w (BadPost w)) : Calls Tryd.prog f #[va, vb] w (ResP (opt F na nb A B) w) := by
  unfold opt
  by_cases h : (okB na A && okB nb B) = true
  · rw [if_pos h]
    rw [Bool.and_eq_true] at h
    by_cases hz : (F (sgn na (val A)) (sgn nb (val B))).natAbs < Cap
    · exact (hok _ _ (num_of hA h.1 hma) (num_of hB h.2 hmb) hz).mono fun _ _ => res_of_num hz
    · have hz' : Cap ≤ (F (sgn na (val A)) (sgn nb (val B))).natAbs := by omega
      exact (hlong _ _ (num_of hA h.1 hma) (num_of hB h.2 hmb) hz').mono fun _ _ => res_of_long hz'
  · rw [if_neg h]
    exact (hbad (by simpa using h)).mono fun _ _ => res_of_bad

theorem resAdd : Calls Tryd.prog 24 #[va, vb] w (ResP (opt (· + ·) na nb A B) w) := resOp va vb na nb A B w hA hB hma hmb _ (fun a b h1 h2 => Add_ok va vb a b w h1 h2) (Add_bad va vb na nb A B w hA hB hla hlb)
theorem resSub : Calls Tryd.prog 25 #[va, vb] w (ResP (opt (· - ·) na nb A B) w) := resOp va vb na nb A B w hA hB hma hmb _ (fun a b h1 h2 => Sub_ok va vb a b w h1 h2) (Sub_bad va vb na nb A B w hA hB hla hlb)
theorem resMul : Calls Tryd.prog 26 #[va, vb] w (ResP (opt (· * ·) na nb A B) w) := resOp va vb na nb A B w hA hB hma hmb _ (fun a b h1 h2 => Mul_ok va vb a b w h1 h2) (Mul_bad va vb na nb A B w hA hB hla hlb)
theorem resAdd' : Calls Tryd.prog 27 #[va, vb] w (ResP (opt (· + ·) na nb A B) w) := resOp' va vb na nb A B w hA hB hma hmb _ (fun a b h1 h2 h => refAdd_fit va vb a b _ w rfl h h1 h2) (fun a b h1 h2 h => refAdd_long va vb a b _ w rfl h h1 h2) (refAdd_bad va vb na nb A B w hA hB hla hlb)
theorem resSub' : Calls Tryd.prog 28 #[va, vb] w (ResP (opt (· - ·) na nb A B) w) := resOp' va vb na nb A B w hA hB hma hmb _ (fun a b h1 h2 h => refSub_fit va vb a b _ w Int.sub_eq_add_neg.symm h h1 h2) (fun a b h1 h2 h => refSub_long va vb a b _ w Int.sub_eq_add_neg.symm h h1 h2) (refSub_bad va vb na nb A B w hA hB hla hlb)
theorem resMul' : Calls Tryd.prog 29 #[va, vb] w (ResP (opt (· * ·) na nb A B) w) := resOp' va vb na nb A B w hA hB hma hmb _ (fun a b h1 h2 h => refMul_fit va vb a b _ w rfl h h1 h2) (fun a b h1 h2 h => refMul_long va vb a b _ w rfl h h1 h2) (refMul_bad va vb na nb A B w hA hB hla hlb)
end

theorem wr_zero (w : World) : Wr w.heap.size w zeroW false [] := ⟨_, rfl, .inl ⟨rfl, rfl⟩⟩

/-- two answers for one question are the same -/
theorem same_res (t : Option Int) (va vb : Value) (ea eb : Int) (w : World) (hA : Res w va ea t) (hB : Res w vb eb t) : Calls Tryd.prog 30 #[va, .int .i64 ea, vb, .int .i64 eb] w (BoolP true w) := by
  have hzz : ∀ (e : Int), Calls Tryd.prog 30 #[zeroW, .int .i64 e, zeroW, .int .i64 e] w (BoolP true w) := fun e =>
    (same_any zeroW zeroW false false [] [] e e w (by decide) (by decide) (wr_zero w) (wr_zero w)).mono fun _ _ ⟨h, hb⟩ => ⟨by rw [h]; simp, hb⟩
  cases t with
  | none =>
    obtain ⟨rfl, rfl⟩ := hA
    obtain ⟨rfl, rfl⟩ := hB
    exact hzz 2
  | some z =>
    rcases hA with ⟨h1, rfl, h3⟩ | ⟨h1, rfl, rfl⟩ <;> rcases hB with ⟨k1, rfl, k3⟩ | ⟨k1, rfl, rfl⟩
    · obtain ⟨A, ha, hRa, _, hla, _⟩ := h3.raw
      obtain ⟨B, hb, hRb, _, hlb, _⟩ := k3.raw
      refine (same_any va vb _ _ A B 0 0 w (by omega) (by omega) ha hb).mono fun _ _ ⟨h, hb⟩ => ⟨?_, hb⟩
      rw [h, same_num hRa hRb]
      simp
    · omega
    · omega
    · exact hzz 3

/-- a row of one limb -/
theorem lm_one (n : Nat) {y : Int} (h0 : 1 ≤ y) (h1 : y < 65536) : Lm (List.replicate n y) := fun x hx => by
  obtain ⟨_, rfl⟩ := List.mem_replicate.1 hx
  omega
theorem ok_one (n : Nat) (ng : Bool) {y : Int} (h0 : 1 ≤ y) (hn : n = 0 → ng = false) : okB ng (List.replicate n y) = decide (n ≤ 1024) := by
  unfold okB
  rw [List.length_replicate]
  rcases Nat.eq_zero_or_pos n with h | h
  · subst h
    rw [hn rfl]; rfl
  · have e : (List.replicate n y)[n - 1]?.getD 0 = y := by
      rw [List.getElem?_replicate, if_pos (by omega)]; rfl
    rw [e, decide_eq_false (show ¬ n = 0 by omega), decide_eq_true h, decide_eq_false (show ¬ y = 0 by omega)]
    simp
theorem nz_one (n : Nat) {y : Int} (h0 : 1 ≤ y) : Nz (List.replicate n y) := fun h e => by
  have := List.getLast_mem h
  rw [e] at this
  obtain ⟨_, h⟩ := List.mem_replicate.1 this
  omega

/-- zeros behind a text -/
theorem parse_zeros {z : Int} (h0 : z ≠ 0) (j : Nat) : Lib.itoa z ++ List.replicate j 48 = Lib.itoa (z * 10 ^ j) := by
  induction j with
  | zero => simp
  | succ j ih =>
    have hz : z * 10 ^ j ≠ 0 := Int.mul_ne_zero h0 (by have := Int.pow_pos (n := 10) (m := j) (by decide); omega)
    rw [List.replicate_succ', ← List.append_assoc, ih]
    obtain ⟨h1, h2⟩ := parse_more hz (c := 48) (d := 0) (by decide) (by decide)
    have h3 := itoa_parse h1
    rw [h2] at h3
    have e : z * 10 ^ j * 10 + sgn (decide (z * 10 ^ j < 0)) ((0 : Nat) : Int) = z * 10 ^ (j + 1) := by
      rw [Int.pow_succ, ← Int.mul_assoc]
      cases decide (z * 10 ^ j < 0) <;> simp [sgn]
    rw [← h3, e]

theorem big_pow : (65536 : Nat) ^ 25 ≤ 10 ^ 200 := by decide +kernel
theorem long_zeros {n : Nat} (hn : 1000 ≤ n) {y : Int} (h0 : 1 ≤ y) (h1 : y < 65536) (ng : Bool) : sgn ng (val (List.replicate n y)) ≠ 0 ∧ Cap ≤ (sgn ng (val (List.replicate n y)) * 10 ^ 200).natAbs := by
  obtain ⟨m, hm25⟩ : ∃ m : Nat, m + 25 = 1024 := ⟨999, rfl⟩
  have hmn : m ≤ n - 1 := by omega
  have hm := lm_one n h0 h1
  have hR : Rep (List.replicate n y) (val (List.replicate n y)) := ⟨hm, nz_one n h0, rfl⟩
  have hge := val_ge hm (nz_one n h0) (by intro e; have := congrArg List.length e; simp at this; omega)
  rw [List.length_replicate] at hge
  have hab := sgn_abs ng hR
  have hp : (65536 : Int) ^ m ≤ 65536 ^ (n - 1) := by
    rw [← np65, ← np65]
    exact Int.ofNat_le.2 (Nat.pow_le_pow_right (by decide) hmn)
  generalize hs : sgn ng (val (List.replicate n y)) = s at *
  generalize val (List.replicate n y) = v at *
  have hv : (65536 : Int) ^ m ≤ v := Int.le_trans hp hge
  rw [← np65] at hv
  have hsn : 65536 ^ m ≤ s.natAbs := by
    have : ((65536 ^ m : Nat) : Int) ≤ (s.natAbs : Int) := by rw [hab]; exact hv
    exact Int.ofNat_le.1 this
  constructor
  · intro e
    rw [e] at hsn
    have : 0 < 65536 ^ m := Nat.pow_pos (by decide)
    have h9 : (65536 ^ m : Nat) ≤ 0 := hsn
    omega
  · rw [Int.natAbs_mul, Int.natAbs_pow]
    have h3 := Nat.mul_le_mul hsn big_pow
    rw [← Nat.pow_add] at h3
    rw [Cap.eq, ← hm25, ← np65]
    exact Int.ofNat_le.2 h3

/-- a long number's text is refused -/
theorem Parse_over (tx : ByteArray) (z : Int) (w : World) (ht : tx.size ≤ 9223372036854775806) (he : tx.data.toList = Lib.itoa z) (hc : Cap ≤ z.natAbs) : Calls Tryd.prog 22 #[.string tx] w (OverP w) := by
  refine over_fit (z := z) ?_ hc
  refine (Parse_main tx w ht).mono ?_
  have hp := parse_itoa z
  rintro e w' (⟨_, h⟩ | ⟨h, _⟩)
  · rw [he, hp.2] at h; exact h
  · rw [he, hp.1] at h; cases h

theorem own_ne {B : Nat} {W : World} {p : Option Addr} {l c : Nat} {zs : List Int} (h : Own16 B W (.slice p l c) zs) {b : Nat} {cs : Array Value} (hb : W.heap[b]? = some (.cells cs 24)) : some b ≠ (Value.slice p l c).ownBlock := by
  rcases h.2 with ⟨e, _⟩ | ⟨g, cap, cur, e, _, hh, _⟩
  · cases e; intro h; cases h
  · cases e
    intro h
    have : b = g := by cases h; rfl
    subst this
    rw [hh] at hb
    cases hb

end Go.Proofs.YtbaiohjladddlaaDoor

/- The law WholeLimits, walked. -/
namespace Go.Proofs.YtbaiohjladddlaaDoor
open Go.RowKit Go.WM Go.WR
attribute [local go_sem] Oper.semAt_some

theorem int_in' {z : Int} (h : (Lit.int .i64 z).wf = true) : -9223372036854775808 ≤ z ∧ z < 9223372036854775808 := by
  simp only [Lit.wf, Bool.and_eq_true, decide_eq_true_eq] at h
  have h1 := h.1
  have h2 := h.2
  simp [IntKind.min, IntKind.max, IntKind.signed, IntKind.bits] at h1 h2
  omega
theorem u16_in {z : Int} (h : (Lit.int .u16 z).wf = true) : 0 ≤ z ∧ z < 65536 := by
  simp only [Lit.wf, Bool.and_eq_true, decide_eq_true_eq] at h
  have h1 := h.1
  have h2 := h.2
  simp [IntKind.min, IntKind.max, IntKind.signed, IntKind.bits] at h1 h2
  omega
theorem Wr.later {W W' : World} {v : Value} {ng : Bool} {zs : List Int} (h : Wr W.heap.size W v ng zs) (hb : Below W.heap.size W W') : Wr W'.heap.size W' v ng zs :=
  let ⟨sv, e, hL⟩ := h
  ⟨sv, e, (hL.below hb).mono hb.size⟩
theorem Lims.box1 {n₀ : Nat} {W : World} {sv : Value} {zs : List Int} {B : Nat} {x : Bool} {p : Option Addr} {l c : Nat} (hb : W.heap[B]? = some (.cells #[.bool x, .slice p l c] 24)) (v : Value) (h : Lims n₀ W sv zs) : Lims n₀ (W.setCell ⟨B, 1, none⟩ v) sv zs := by
  rcases h with h | ⟨g, off, cap, e, h1, h2, h3⟩
  · exact .inl h
  · refine .inr ⟨g, off, cap, e, h1, h2, fun j hj => ?_⟩
    have hg := h3 j hj
    by_cases e : g = B
    · subst e
      exfalso
      simp only [World.cell?, hb] at hg
      generalize off + j = k at hg
      match k, hg with
      | 0, hg => simp at hg
      | 1, hg => simp at hg
      | k + 2, hg => simp at hg
    · rw [World.cell?_setCell_other _ _ _ _ (by intro h; apply e; have h1 := congrArg Addr.block h; first | exact h1 | exact h1.symm)]; exact hg
theorem keepA {n₀ : Nat} {W w2 : World} {sv : Value} {zs xs : List Int} {p : Option Addr} {l c : Nat} {nw : Obj} (hL : Lims n₀ W sv zs) (hn : n₀ ≤ W.heap.size) (hgrow : (W.alloc nw).grownBy w2 (Value.slice p l c).ownBlock) (hown : Own16 n₀ W (.slice p l c) xs)
    {b b' : Nat} {x : Bool} {p1 : Option Addr} {l1 c1 : Nat} {o : Obj} (_ : w2.heap[b']? = some o) (r9 : w2.heap[b]? = some (.cells #[.bool x, .slice p1 l1 c1] 24)) (v : Value) : Lims n₀ (w2.setCell ⟨b, 1, none⟩ v) sv zs := by
  refine Lims.box1 r9 v (hL.below (((Below.refl n₀ W).alloc hn nw).grown hgrow (by rw [World.size_alloc]; omega) (fun k hk => ?_)))
  rcases hown.form with ⟨e, _⟩ | ⟨g, cap, e, hBg, _⟩
  · cases e; cases hk
  · cases e; cases hk; exact hBg
theorem bytes_app (l : List UInt8) (c : UInt8) : (⟨l.toArray⟩ : ByteArray) ++ ⟨#[c]⟩ = ⟨(l ++ [c]).toArray⟩ := by
  apply ByteArray.ext
  simp
theorem wn_zero (w : World) : Wn w.heap.size w (.agg #[.bool false, .slice none 0 0]) 0 := ⟨_, [], rfl, .inl ⟨rfl, rfl⟩, Rep.nil, by have := Rep.nil.cap.1 (Nat.zero_le _); simpa using this⟩
theorem string_more (l : List UInt8) (c : UInt8) (W : World) (h : ByteArray.size ⟨l.toArray⟩ ≤ 1000000) : (Op.stringOp .add ⟨l.toArray⟩ ⟨#[c]⟩).run Tryd.prog W = .ok (.string ⟨(l ++ [c]).toArray⟩) W := by
  rw [← bytes_app]
  exact run_string_add_sum _ _ _ (Nat.le_trans (Nat.add_le_add_right h 1) (by decide))
theorem itoa_len_one {N : Nat} {y Z : Int} {ng : Bool} (hN : N ≤ 1030) (h0 : 1 ≤ y) (h1 : y < 65536) (hz : sgn ng (val (List.replicate N y)) = Z) : (Lib.itoa Z).length ≤ 100000 := by
  have hm := lm_one N h0 h1
  have hR : Rep (List.replicate N y) (val (List.replicate N y)) := ⟨hm, nz_one N h0, rfl⟩
  have hab := sgn_abs ng hR
  rw [hz] at hab
  have hlt := val_lt hm
  rw [List.length_replicate, ← hab, ← np65] at hlt
  have hlt' : Z.natAbs < 65536 ^ N := Int.ofNat_lt.1 hlt
  rw [itoa_sign, List.length_append, Lib.decDigits_length]
  have h1 : (if decide (Z < 0) = true then ([45] : List UInt8) else []).length ≤ 1 := by split <;> simp
  have h2 : Lib.nDigits Z.natAbs ≤ 5151 := by
    rcases Nat.eq_zero_or_pos Z.natAbs with e | e
    · rw [e, Lib.nDigits_small (by decide)]; decide
    · have h3 := pow_nDigits Z.natAbs e
      have h5 : (65536 : Nat) ^ N ≤ (10 ^ 5) ^ N := Nat.pow_le_pow_left (by decide) N
      rw [← Nat.pow_mul] at h5
      have h6 : 10 ^ (Lib.nDigits Z.natAbs - 1) < 10 ^ (5 * N) := Nat.lt_of_le_of_lt h3 (Nat.lt_of_lt_of_le hlt' h5)
      have := (Nat.pow_lt_pow_iff_right (by decide : 1 < 10)).1 h6
      omega
  omega
theorem same_num0 (va vb : Value) (z : Int) (w : World) (hA : Wn w.heap.size w va z) (hB : Wn w.heap.size w vb z) : Calls Tryd.prog 30 #[va, .int .i64 0, vb, .int .i64 0] w (BoolP true w) := by
  obtain ⟨A, ha, hRa, _, hla, _⟩ := hA.raw
  obtain ⟨B, hb, hRb, _, hlb, _⟩ := hB.raw
  refine (same_any va vb _ _ A B 0 0 w (by omega) (by omega) ha hb).mono fun _ _ ⟨h, hb⟩ => ⟨?_, hb⟩
  rw [h, same_num hRa hRb]
  simp

set_option maxRecDepth 100000 in
set_option maxHeartbeats 8000000 in
theorem Limits_any (n k x : Int) (neg : Bool) (w : World) (hn0 : -9223372036854775808 ≤ n) (hn1 : n < 9223372036854775808) (hk0 : -9223372036854775808 ≤ k) (hk1 : k < 9223372036854775808) (hx0 : 0 ≤ x) (hx1 : x < 65536) (htab : Tab w) : Calls Tryd.prog 5 #[.int .i64 n, .int .i64 k, .int .u16 x, .bool neg] w (BoolP true w) := by
  obtain ⟨i0, hi, hz0, hz1, hz2⟩ := info_parts info40
  obtain ⟨N, hN⟩ : ∃ N : Nat, ((N : Nat) : Int) = 1000 + n % 31 := ⟨(1000 + n % 31).toNat, by omega⟩
  obtain ⟨K, hK⟩ : ∃ K : Nat, ((K : Nat) : Int) = k % 1031 := ⟨(k % 1031).toNat, by omega⟩
  have hN0 : 1000 ≤ N := by omega
  have hN1 : N ≤ 1030 := by omega
  have hK1 : K ≤ 1030 := by omega
  have hw31 : IntKind.i64.wrap (1000 + n % 31) = (N : Int) := by rw [hN]; exact IntWalk.i64_in _ (by omega)
  obtain ⟨y, hy⟩ : ∃ y : Int, y = max x 1 := ⟨_, rfl⟩
  obtain ⟨y2, hy2⟩ : ∃ y2 : Int, y2 = max (IntKind.u16.wrap (x + 1)) 1 := ⟨_, rfl⟩
  have hy0 : 1 ≤ y := by rw [hy]; omega
  have hy1 : y < 65536 := by rw [hy]; omega
  have hy20 : 1 ≤ y2 := by rw [hy2]; omega
  have hy21 : y2 < 65536 := by rw [hy2, IntKind.wrap_u16]; omega
  have hmA := lm_one N hy0 hy1
  have hmB := lm_one K hy20 hy21
  have hlA : (List.replicate N y).length ≤ 140737488355328 := by rw [List.length_replicate]; omega
  have hlB : (List.replicate K y2).length ≤ 140737488355328 := by rw [List.length_replicate]; omega
  have HOK := Lib.hid (ok_one N neg hy0 (fun h => by omega))
  obtain ⟨hzn, hzl⟩ := long_zeros hN0 hy0 hy1 neg
  obtain ⟨Z, hZ⟩ : ∃ Z, sgn neg (val (List.replicate N y)) = Z := ⟨_, rfl⟩
  rw [hZ] at hzn hzl
  have HZ := Lib.hid hZ
  have HZ0 := Lib.hid hzn
  have HZL := Lib.hid hzl
  have HY := Lib.hid hy
  have HY2 := Lib.hid hy2
  have HN := Lib.hid hN
  have HK := Lib.hid hK
  have hp1 := Pick_any n 31 w (by omega) (by omega) hn0 hn1
  have hp2 := Pick_any k 1031 w (by omega) (by omega) hk0 hk1
  rw [← hK] at hp2
  have hR0 : Rep (List.replicate N y) (val (List.replicate N y)) := ⟨hmA, nz_one N hy0, rfl⟩
  have hzc : N ≤ 1024 → Z.natAbs < Cap := fun h => by
    rw [← HZ.out, sgn_abs neg hR0]
    exact hR0.cap.1 (by rw [List.length_replicate]; exact h)
  have HZC' := Lib.hid hzc
  have hsz : (Lib.itoa Z).length ≤ 100000 := itoa_len_one hN1 hy0 hy1 HZ.out
  have HSZ := Lib.hid (show ByteArray.size ⟨(Lib.itoa Z).toArray⟩ ≤ 100000 by simpa [Lib.size_eq] using hsz)
  have HSZ2 := Lib.hid (show ByteArray.size ⟨(Lib.itoa Z ++ List.replicate 200 48).toArray⟩ ≤ 9223372036854775806 by simp [Lib.size_eq]; omega)
  clear hzc hsz hR0
  clear hzn hzl hZ hy hy2 hK hN hn0 hn1 hk0 hk1
  go_enter Tryd.func5, Tryd.ntmps5
  go_wp2_with fail
  refine hp1.mono ?_
  rintro e w1 ⟨rfl, rfl⟩
  go_wp2_with fail
  refine hp2.mono ?_
  rintro e w1 ⟨rfl, rfl⟩
  clear hp1 hp2
  go_wp2
  go_loopw [11] (fun iv wr => ∃ (i : Nat) (p : Option Addr) (l c : Nat), i ≤ N ∧ iv = .int .i64 i ∧ wr.heap[w.heap.size]? = some (.cells #[.bool neg, .slice p l c] 24) ∧ wr.heap[(w.heap.size + 1)]? = some (.cells #[.bool false, .slice none 0 0] 24) ∧ Own16 w.heap.size wr (.slice p l c) (List.replicate i y) ∧ Below w.heap.size w wr) (fun iv _ => N - (intOf iv).toNat)
  case atStart => exact ⟨0, none, 0, 0, Nat.zero_le _, rfl, alloc_old _ _ (alloc_new _ _ rfl), alloc_new _ _ (by simp), World.ownsRow_nil _ _ _ _, (((Below.refl _ w).alloc (Nat.le_refl _) _).alloc (by simp) _)⟩
  case round =>
    obtain ⟨i, pA, lA, cA, hik, rfl, q9, q10, hown, hb⟩ := hrel
    have hrow := hown.out
    have hne := own_ne hown q9
    have hne' := own_ne hown q10
    have hs9 : w.heap.size < wr.heap.size := (Array.getElem?_eq_some_iff.1 q9).1
    have hs10 : (w.heap.size + 1) < wr.heap.size := (Array.getElem?_eq_some_iff.1 q10).1
    rw [List.length_replicate] at hrow
    by_cases hlt : i < N
    · have c9 := cell_of q9 1 rfl
      have hmx := HY.out
      go_wp2_with (at_builtin; (try rw [← hmx]); refine wpList_append_own _ rfl _ _ 22 rfl w.heap.size 40 i0 (.int .u16 0) 1 2 Tryd.underlying22 hi hz0 hz1 hz2 rfl (by decide) _ _ _ rfl (hrow.alloc _) ⟨wr.heap.size, 0, none⟩ 1 1 [.int .u16 y] rfl rfl (cell_one_new _ _ _) (by simp [Value.oneCell']) (by unfold maxLen; omega) (by omega) (by simp; omega) ?_; intro v' w2 hown' hgrow _; have r9 := (hgrow.block w.heap.size (by rw [World.size_alloc]; omega) hne).trans (alloc_old _ (.cells #[.int .u16 y] 40) q9); have r10 := (hgrow.block (w.heap.size + 1) (by rw [World.size_alloc]; omega) hne').trans (alloc_old _ (.cells #[.int .u16 y] 40) q10); have f9 := frozen_of r9 1; have g9 := cell_of r9 1 rfl; have hown2 : Own16 w.heap.size w2 v' (List.replicate i y ++ [y]) := (by unfold Own16; simp only [List.length_append, List.length_replicate, List.length_cons, List.length_nil, Nat.zero_add, List.map_append, List.map_cons, List.map_nil]; exact hown'); obtain ⟨p', l', c', rfl⟩ := hown2.shape)
      go_roundw
      case rel =>
        refine ⟨i + 1, p', l', c', by omega, by go_num, ?_, ?_, ?_, (((hb.alloc (by omega) _).grown hgrow (by rw [World.size_alloc]; omega) (fun k hk => ?_)).setCell (p := ⟨w.heap.size, 1, none⟩) (by simp) _)⟩
        · simp [World.setCell, Array.getElem?_modify, r9]
        · have : (w.heap.size + 1) ≠ w.heap.size := by omega
          simp [World.setCell, Array.getElem?_modify, r10, this]
          try omega
        · rw [List.replicate_succ']; exact hown2.cellsBox r9 (by decide) 1 _
        · rcases hown.form with ⟨e, _⟩ | ⟨g, cap, e, hBg, _⟩
          · cases e; cases hk
          · cases e; cases hk; show w.heap.size ≤ g; omega
      case measure => simp [intOf]; omega
    · obtain rfl : N = i := by omega
      clear hrow hne hne' hs9 hs10 hlt hik
      obtain ⟨wo, rfl⟩ : ∃ x, x = wr := ⟨_, rfl⟩
      have hwo2 : w.heap.size + 2 ≤ wo.heap.size := by have := (Array.getElem?_eq_some_iff.1 q10).1; omega
      skip
      go_wp2
      go_loopw [12] (fun iv wr => ∃ (i : Nat) (p : Option Addr) (l c : Nat), i ≤ K ∧ iv = .int .i64 i ∧ wr.heap[(w.heap.size + 1)]? = some (.cells #[.bool false, .slice p l c] 24) ∧ wr.heap[w.heap.size]? = some (.cells #[.bool neg, .slice pA lA cA] 24) ∧ Own16 wo.heap.size wr (.slice p l c) (List.replicate i y2) ∧ Lims wo.heap.size wr (.slice pA lA cA) (List.replicate N y) ∧ wo.heap.size ≤ wr.heap.size ∧ Below w.heap.size w wr) (fun iv _ => K - (intOf iv).toNat)
      case atStart => exact ⟨0, none, 0, 0, Nat.zero_le _, rfl, q10, q9, World.ownsRow_nil _ _ _ _, hown.lims, Nat.le_refl _, hb⟩
      case round =>
        obtain ⟨i, p, l, c, hik, rfl, q9, q10, hown, hA, hwo, hb⟩ := hrel
        have hrow := hown.out
        have hne := own_ne hown q9
        have hne' := own_ne hown q10
        have hs9 : (w.heap.size + 1) < wr.heap.size := (Array.getElem?_eq_some_iff.1 q9).1
        have hs10 : w.heap.size < wr.heap.size := (Array.getElem?_eq_some_iff.1 q10).1
        rw [List.length_replicate] at hrow
        by_cases hlt : i < K
        · have c9 := cell_of q9 1 rfl
          have hmx := HY2.out
          go_wp2_with (at_builtin; (try rw [← hmx]); refine wpList_append_own _ rfl _ _ 22 rfl wo.heap.size 40 i0 (.int .u16 0) 1 2 Tryd.underlying22 hi hz0 hz1 hz2 rfl (by decide) _ _ _ rfl (hrow.alloc _) ⟨wr.heap.size, 0, none⟩ 1 1 [.int .u16 y2] rfl rfl (cell_one_new _ _ _) (by simp [Value.oneCell']) (by unfold maxLen; omega) (by omega) (by simp; omega) ?_; intro v' w2 hown' hgrow _; have r9 := (hgrow.block (w.heap.size + 1) (by rw [World.size_alloc]; omega) hne).trans (alloc_old _ (.cells #[.int .u16 y2] 40) q9); have r10 := (hgrow.block w.heap.size (by rw [World.size_alloc]; omega) hne').trans (alloc_old _ (.cells #[.int .u16 y2] 40) q10); have f9 := frozen_of r9 1; have g9 := cell_of r9 1 rfl; have hown2 : Own16 wo.heap.size w2 v' (List.replicate i y2 ++ [y2]) := (by unfold Own16; simp only [List.length_append, List.length_replicate, List.length_cons, List.length_nil, Nat.zero_add, List.map_append, List.map_cons, List.map_nil]; exact hown'); obtain ⟨p', l', c', rfl⟩ := hown2.shape)
          go_roundw
          case rel =>
            refine ⟨i + 1, p', l', c', by omega, by go_num, ?_, ?_, ?_, ?_, ?_, (((hb.alloc (by omega) _).grown hgrow (by rw [World.size_alloc]; omega) (fun k hk => ?_)).setCell (p := ⟨(w.heap.size + 1), 1, none⟩) (by simp) _)⟩
            · simp [World.setCell, Array.getElem?_modify, r9]
            · have : w.heap.size ≠ (w.heap.size + 1) := by omega
              simp [World.setCell, Array.getElem?_modify, r10, this]
              try omega
            · rw [List.replicate_succ']; exact hown2.cellsBox r9 (by decide) 1 _
            · exact keepA hA hwo hgrow hown r10 r9 _
            · have := hgrow.size; simp at this ⊢; omega
            · rcases hown.form with ⟨e, _⟩ | ⟨g, cap, e, hBg, _⟩
              · cases e; cases hk
              · cases e; cases hk; show w.heap.size ≤ g; omega
          case measure => simp [intOf]; omega
        · obtain rfl : K = i := by omega
          clear hrow hne hne' hs9 hs10 hlt hik
          have ha9 : Wr wr.heap.size wr (.agg #[.bool neg, .slice pA lA cA]) neg (List.replicate N y) := ⟨_, rfl, hA.mono hwo⟩
          have ha10 : Wr wr.heap.size wr (.agg #[.bool false, .slice p l c]) false (List.replicate K y2) := ⟨_, rfl, hown.lims⟩
          clear hA hown hi hz0 hz1 hz2 hwo hwo2
          have y9_0 := cell_of q10 0 rfl
          have y9_1 := cell_of q10 1 rfl
          have y10_0 := cell_of q9 0 rfl
          have y10_1 := cell_of q9 1 rfl
          go_wp2_with fail
          clear y9_0 y9_1 y10_0 y10_1
          refine (resAdd _ _ neg false (List.replicate N y) (List.replicate K y2) wr ha9 ha10 hlA hlB hmA hmB).mono ?_
          rintro e w21 ⟨b1, p1, l1, c1, er1, rfl, hO1, hb1⟩
          have q9w21 := (hb1.block _ (Array.getElem?_eq_some_iff.1 q10).1).trans q10
          have n9w21 := ha9.later hb1
          have q10w21 := (hb1.block _ (Array.getElem?_eq_some_iff.1 q9).1).trans q9
          have n10w21 := ha10.later hb1
          have hBXw21 := hb.trans (hb1.mono hb.size)
          obtain ⟨x13, hx13⟩ : ∃ x, x = w21.alloc (.cells #[.bool b1, .slice p1 l1 c1] 24) := ⟨_, rfl⟩
          have hbx13 : Below w21.heap.size w21 x13 := by rw [hx13]; exact (Below.refl _ _).alloc (Nat.le_refl _) _
          have qn13 : x13.heap[w21.heap.size]? = some (.cells #[.bool b1, .slice p1 l1 c1] 24) := by rw [hx13]; exact alloc_new _ _ rfl
          have q9x13 := (hbx13.block _ (Array.getElem?_eq_some_iff.1 q9w21).1).trans q9w21
          have n9x13 := n9w21.later hbx13
          have q10x13 := (hbx13.block _ (Array.getElem?_eq_some_iff.1 q10w21).1).trans q10w21
          have n10x13 := n10w21.later hbx13
          have hBXx13 := hBXw21.trans (hbx13.mono hBXw21.size)
          have nn13 := hO1.later hbx13
          have y9_0 := cell_of q9x13 0 rfl
          have y9_1 := cell_of q9x13 1 rfl
          have y10_0 := cell_of q10x13 0 rfl
          have y10_1 := cell_of q10x13 1 rfl
          have y13_0 := cell_of qn13 0 rfl
          have y13_1 := cell_of qn13 1 rfl
          rw [hx13] at y9_0 y9_1 y10_0 y10_1 y13_0 y13_1
          have Hx13 := Lib.hid hx13
          clear hx13
          go_wp2_with fail
          rw [← Hx13.out]
          clear y9_0 y9_1 y10_0 y10_1 y13_0 y13_1
          refine (resSub _ _ neg false (List.replicate N y) (List.replicate K y2) x13 n9x13 n10x13 hlA hlB hmA hmB).mono ?_
          rintro e w22 ⟨b2, p2, l2, c2, er2, rfl, hO2, hb2⟩
          have q9w22 := (hb2.block _ (Array.getElem?_eq_some_iff.1 q9x13).1).trans q9x13
          have n9w22 := n9x13.later hb2
          have q10w22 := (hb2.block _ (Array.getElem?_eq_some_iff.1 q10x13).1).trans q10x13
          have n10w22 := n10x13.later hb2
          have q13w22 := (hb2.block _ (Array.getElem?_eq_some_iff.1 qn13).1).trans qn13
          have n13w22 := nn13.later hb2
          have hBXw22 := hBXx13.trans (hb2.mono hBXx13.size)
          obtain ⟨x15, hx15⟩ : ∃ x, x = w22.alloc (.cells #[.bool b2, .slice p2 l2 c2] 24) := ⟨_, rfl⟩
          have hbx15 : Below w22.heap.size w22 x15 := by rw [hx15]; exact (Below.refl _ _).alloc (Nat.le_refl _) _
          have qn15 : x15.heap[w22.heap.size]? = some (.cells #[.bool b2, .slice p2 l2 c2] 24) := by rw [hx15]; exact alloc_new _ _ rfl
          have q9x15 := (hbx15.block _ (Array.getElem?_eq_some_iff.1 q9w22).1).trans q9w22
          have n9x15 := n9w22.later hbx15
          have q10x15 := (hbx15.block _ (Array.getElem?_eq_some_iff.1 q10w22).1).trans q10w22
          have n10x15 := n10w22.later hbx15
          have q13x15 := (hbx15.block _ (Array.getElem?_eq_some_iff.1 q13w22).1).trans q13w22
          have n13x15 := n13w22.later hbx15
          have hBXx15 := hBXw22.trans (hbx15.mono hBXw22.size)
          have nn15 := hO2.later hbx15
          have y9_0 := cell_of q9x15 0 rfl
          have y9_1 := cell_of q9x15 1 rfl
          have y10_0 := cell_of q10x15 0 rfl
          have y10_1 := cell_of q10x15 1 rfl
          have y13_0 := cell_of q13x15 0 rfl
          have y13_1 := cell_of q13x15 1 rfl
          have y15_0 := cell_of qn15 0 rfl
          have y15_1 := cell_of qn15 1 rfl
          rw [hx15] at y9_0 y9_1 y10_0 y10_1 y13_0 y13_1 y15_0 y15_1
          have Hx15 := Lib.hid hx15
          clear hx15
          go_wp2_with fail
          rw [← Hx15.out]
          clear y9_0 y9_1 y10_0 y10_1 y13_0 y13_1 y15_0 y15_1
          refine (resMul _ _ neg false (List.replicate N y) (List.replicate K y2) x15 n9x15 n10x15 hlA hlB hmA hmB).mono ?_
          rintro e w23 ⟨b3, p3, l3, c3, er3, rfl, hO3, hb3⟩
          have q9w23 := (hb3.block _ (Array.getElem?_eq_some_iff.1 q9x15).1).trans q9x15
          have n9w23 := n9x15.later hb3
          have q10w23 := (hb3.block _ (Array.getElem?_eq_some_iff.1 q10x15).1).trans q10x15
          have n10w23 := n10x15.later hb3
          have q13w23 := (hb3.block _ (Array.getElem?_eq_some_iff.1 q13x15).1).trans q13x15
          have n13w23 := n13x15.later hb3
          have q15w23 := (hb3.block _ (Array.getElem?_eq_some_iff.1 qn15).1).trans qn15
          have n15w23 := nn15.later hb3
          have hBXw23 := hBXx15.trans (hb3.mono hBXx15.size)
          obtain ⟨x17, hx17⟩ : ∃ x, x = w23.alloc (.cells #[.bool b3, .slice p3 l3 c3] 24) := ⟨_, rfl⟩
          have hbx17 : Below w23.heap.size w23 x17 := by rw [hx17]; exact (Below.refl _ _).alloc (Nat.le_refl _) _
          have qn17 : x17.heap[w23.heap.size]? = some (.cells #[.bool b3, .slice p3 l3 c3] 24) := by rw [hx17]; exact alloc_new _ _ rfl
          have q9x17 := (hbx17.block _ (Array.getElem?_eq_some_iff.1 q9w23).1).trans q9w23
          have n9x17 := n9w23.later hbx17
          have q10x17 := (hbx17.block _ (Array.getElem?_eq_some_iff.1 q10w23).1).trans q10w23
          have n10x17 := n10w23.later hbx17
          have q13x17 := (hbx17.block _ (Array.getElem?_eq_some_iff.1 q13w23).1).trans q13w23
          have n13x17 := n13w23.later hbx17
          have q15x17 := (hbx17.block _ (Array.getElem?_eq_some_iff.1 q15w23).1).trans q15w23
          have n15x17 := n15w23.later hbx17
          have hBXx17 := hBXw23.trans (hbx17.mono hBXw23.size)
          have nn17 := hO3.later hbx17
          have y9_0 := cell_of q9x17 0 rfl
          have y9_1 := cell_of q9x17 1 rfl
          have y10_0 := cell_of q10x17 0 rfl
          have y10_1 := cell_of q10x17 1 rfl
          have y13_0 := cell_of q13x17 0 rfl
          have y13_1 := cell_of q13x17 1 rfl
          have y15_0 := cell_of q15x17 0 rfl
          have y15_1 := cell_of q15x17 1 rfl
          have y17_0 := cell_of qn17 0 rfl
          have y17_1 := cell_of qn17 1 rfl
          rw [hx17] at y9_0 y9_1 y10_0 y10_1 y13_0 y13_1 y15_0 y15_1 y17_0 y17_1
          have Hx17 := Lib.hid hx17
          clear hx17
          go_wp2_with fail
          rw [← Hx17.out]
          clear y9_0 y9_1 y10_0 y10_1 y13_0 y13_1 y15_0 y15_1 y17_0 y17_1
          refine (resAdd' _ _ neg false (List.replicate N y) (List.replicate K y2) x17 n9x17 n10x17 hlA hlB hmA hmB).mono ?_
          rintro e w24 ⟨b4, p4, l4, c4, er4, rfl, hO4, hb4⟩
          have q9w24 := (hb4.block _ (Array.getElem?_eq_some_iff.1 q9x17).1).trans q9x17
          have n9w24 := n9x17.later hb4
          have q10w24 := (hb4.block _ (Array.getElem?_eq_some_iff.1 q10x17).1).trans q10x17
          have n10w24 := n10x17.later hb4
          have q13w24 := (hb4.block _ (Array.getElem?_eq_some_iff.1 q13x17).1).trans q13x17
          have n13w24 := n13x17.later hb4
          have q15w24 := (hb4.block _ (Array.getElem?_eq_some_iff.1 q15x17).1).trans q15x17
          have n15w24 := n15x17.later hb4
          have q17w24 := (hb4.block _ (Array.getElem?_eq_some_iff.1 qn17).1).trans qn17
          have n17w24 := nn17.later hb4
          have hBXw24 := hBXx17.trans (hb4.mono hBXx17.size)
          obtain ⟨x19, hx19⟩ : ∃ x, x = w24.alloc (.cells #[.bool b4, .slice p4 l4 c4] 24) := ⟨_, rfl⟩
          have hbx19 : Below w24.heap.size w24 x19 := by rw [hx19]; exact (Below.refl _ _).alloc (Nat.le_refl _) _
          have qn19 : x19.heap[w24.heap.size]? = some (.cells #[.bool b4, .slice p4 l4 c4] 24) := by rw [hx19]; exact alloc_new _ _ rfl
          have q9x19 := (hbx19.block _ (Array.getElem?_eq_some_iff.1 q9w24).1).trans q9w24
          have n9x19 := n9w24.later hbx19
          have q10x19 := (hbx19.block _ (Array.getElem?_eq_some_iff.1 q10w24).1).trans q10w24
          have n10x19 := n10w24.later hbx19
          have q13x19 := (hbx19.block _ (Array.getElem?_eq_some_iff.1 q13w24).1).trans q13w24
          have n13x19 := n13w24.later hbx19
          have q15x19 := (hbx19.block _ (Array.getElem?_eq_some_iff.1 q15w24).1).trans q15w24
          have n15x19 := n15w24.later hbx19
          have q17x19 := (hbx19.block _ (Array.getElem?_eq_some_iff.1 q17w24).1).trans q17w24
          have n17x19 := n17w24.later hbx19
          have hBXx19 := hBXw24.trans (hbx19.mono hBXw24.size)
          have nn19 := hO4.later hbx19
          have y9_0 := cell_of q9x19 0 rfl
          have y9_1 := cell_of q9x19 1 rfl
          have y10_0 := cell_of q10x19 0 rfl
          have y10_1 := cell_of q10x19 1 rfl
          have y13_0 := cell_of q13x19 0 rfl
          have y13_1 := cell_of q13x19 1 rfl
          have y15_0 := cell_of q15x19 0 rfl
          have y15_1 := cell_of q15x19 1 rfl
          have y17_0 := cell_of q17x19 0 rfl
          have y17_1 := cell_of q17x19 1 rfl
          have y19_0 := cell_of qn19 0 rfl
          have y19_1 := cell_of qn19 1 rfl
          rw [hx19] at y9_0 y9_1 y10_0 y10_1 y13_0 y13_1 y15_0 y15_1 y17_0 y17_1 y19_0 y19_1
          have Hx19 := Lib.hid hx19
          clear hx19
          go_wp2_with fail
          rw [← Hx19.out]
          clear y9_0 y9_1 y10_0 y10_1 y13_0 y13_1 y15_0 y15_1 y17_0 y17_1 y19_0 y19_1
          refine (resSub' _ _ neg false (List.replicate N y) (List.replicate K y2) x19 n9x19 n10x19 hlA hlB hmA hmB).mono ?_
          rintro e w25 ⟨b5, p5, l5, c5, er5, rfl, hO5, hb5⟩
          have q9w25 := (hb5.block _ (Array.getElem?_eq_some_iff.1 q9x19).1).trans q9x19
          have n9w25 := n9x19.later hb5
          have q10w25 := (hb5.block _ (Array.getElem?_eq_some_iff.1 q10x19).1).trans q10x19
          have n10w25 := n10x19.later hb5
          have q13w25 := (hb5.block _ (Array.getElem?_eq_some_iff.1 q13x19).1).trans q13x19
          have n13w25 := n13x19.later hb5
          have q15w25 := (hb5.block _ (Array.getElem?_eq_some_iff.1 q15x19).1).trans q15x19
          have n15w25 := n15x19.later hb5
          have q17w25 := (hb5.block _ (Array.getElem?_eq_some_iff.1 q17x19).1).trans q17x19
          have n17w25 := n17x19.later hb5
          have q19w25 := (hb5.block _ (Array.getElem?_eq_some_iff.1 qn19).1).trans qn19
          have n19w25 := nn19.later hb5
          have hBXw25 := hBXx19.trans (hb5.mono hBXx19.size)
          obtain ⟨x21, hx21⟩ : ∃ x, x = w25.alloc (.cells #[.bool b5, .slice p5 l5 c5] 24) := ⟨_, rfl⟩
          have hbx21 : Below w25.heap.size w25 x21 := by rw [hx21]; exact (Below.refl _ _).alloc (Nat.le_refl _) _
          have qn21 : x21.heap[w25.heap.size]? = some (.cells #[.bool b5, .slice p5 l5 c5] 24) := by rw [hx21]; exact alloc_new _ _ rfl
          have q9x21 := (hbx21.block _ (Array.getElem?_eq_some_iff.1 q9w25).1).trans q9w25
          have n9x21 := n9w25.later hbx21
          have q10x21 := (hbx21.block _ (Array.getElem?_eq_some_iff.1 q10w25).1).trans q10w25
          have n10x21 := n10w25.later hbx21
          have q13x21 := (hbx21.block _ (Array.getElem?_eq_some_iff.1 q13w25).1).trans q13w25
          have n13x21 := n13w25.later hbx21
          have q15x21 := (hbx21.block _ (Array.getElem?_eq_some_iff.1 q15w25).1).trans q15w25
          have n15x21 := n15w25.later hbx21
          have q17x21 := (hbx21.block _ (Array.getElem?_eq_some_iff.1 q17w25).1).trans q17w25
          have n17x21 := n17w25.later hbx21
          have q19x21 := (hbx21.block _ (Array.getElem?_eq_some_iff.1 q19w25).1).trans q19w25
          have n19x21 := n19w25.later hbx21
          have hBXx21 := hBXw25.trans (hbx21.mono hBXw25.size)
          have nn21 := hO5.later hbx21
          have y9_0 := cell_of q9x21 0 rfl
          have y9_1 := cell_of q9x21 1 rfl
          have y10_0 := cell_of q10x21 0 rfl
          have y10_1 := cell_of q10x21 1 rfl
          have y13_0 := cell_of q13x21 0 rfl
          have y13_1 := cell_of q13x21 1 rfl
          have y15_0 := cell_of q15x21 0 rfl
          have y15_1 := cell_of q15x21 1 rfl
          have y17_0 := cell_of q17x21 0 rfl
          have y17_1 := cell_of q17x21 1 rfl
          have y19_0 := cell_of q19x21 0 rfl
          have y19_1 := cell_of q19x21 1 rfl
          have y21_0 := cell_of qn21 0 rfl
          have y21_1 := cell_of qn21 1 rfl
          rw [hx21] at y9_0 y9_1 y10_0 y10_1 y13_0 y13_1 y15_0 y15_1 y17_0 y17_1 y19_0 y19_1 y21_0 y21_1
          have Hx21 := Lib.hid hx21
          clear hx21
          go_wp2_with fail
          rw [← Hx21.out]
          clear y9_0 y9_1 y10_0 y10_1 y13_0 y13_1 y15_0 y15_1 y17_0 y17_1 y19_0 y19_1 y21_0 y21_1
          refine (resMul' _ _ neg false (List.replicate N y) (List.replicate K y2) x21 n9x21 n10x21 hlA hlB hmA hmB).mono ?_
          rintro e w26 ⟨b6, p6, l6, c6, er6, rfl, hO6, hb6⟩
          have q9w26 := (hb6.block _ (Array.getElem?_eq_some_iff.1 q9x21).1).trans q9x21
          have n9w26 := n9x21.later hb6
          have q10w26 := (hb6.block _ (Array.getElem?_eq_some_iff.1 q10x21).1).trans q10x21
          have n10w26 := n10x21.later hb6
          have q13w26 := (hb6.block _ (Array.getElem?_eq_some_iff.1 q13x21).1).trans q13x21
          have n13w26 := n13x21.later hb6
          have q15w26 := (hb6.block _ (Array.getElem?_eq_some_iff.1 q15x21).1).trans q15x21
          have n15w26 := n15x21.later hb6
          have q17w26 := (hb6.block _ (Array.getElem?_eq_some_iff.1 q17x21).1).trans q17x21
          have n17w26 := n17x21.later hb6
          have q19w26 := (hb6.block _ (Array.getElem?_eq_some_iff.1 q19x21).1).trans q19x21
          have n19w26 := n19x21.later hb6
          have q21w26 := (hb6.block _ (Array.getElem?_eq_some_iff.1 qn21).1).trans qn21
          have n21w26 := nn21.later hb6
          have hBXw26 := hBXx21.trans (hb6.mono hBXx21.size)
          obtain ⟨x23, hx23⟩ : ∃ x, x = w26.alloc (.cells #[.bool b6, .slice p6 l6 c6] 24) := ⟨_, rfl⟩
          have hbx23 : Below w26.heap.size w26 x23 := by rw [hx23]; exact (Below.refl _ _).alloc (Nat.le_refl _) _
          have qn23 : x23.heap[w26.heap.size]? = some (.cells #[.bool b6, .slice p6 l6 c6] 24) := by rw [hx23]; exact alloc_new _ _ rfl
          have q9x23 := (hbx23.block _ (Array.getElem?_eq_some_iff.1 q9w26).1).trans q9w26
          have n9x23 := n9w26.later hbx23
          have q10x23 := (hbx23.block _ (Array.getElem?_eq_some_iff.1 q10w26).1).trans q10w26
          have n10x23 := n10w26.later hbx23
          have q13x23 := (hbx23.block _ (Array.getElem?_eq_some_iff.1 q13w26).1).trans q13w26
          have n13x23 := n13w26.later hbx23
          have q15x23 := (hbx23.block _ (Array.getElem?_eq_some_iff.1 q15w26).1).trans q15w26
          have n15x23 := n15w26.later hbx23
          have q17x23 := (hbx23.block _ (Array.getElem?_eq_some_iff.1 q17w26).1).trans q17w26
          have n17x23 := n17w26.later hbx23
          have q19x23 := (hbx23.block _ (Array.getElem?_eq_some_iff.1 q19w26).1).trans q19w26
          have n19x23 := n19w26.later hbx23
          have q21x23 := (hbx23.block _ (Array.getElem?_eq_some_iff.1 q21w26).1).trans q21w26
          have n21x23 := n21w26.later hbx23
          have hBXx23 := hBXw26.trans (hbx23.mono hBXw26.size)
          have nn23 := hO6.later hbx23
          have y9_0 := cell_of q9x23 0 rfl
          have y9_1 := cell_of q9x23 1 rfl
          have y10_0 := cell_of q10x23 0 rfl
          have y10_1 := cell_of q10x23 1 rfl
          have y13_0 := cell_of q13x23 0 rfl
          have y13_1 := cell_of q13x23 1 rfl
          have y15_0 := cell_of q15x23 0 rfl
          have y15_1 := cell_of q15x23 1 rfl
          have y17_0 := cell_of q17x23 0 rfl
          have y17_1 := cell_of q17x23 1 rfl
          have y19_0 := cell_of q19x23 0 rfl
          have y19_1 := cell_of q19x23 1 rfl
          have y21_0 := cell_of q21x23 0 rfl
          have y21_1 := cell_of q21x23 1 rfl
          have y23_0 := cell_of qn23 0 rfl
          have y23_1 := cell_of qn23 1 rfl
          rw [hx23] at y9_0 y9_1 y10_0 y10_1 y13_0 y13_1 y15_0 y15_1 y17_0 y17_1 y19_0 y19_1 y21_0 y21_1 y23_0 y23_1
          have Hx23 := Lib.hid hx23
          clear hx23
          go_wp2_with fail
          rw [← Hx23.out]
          clear y9_0 y9_1 y10_0 y10_1 y13_0 y13_1 y15_0 y15_1 y17_0 y17_1 y19_0 y19_1 y21_0 y21_1 y23_0 y23_1
          refine (same_res _ _ _ _ _ x23 n13x23 n19x23).mono ?_
          rintro e w27 ⟨rfl, hb7⟩
          have q9w27 := (hb7.block _ (Array.getElem?_eq_some_iff.1 q9x23).1).trans q9x23
          have n9w27 := n9x23.later hb7
          have q10w27 := (hb7.block _ (Array.getElem?_eq_some_iff.1 q10x23).1).trans q10x23
          have n10w27 := n10x23.later hb7
          have q13w27 := (hb7.block _ (Array.getElem?_eq_some_iff.1 q13x23).1).trans q13x23
          have n13w27 := n13x23.later hb7
          have q15w27 := (hb7.block _ (Array.getElem?_eq_some_iff.1 q15x23).1).trans q15x23
          have n15w27 := n15x23.later hb7
          have q17w27 := (hb7.block _ (Array.getElem?_eq_some_iff.1 q17x23).1).trans q17x23
          have n17w27 := n17x23.later hb7
          have q19w27 := (hb7.block _ (Array.getElem?_eq_some_iff.1 q19x23).1).trans q19x23
          have n19w27 := n19x23.later hb7
          have q21w27 := (hb7.block _ (Array.getElem?_eq_some_iff.1 q21x23).1).trans q21x23
          have n21w27 := n21x23.later hb7
          have q23w27 := (hb7.block _ (Array.getElem?_eq_some_iff.1 qn23).1).trans qn23
          have n23w27 := nn23.later hb7
          have hBXw27 := hBXx23.trans (hb7.mono hBXx23.size)
          have y9_0 := cell_of q9w27 0 rfl
          have y9_1 := cell_of q9w27 1 rfl
          have y10_0 := cell_of q10w27 0 rfl
          have y10_1 := cell_of q10w27 1 rfl
          have y13_0 := cell_of q13w27 0 rfl
          have y13_1 := cell_of q13w27 1 rfl
          have y15_0 := cell_of q15w27 0 rfl
          have y15_1 := cell_of q15w27 1 rfl
          have y17_0 := cell_of q17w27 0 rfl
          have y17_1 := cell_of q17w27 1 rfl
          have y19_0 := cell_of q19w27 0 rfl
          have y19_1 := cell_of q19w27 1 rfl
          have y21_0 := cell_of q21w27 0 rfl
          have y21_1 := cell_of q21w27 1 rfl
          have y23_0 := cell_of q23w27 0 rfl
          have y23_1 := cell_of q23w27 1 rfl
          go_wp2_with fail
          clear y9_0 y9_1 y10_0 y10_1 y13_0 y13_1 y15_0 y15_1 y17_0 y17_1 y19_0 y19_1 y21_0 y21_1 y23_0 y23_1
          refine (same_res _ _ _ _ _ w27 n15w27 n21w27).mono ?_
          rintro e w28 ⟨rfl, hb8⟩
          have q9w28 := (hb8.block _ (Array.getElem?_eq_some_iff.1 q9w27).1).trans q9w27
          have n9w28 := n9w27.later hb8
          have q10w28 := (hb8.block _ (Array.getElem?_eq_some_iff.1 q10w27).1).trans q10w27
          have n10w28 := n10w27.later hb8
          have q13w28 := (hb8.block _ (Array.getElem?_eq_some_iff.1 q13w27).1).trans q13w27
          have n13w28 := n13w27.later hb8
          have q15w28 := (hb8.block _ (Array.getElem?_eq_some_iff.1 q15w27).1).trans q15w27
          have n15w28 := n15w27.later hb8
          have q17w28 := (hb8.block _ (Array.getElem?_eq_some_iff.1 q17w27).1).trans q17w27
          have n17w28 := n17w27.later hb8
          have q19w28 := (hb8.block _ (Array.getElem?_eq_some_iff.1 q19w27).1).trans q19w27
          have n19w28 := n19w27.later hb8
          have q21w28 := (hb8.block _ (Array.getElem?_eq_some_iff.1 q21w27).1).trans q21w27
          have n21w28 := n21w27.later hb8
          have q23w28 := (hb8.block _ (Array.getElem?_eq_some_iff.1 q23w27).1).trans q23w27
          have n23w28 := n23w27.later hb8
          have hBXw28 := hBXw27.trans (hb8.mono hBXw27.size)
          have y9_0 := cell_of q9w28 0 rfl
          have y9_1 := cell_of q9w28 1 rfl
          have y10_0 := cell_of q10w28 0 rfl
          have y10_1 := cell_of q10w28 1 rfl
          have y13_0 := cell_of q13w28 0 rfl
          have y13_1 := cell_of q13w28 1 rfl
          have y15_0 := cell_of q15w28 0 rfl
          have y15_1 := cell_of q15w28 1 rfl
          have y17_0 := cell_of q17w28 0 rfl
          have y17_1 := cell_of q17w28 1 rfl
          have y19_0 := cell_of q19w28 0 rfl
          have y19_1 := cell_of q19w28 1 rfl
          have y21_0 := cell_of q21w28 0 rfl
          have y21_1 := cell_of q21w28 1 rfl
          have y23_0 := cell_of q23w28 0 rfl
          have y23_1 := cell_of q23w28 1 rfl
          go_wp2_with fail
          clear y9_0 y9_1 y10_0 y10_1 y13_0 y13_1 y15_0 y15_1 y17_0 y17_1 y19_0 y19_1 y21_0 y21_1 y23_0 y23_1
          refine (same_res _ _ _ _ _ w28 n17w28 n23w28).mono ?_
          rintro e w29 ⟨rfl, hb9⟩
          have q9w29 := (hb9.block _ (Array.getElem?_eq_some_iff.1 q9w28).1).trans q9w28
          have n9w29 := n9w28.later hb9
          have q10w29 := (hb9.block _ (Array.getElem?_eq_some_iff.1 q10w28).1).trans q10w28
          have n10w29 := n10w28.later hb9
          have q13w29 := (hb9.block _ (Array.getElem?_eq_some_iff.1 q13w28).1).trans q13w28
          have n13w29 := n13w28.later hb9
          have q15w29 := (hb9.block _ (Array.getElem?_eq_some_iff.1 q15w28).1).trans q15w28
          have n15w29 := n15w28.later hb9
          have q17w29 := (hb9.block _ (Array.getElem?_eq_some_iff.1 q17w28).1).trans q17w28
          have n17w29 := n17w28.later hb9
          have q19w29 := (hb9.block _ (Array.getElem?_eq_some_iff.1 q19w28).1).trans q19w28
          have n19w29 := n19w28.later hb9
          have q21w29 := (hb9.block _ (Array.getElem?_eq_some_iff.1 q21w28).1).trans q21w28
          have n21w29 := n21w28.later hb9
          have q23w29 := (hb9.block _ (Array.getElem?_eq_some_iff.1 q23w28).1).trans q23w28
          have n23w29 := n23w28.later hb9
          have hBXw29 := hBXw28.trans (hb9.mono hBXw28.size)
          have y9_0 := cell_of q9w29 0 rfl
          have y9_1 := cell_of q9w29 1 rfl
          have y10_0 := cell_of q10w29 0 rfl
          have y10_1 := cell_of q10w29 1 rfl
          have y13_0 := cell_of q13w29 0 rfl
          have y13_1 := cell_of q13w29 1 rfl
          have y15_0 := cell_of q15w29 0 rfl
          have y15_1 := cell_of q15w29 1 rfl
          have y17_0 := cell_of q17w29 0 rfl
          have y17_1 := cell_of q17w29 1 rfl
          have y19_0 := cell_of q19w29 0 rfl
          have y19_1 := cell_of q19w29 1 rfl
          have y21_0 := cell_of q21w29 0 rfl
          have y21_1 := cell_of q21w29 1 rfl
          have y23_0 := cell_of q23w29 0 rfl
          have y23_1 := cell_of q23w29 1 rfl
          go_wp2_with fail
          clear y9_0 y9_1 y10_0 y10_1 y13_0 y13_1 y15_0 y15_1 y17_0 y17_1 y19_0 y19_1 y21_0 y21_1 y23_0 y23_1
          refine (Valid_any _ neg (List.replicate N y) w29 n9w29 hlA).mono ?_
          rintro e w30 ⟨rfl, hb10⟩
          rw [HOK.out]
          have q9w30 := (hb10.block _ (Array.getElem?_eq_some_iff.1 q9w29).1).trans q9w29
          have n9w30 := n9w29.later hb10
          have q10w30 := (hb10.block _ (Array.getElem?_eq_some_iff.1 q10w29).1).trans q10w29
          have n10w30 := n10w29.later hb10
          have q13w30 := (hb10.block _ (Array.getElem?_eq_some_iff.1 q13w29).1).trans q13w29
          have n13w30 := n13w29.later hb10
          have q15w30 := (hb10.block _ (Array.getElem?_eq_some_iff.1 q15w29).1).trans q15w29
          have n15w30 := n15w29.later hb10
          have q17w30 := (hb10.block _ (Array.getElem?_eq_some_iff.1 q17w29).1).trans q17w29
          have n17w30 := n17w29.later hb10
          have q19w30 := (hb10.block _ (Array.getElem?_eq_some_iff.1 q19w29).1).trans q19w29
          have n19w30 := n19w29.later hb10
          have q21w30 := (hb10.block _ (Array.getElem?_eq_some_iff.1 q21w29).1).trans q21w29
          have n21w30 := n21w29.later hb10
          have q23w30 := (hb10.block _ (Array.getElem?_eq_some_iff.1 q23w29).1).trans q23w29
          have n23w30 := n23w29.later hb10
          have hBXw30 := hBXw29.trans (hb10.mono hBXw29.size)
          clear q10w30 n10w30
          clear q13w30 n13w30
          clear q15w30 n15w30
          clear q17w30 n17w30
          clear q19w30 n19w30
          clear q21w30 n21w30
          clear q23w30 n23w30
          by_cases hN : N ≤ 1024
          · have hd : decide (N ≤ 1024) = true := decide_eq_true hN
            rw [hd]
            have hdi : decide ((N : Int) ≤ 1024) = true := by exact decide_eq_true (by omega)
            have hz9 : Wn w30.heap.size w30 (.agg #[.bool neg, .slice pA lA cA]) Z := by have h := num_of n9w30 (by rw [HOK.out, hd]) hmA; rw [HZ.out] at h; exact h
            have HZC := Lib.hid (HZC'.out hN)
            have y9_0 := cell_of q9w30 0 rfl
            have y9_1 := cell_of q9w30 1 rfl
            go_wp2_with fail
            clear y9_0 y9_1
            refine (Text_ok _ Z w30 hz9 (htab.below' hBXw30)).mono ?_
            rintro e w31 ⟨rfl, hb11⟩
            have q9w31 := (hb11.block _ (Array.getElem?_eq_some_iff.1 q9w30).1).trans q9w30
            have n9w31 := hz9.later hb11
            have hBXw31 := hBXw30.trans (hb11.mono hBXw30.size)
            have y9_0 := cell_of q9w31 0 rfl
            have y9_1 := cell_of q9w31 1 rfl
            go_wp2_with fail
            clear y9_0 y9_1
            refine (Valid_num _ Z w31 n9w31).mono ?_
            rintro e w32 ⟨rfl, hb12⟩
            have q9w32 := (hb12.block _ (Array.getElem?_eq_some_iff.1 q9w31).1).trans q9w31
            have n9w32 := n9w31.later hb12
            have hBXw32 := hBXw31.trans (hb12.mono hBXw31.size)
            have hpz := parse_itoa Z
            have y9_0 := cell_of q9w32 0 rfl
            have y9_1 := cell_of q9w32 1 rfl
            go_wp2_with fail
            clear y9_0 y9_1
            refine (Parse_fit _ Z w32 (by have := HSZ.out; omega) (by simpa using hpz.1) (by simpa using hpz.2) HZC.out).mono ?_
            rintro e w33 ⟨b13, p13, l13, c13, rfl, hO13, hb13⟩
            clear hpz
            have q9w33 := (hb13.block _ (Array.getElem?_eq_some_iff.1 q9w32).1).trans q9w32
            have n9w33 := n9w32.later hb13
            have hBXw33 := hBXw32.trans (hb13.mono hBXw32.size)
            obtain ⟨x27, hx27⟩ : ∃ x, x = w33.alloc (.cells #[.bool b13, .slice p13 l13 c13] 24) := ⟨_, rfl⟩
            have hbx27 : Below w33.heap.size w33 x27 := by rw [hx27]; exact (Below.refl _ _).alloc (Nat.le_refl _) _
            have qn27 : x27.heap[w33.heap.size]? = some (.cells #[.bool b13, .slice p13 l13 c13] 24) := by rw [hx27]; exact alloc_new _ _ rfl
            have q9x27 := (hbx27.block _ (Array.getElem?_eq_some_iff.1 q9w33).1).trans q9w33
            have n9x27 := n9w33.later hbx27
            have hBXx27 := hBXw33.trans (hbx27.mono hBXw33.size)
            have nn27 := hO13.num.later hbx27
            have y9_0 := cell_of q9x27 0 rfl
            have y9_1 := cell_of q9x27 1 rfl
            have y27_0 := cell_of qn27 0 rfl
            have y27_1 := cell_of qn27 1 rfl
            rw [hx27] at y9_0 y9_1 y27_0 y27_1
            have Hx27 := Lib.hid hx27
            clear hx27
            go_wp2
            rw [← Hx27.out]
            clear y9_0 y9_1 y27_0 y27_1
            go_loop [25, 29] (fun tv iv => ∃ i : Nat, i ≤ 200 ∧ iv = .int .i64 i ∧ tv = .string ⟨(Lib.itoa Z ++ List.replicate i 48).toArray⟩) (fun _ iv => 200 - (intOf iv).toNat)
            case atStart => exact ⟨0, by omega, rfl, by simp⟩
            case round =>
              obtain ⟨i, hi2, rfl, rfl⟩ := hrel
              by_cases hlt : i < 200
              · have hadd := fun W : World => string_more (Lib.itoa Z ++ List.replicate i 48) 48 W (by have := HSZ.out; rw [Lib.size_eq] at this ⊢; simp at this ⊢; omega)
                go_wp2
                go_round
                case rel => exact ⟨i + 1, by omega, by go_num, by rw [List.replicate_succ', ← List.append_assoc]⟩
                case measure => simp [intOf]; omega
              · obtain rfl : i = 200 := by omega
                clear hlt hi2
                have y9_0 := cell_of q9x27 0 rfl
                have y9_1 := cell_of q9x27 1 rfl
                have y27_0 := cell_of qn27 0 rfl
                have y27_1 := cell_of qn27 1 rfl
                go_wp2_with fail
                clear y9_0 y9_1 y27_0 y27_1
                refine (Parse_over _ (Z * 10 ^ 200) x27 HSZ2.out (by rw [parse_zeros HZ0.out]) HZL.out).mono ?_
                rintro e w34 ⟨rfl, hb14⟩
                have q9w34 := (hb14.block _ (Array.getElem?_eq_some_iff.1 q9x27).1).trans q9x27
                have n9w34 := n9x27.later hb14
                have q27w34 := (hb14.block _ (Array.getElem?_eq_some_iff.1 qn27).1).trans qn27
                have n27w34 := nn27.later hb14
                have hBXw34 := hBXx27.trans (hb14.mono hBXx27.size)
                obtain ⟨x30, hx30⟩ : ∃ x, x = w34.alloc (.cells #[.bool false, .slice none 0 0] 24) := ⟨_, rfl⟩
                have hbx30 : Below w34.heap.size w34 x30 := by rw [hx30]; exact (Below.refl _ _).alloc (Nat.le_refl _) _
                have qn30 : x30.heap[w34.heap.size]? = some (.cells #[.bool false, .slice none 0 0] 24) := by rw [hx30]; exact alloc_new _ _ rfl
                have q9x30 := (hbx30.block _ (Array.getElem?_eq_some_iff.1 q9w34).1).trans q9w34
                have n9x30 := n9w34.later hbx30
                have q27x30 := (hbx30.block _ (Array.getElem?_eq_some_iff.1 q27w34).1).trans q27w34
                have n27x30 := n27w34.later hbx30
                have hBXx30 := hBXw34.trans (hbx30.mono hBXw34.size)
                have nn30 := (wn_zero w34).later hbx30
                have y9_0 := cell_of q9x30 0 rfl
                have y9_1 := cell_of q9x30 1 rfl
                have y27_0 := cell_of q27x30 0 rfl
                have y27_1 := cell_of q27x30 1 rfl
                have y30_0 := cell_of qn30 0 rfl
                have y30_1 := cell_of qn30 1 rfl
                rw [hx30] at y9_0 y9_1 y27_0 y27_1 y30_0 y30_1
                have Hx30 := Lib.hid hx30
                clear hx30
                go_wp2_with fail
                rw [← Hx30.out]
                clear y9_0 y9_1 y27_0 y27_1 y30_0 y30_1
                refine (same_num0 _ _ Z x30 n27x30 n9x30).mono ?_
                rintro e w35 ⟨rfl, hb15⟩
                have q9w35 := (hb15.block _ (Array.getElem?_eq_some_iff.1 q9x30).1).trans q9x30
                have n9w35 := n9x30.later hb15
                have q27w35 := (hb15.block _ (Array.getElem?_eq_some_iff.1 q27x30).1).trans q27x30
                have n27w35 := n27x30.later hb15
                have q30w35 := (hb15.block _ (Array.getElem?_eq_some_iff.1 qn30).1).trans qn30
                have n30w35 := nn30.later hb15
                have hBXw35 := hBXx30.trans (hb15.mono hBXx30.size)
                have y9_0 := cell_of q9w35 0 rfl
                have y9_1 := cell_of q9w35 1 rfl
                have y27_0 := cell_of q27w35 0 rfl
                have y27_1 := cell_of q27w35 1 rfl
                have y30_0 := cell_of q30w35 0 rfl
                have y30_1 := cell_of q30w35 1 rfl
                go_wp2_with fail
                clear y9_0 y9_1 y27_0 y27_1 y30_0 y30_1
                refine (awake_ok w35 (htab.below' hBXw35)).mono ?_
                rintro e w36 ⟨rfl, hb16⟩
                have q9w36 := (hb16.block _ (Array.getElem?_eq_some_iff.1 q9w35).1).trans q9w35
                have n9w36 := n9w35.later hb16
                have q27w36 := (hb16.block _ (Array.getElem?_eq_some_iff.1 q27w35).1).trans q27w35
                have n27w36 := n27w35.later hb16
                have q30w36 := (hb16.block _ (Array.getElem?_eq_some_iff.1 q30w35).1).trans q30w35
                have n30w36 := n30w35.later hb16
                have hBXw36 := hBXw35.trans (hb16.mono hBXw35.size)
                go_wp2
                go_ret
                exact ⟨rfl, hBXw36⟩
          · have hd : decide (N ≤ 1024) = false := decide_eq_false hN
            rw [hd]
            have hdi : decide ((N : Int) ≤ 1024) = false := by exact decide_eq_false (by omega)
            have y9_0 := cell_of q9w30 0 rfl
            have y9_1 := cell_of q9w30 1 rfl
            go_wp2_with fail
            clear y9_0 y9_1
            refine (Text_bad _ neg (List.replicate N y) w30 n9w30 hlA (by rw [HOK.out, hd])).mono ?_
            rintro e w31 ⟨rfl, hb11⟩
            have q9w31 := (hb11.block _ (Array.getElem?_eq_some_iff.1 q9w30).1).trans q9w30
            have n9w31 := n9w30.later hb11
            have hBXw31 := hBXw30.trans (hb11.mono hBXw30.size)
            have y9_0 := cell_of q9w31 0 rfl
            have y9_1 := cell_of q9w31 1 rfl
            go_wp2_with fail
            clear y9_0 y9_1
            refine (Valid_any _ neg (List.replicate N y) w31 n9w31 hlA).mono ?_
            rintro e w32 ⟨rfl, hb12⟩
            rw [HOK.out, hd]
            have q9w32 := (hb12.block _ (Array.getElem?_eq_some_iff.1 q9w31).1).trans q9w31
            have n9w32 := n9w31.later hb12
            have hBXw32 := hBXw31.trans (hb12.mono hBXw31.size)
            have y9_0 := cell_of q9w32 0 rfl
            have y9_1 := cell_of q9w32 1 rfl
            go_wp2_with fail
            clear y9_0 y9_1
            refine (awake_ok w32 (htab.below' hBXw32)).mono ?_
            rintro e w33 ⟨rfl, hb13⟩
            have q9w33 := (hb13.block _ (Array.getElem?_eq_some_iff.1 q9w32).1).trans q9w32
            have n9w33 := n9w32.later hb13
            have hBXw33 := hBXw32.trans (hb13.mono hBXw32.size)
            go_wp2
            go_ret
            exact ⟨rfl, hBXw33⟩

end Go.Proofs.YtbaiohjladddlaaDoor
