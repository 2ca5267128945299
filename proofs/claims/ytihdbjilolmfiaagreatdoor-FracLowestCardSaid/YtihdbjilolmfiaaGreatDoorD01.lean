import Derived.WalkKit
import Derived.Lib.ItoaNum
import Derived.Lib.Atoi
namespace Go.Proofs.YtihdbjilolmfiaaGreatDoor
theorem nr1 {p : Prop} {b : Bool} (h : b = false) (k : b = true) : p := Bool.noConfusion (k.symm.trans h)
end Go.Proofs.YtihdbjilolmfiaaGreatDoor
namespace Go.WM
def Lm (zs : List Int) : Prop := ∀ x, x ∈ zs → 0 ≤ x ∧ x < 65536
def val : List Int → Int
 | [] => 0
 | x :: l => x + 65536 * val l
def Nz (zs : List Int) : Prop := ∀ h : zs ≠ [], zs.getLast h ≠ 0
structure Rep (zs : List Int) (n : Int) : Prop where
 lm : Lm zs
 nz : Nz zs
 eq : val zs = n
theorem Lm.nil : Lm [] := fun _ h => by cases h
theorem Lm.cons {x : Int} {l : List Int} (hx : 0 ≤ x ∧ x < 65536) (hl : Lm l) : Lm (x :: l) := by
 intro y hy; rcases List.mem_cons.1 hy with rfl | h
 · exact hx
 · exact hl y h
theorem Lm.tail {x : Int} {l : List Int} (h : Lm (x :: l)) : Lm l := fun y hy => h y (List.mem_cons_of_mem _ hy)
theorem Lm.head {x : Int} {l : List Int} (h : Lm (x :: l)) : 0 ≤ x ∧ x < 65536 := h x (by simp)
theorem Lm.append {a b : List Int} (ha : Lm a) (hb : Lm b) : Lm (a ++ b) := by
 intro x hx; rcases List.mem_append.1 hx with h | h
 · exact ha x h
 · exact hb x h
theorem Lm.left {a b : List Int} (h : Lm (a ++ b)) : Lm a := fun x hx => h x (List.mem_append.2 (.inl hx))
theorem Lm.right {a b : List Int} (h : Lm (a ++ b)) : Lm b := fun x hx => h x (List.mem_append.2 (.inr hx))
theorem Lm.take {a : List Int} (h : Lm a) (k : Nat) : Lm (a.take k) := fun x hx => h x (List.mem_of_mem_take hx)
theorem Lm.drop {a : List Int} (h : Lm a) (k : Nat) : Lm (a.drop k) := fun x hx => h x (List.mem_of_mem_drop hx)
theorem Lm.getD {a : List Int} (h : Lm a) (k : Nat) : 0 ≤ a[k]?.getD 0 ∧ a[k]?.getD 0 < 65536 := by
 by_cases hk : k < a.length
 · simp [hk]; exact h _ (List.getElem_mem hk)
 · simp [List.getElem?_eq_none (Nat.le_of_not_lt hk)]
theorem Lm.set {a : List Int} (h : Lm a) (k : Nat) {x : Int} (hx : 0 ≤ x ∧ x < 65536) : Lm (a.set k x) := by
 intro y hy
 rcases List.mem_or_eq_of_mem_set hy with h1 | h1
 · exact h y h1
 · subst h1; exact hx
theorem Lm.replicate (n : Nat) : Lm (List.replicate n 0) := by
 intro x hx; rw [List.mem_replicate] at hx; omega
theorem pow_pos' (k : Nat) : (0 : Int) < 65536 ^ k := Int.pow_pos (by decide)
theorem val_nonneg {l : List Int} (h : Lm l) : 0 ≤ val l := by
 induction l with
 | nil => simp [val]
 | cons x l ih => have := ih h.tail; have := h.head; simp only [val]; omega
theorem val_lt {l : List Int} (h : Lm l) : val l < 65536 ^ l.length := by
 induction l with
 | nil => simp [val]
 | cons x l ih =>
  have h1 := ih h.tail; have h2 := h.head
  simp only [val, List.length_cons, Int.pow_succ]
  generalize (65536 : Int) ^ l.length = p at *
  omega
theorem val_append (a b : List Int) : val (a ++ b) = val a + 65536 ^ a.length * val b := by
 induction a with
 | nil => simp [val]
 | cons x l ih =>
  simp only [List.cons_append, val, List.length_cons, Int.pow_succ, ih]
  grind
theorem val_snoc (a : List Int) (x : Int) : val (a ++ [x]) = val a + 65536 ^ a.length * x := by
 rw [val_append]; simp [val]
theorem val_replicate (n : Nat) : val (List.replicate n 0) = 0 := by
 induction n with
 | zero => rfl
 | succ n ih => simp [List.replicate_succ, val, ih]
theorem take_snoc {l : List Int} {k : Nat} (h : k < l.length) : l.take (k + 1) = l.take k ++ [l[k]?.getD 0] := by
 rw [List.take_succ_eq_append_getElem h]; simp [h]
theorem val_take_succ {l : List Int} {k : Nat} (h : k < l.length) : val (l.take (k + 1)) = val (l.take k) + 65536 ^ k * l[k]?.getD 0 := by
 rw [take_snoc h, val_snoc]; simp [List.length_take, Nat.min_eq_left (Nat.le_of_lt h)]
theorem val_take_succ' (l : List Int) (k : Nat) : val (l.take (k + 1)) = val (l.take k) + 65536 ^ k * l[k]?.getD 0 := by
 by_cases h : k < l.length
 · exact val_take_succ h
 · have h' := Nat.le_of_not_lt h
   rw [List.take_of_length_le (by omega), List.take_of_length_le (by omega), List.getElem?_eq_none h']; simp
theorem val_drop {l : List Int} {k : Nat} (h : k < l.length) : val (l.drop k) = l[k]?.getD 0 + 65536 * val (l.drop (k + 1)) := by
 rw [List.drop_eq_getElem_cons h]; simp [val, h]
theorem val_split (l : List Int) (k : Nat) : val l = val (l.take k) + 65536 ^ (min k l.length) * val (l.drop k) := by
 have := val_append (l.take k) (l.drop k)
 rw [List.take_append_drop] at this; rw [this, List.length_take]
theorem val_inj {a b : List Int} (ha : Lm a) (hb : Lm b) (hl : a.length = b.length) (hv : val a = val b) : a = b := by
 induction a generalizing b with
 | nil => cases b with
  | nil => rfl
  | cons y m => simp at hl
 | cons x l ih => cases b with
  | nil => simp at hl
  | cons y m =>
   have h1 := ha.head; have h2 := hb.head
   simp only [val] at hv
   have hx : x = y := by omega
   have hv' : val l = val m := by omega
   rw [hx, ih ha.tail hb.tail (by simpa using hl) hv']
theorem Nz.nil : Nz [] := fun h => absurd rfl h
theorem val_ge {l : List Int} (h : Lm l) (hz : Nz l) (hn : l ≠ []) : 65536 ^ (l.length - 1) ≤ val l := by
 obtain ⟨a, x, rfl⟩ : ∃ a x, l = a ++ [x] := ⟨l.dropLast, l.getLast hn, (List.dropLast_concat_getLast hn).symm⟩
 have hx : x ≠ 0 := by have := hz hn; simpa using this
 have h1 := val_nonneg h.left
 have h2 := h.right.head
 have hp := pow_pos' a.length
 rw [val_snoc]
 simp only [List.length_append, List.length_cons, List.length_nil, Nat.zero_add, Nat.add_sub_cancel]
 have : (65536 : Int) ^ a.length * 1 ≤ 65536 ^ a.length * x := Int.mul_le_mul_of_nonneg_left (by omega) (by omega)
 omega
theorem pow_le_pow' {a b : Nat} (h : a ≤ b) : (65536 : Int) ^ a ≤ 65536 ^ b := by
 obtain ⟨c, rfl⟩ := Nat.exists_eq_add_of_le h
 rw [Int.pow_add]
 have h1 := pow_pos' a; have h2 := pow_pos' c
 have : (65536 : Int) ^ a * 1 ≤ 65536 ^ a * 65536 ^ c := Int.mul_le_mul_of_nonneg_left (by omega) (by omega)
 omega
theorem len_le_of_val {a b : List Int} (ha : Lm a) (hz : Nz a) (hb : Lm b) (h : val a ≤ val b) : a.length ≤ b.length := by
 by_cases hn : a = []
 · simp [hn]
 · have h1 := val_ge ha hz hn
   have h2 := val_lt hb
   apply Nat.le_of_not_lt
   intro hlt
   have h3 : (65536 : Int) ^ b.length ≤ 65536 ^ (a.length - 1) := pow_le_pow' (by omega)
   omega
theorem Rep.unique {a b : List Int} {n : Int} (ha : Rep a n) (hb : Rep b n) : a = b := by
 have h1 := len_le_of_val ha.lm ha.nz hb.lm (by rw [ha.eq, hb.eq]; omega)
 have h2 := len_le_of_val hb.lm hb.nz ha.lm (by rw [ha.eq, hb.eq]; omega)
 exact val_inj ha.lm hb.lm (by omega) (by rw [ha.eq, hb.eq])
theorem Rep.nonneg {a : List Int} {n : Int} (h : Rep a n) : 0 ≤ n := h.eq ▸ val_nonneg h.lm
theorem Rep.zero_iff {a : List Int} {n : Int} (h : Rep a n) : a = [] ↔ n = 0 := by
 constructor
 · rintro rfl; exact h.eq.symm
 · intro hn; subst hn; exact h.unique ⟨Lm.nil, Nz.nil, rfl⟩
theorem Rep.nil : Rep [] 0 := ⟨Lm.nil, Nz.nil, rfl⟩
theorem Rep.lt_of_len {a b : List Int} {n m : Int} (ha : Rep a n) (hb : Rep b m) (h : a.length < b.length) : n < m := by
 apply Int.not_le.1; intro hle
 have := len_le_of_val hb.lm hb.nz ha.lm (by rw [ha.eq, hb.eq]; exact hle)
 omega
theorem Rep.len_lt {a : List Int} {n : Int} (h : Rep a n) : n < 65536 ^ a.length := h.eq ▸ val_lt h.lm
theorem Rep.len_ge {a : List Int} {n : Int} (h : Rep a n) (hn : a ≠ []) : 65536 ^ (a.length - 1) ≤ n := h.eq ▸ val_ge h.lm h.nz hn
theorem Rep.len_le_iff {a : List Int} {n : Int} (h : Rep a n) (k : Nat) : a.length ≤ k ↔ n < 65536 ^ k := by
 constructor
 · intro hk; have := h.len_lt; have := pow_le_pow' hk; omega
 · intro hk
   apply Nat.le_of_not_lt; intro hlt
   have hn : a ≠ [] := by intro e; simp [e] at hlt
   have h1 := h.len_ge hn
   have h2 : (65536 : Int) ^ k ≤ 65536 ^ (a.length - 1) := pow_le_pow' (by omega)
   omega
def trim (l : List Int) : List Int := (l.reverse.dropWhile (· == 0)).reverse
theorem trim_snoc (a : List Int) (x : Int) : trim (a ++ [x]) = if x = 0 then trim a else a ++ [x] := by
 simp only [trim, List.reverse_append, List.reverse_cons, List.reverse_nil, List.nil_append, List.singleton_append, List.dropWhile_cons]
 by_cases h : x = 0 <;> simp [h]
theorem snoc_induction {P : List Int → Prop} (h0 : P []) (h1 : ∀ a x, P a → P (a ++ [x])) (l : List Int) : P l := by
 have : ∀ l : List Int, P l.reverse := by
  intro l
  induction l with
  | nil => exact h0
  | cons x l ih => rw [List.reverse_cons]; exact h1 _ _ ih
 have := this l.reverse
 simpa using this
theorem trim_rep {l : List Int} (h : Lm l) : Rep (trim l) (val l) := by
 induction l using snoc_induction with
 | h0 => exact Rep.nil
 | h1 a x ih =>
  rw [trim_snoc]
  by_cases hx : x = 0
  · subst hx; rw [if_pos rfl, val_snoc]; simpa using ih h.left
  · rw [if_neg hx]; exact ⟨h, fun hn => by simpa using hx, rfl⟩
theorem trim_prefix (l : List Int) : ∃ k, k ≤ l.length ∧ trim l = l.take k := by
 induction l using snoc_induction with
 | h0 => exact ⟨0, by simp, rfl⟩
 | h1 a x ih =>
  rw [trim_snoc]
  by_cases hx : x = 0
  · rw [if_pos hx]; obtain ⟨k, hk, e⟩ := ih; exact ⟨k, by simp; omega, by rw [e, List.take_append_of_le_length hk]⟩
  · rw [if_neg hx]; exact ⟨a.length + 1, by simp, by rw [List.take_of_length_le (by simp)]⟩
theorem Nz.of_last {l : List Int} (h : l[l.length - 1]?.getD 0 ≠ 0) : Nz l := by
 intro hn
 have hl : l.length - 1 < l.length := by have := List.length_pos_iff.2 hn; omega
 rw [List.getLast_eq_getElem]
 simpa [hl] using h
theorem Nz.last {l : List Int} (h : Nz l) (hn : l ≠ []) : l[l.length - 1]?.getD 0 ≠ 0 := by
 have hl : l.length - 1 < l.length := by have := List.length_pos_iff.2 hn; omega
 have := h hn
 rw [List.getLast_eq_getElem] at this
 simpa [hl] using this
theorem step_sum {out : List Int} {x c d c' s v : Int} (hd : d + 65536 * c' = s) (hv : val out + 65536 ^ out.length * c = v) (hs : s = x + c) :
 val (out ++ [d]) + 65536 ^ (out.length + 1) * c' = v + 65536 ^ out.length * x := by
 rw [val_snoc, Int.pow_succ]
 generalize (65536 : Int) ^ out.length = p at *
 grind
theorem val_set {l : List Int} {k : Nat} (h : k < l.length) (x : Int) : val (l.set k x) = val l + 65536 ^ k * (x - l[k]?.getD 0) := by
 induction l generalizing k with
 | nil => simp at h
 | cons y l ih =>
  cases k with
  | zero => simp [val]; omega
  | succ k =>
   simp only [List.length_cons, Nat.add_lt_add_iff_right] at h
   simp only [List.set_cons_succ, val, ih h, Int.pow_succ, List.getElem?_cons_succ]
   grind
end Go.WM
namespace Go.WM
theorem guess_init {U V top lead u2 v2 P r s g : Int} (hP : 0 < P) (htop : 0 ≤ top)
 (hU : U = (top * 65536 + u2) * P + r) (hr : 0 ≤ r ∧ r < P) (hV : V = (lead * 65536 + v2) * P + s) (hs : 0 ≤ s)
 (hv2 : 0 ≤ v2) (hu2 : 0 ≤ u2 ∧ u2 < 65536) (hlead : 0 < lead) (hlt : U < 65536 * V) (hg : g = min (top / lead) 65535) : U < (g + 1) * V := by
 rw [hg]
 by_cases h : top / lead ≤ 65535
 · rw [Int.min_eq_left h]
   have h1 : top < (top / lead + 1) * lead := Int.lt_ediv_add_one_mul_self top hlead
   have hq : 0 ≤ top / lead := Int.ediv_nonneg htop (by omega)
   generalize top / lead = q at *
   have h2 : (top + 1) * (65536 * P) ≤ ((q + 1) * lead) * (65536 * P) := Int.mul_le_mul_of_nonneg_right (by omega) (by omega)
   have h3 : U < (top + 1) * (65536 * P) := by
    have : (u2 + 1) * P ≤ 65536 * P := Int.mul_le_mul_of_nonneg_right (by omega) (by omega)
    grind
   have h4 : 0 ≤ v2 * P + s := by have := Int.mul_nonneg hv2 (Int.le_of_lt hP); omega
   have h5 : (q + 1) * (lead * (65536 * P)) ≤ (q + 1) * V := Int.mul_le_mul_of_nonneg_left (by rw [hV]; grind) (by omega)
   grind
 · rw [Int.min_eq_right (by omega)]; omega
theorem guess_down {U V top lead u2 v2 P r s g : Int} (hP : 0 < P)
 (hU : U = (top * 65536 + u2) * P + r) (hr : r < P) (hV : V = (lead * 65536 + v2) * P + s) (hs : 0 ≤ s)
 (hg : 0 ≤ g) (ht : (top - g * lead) * 65536 + u2 < g * v2) : U < g * V := by
 have h1 : top * 65536 + u2 + 1 ≤ g * (lead * 65536 + v2) := by grind
 have h2 : (top * 65536 + u2 + 1) * P ≤ g * (lead * 65536 + v2) * P := Int.mul_le_mul_of_nonneg_right h1 (by omega)
 have h3 : 0 ≤ g * s := Int.mul_nonneg hg hs
 have e1 : g * V = g * (lead * 65536 + v2) * P + g * s := by rw [hV]; grind
 have e2 : (top * 65536 + u2 + 1) * P = (top * 65536 + u2) * P + P := by grind
 omega
theorem guess_done {U V top lead u2 v2 P r s g : Int} (hP : 0 < P)
 (hU : U = (top * 65536 + u2) * P + r) (hr : 0 ≤ r) (hV : V = (lead * 65536 + v2) * P + s) (hs : 0 ≤ s ∧ s < P) (hv2 : 0 ≤ v2)
 (hlead : 0 < lead) (hg : 0 ≤ g ∧ g ≤ 65535) (ht : g * v2 ≤ (top - g * lead) * 65536 + u2) : g * V < U + V := by
 have h1 : g * (lead * 65536 + v2) ≤ top * 65536 + u2 := by grind
 have h2 : g * (lead * 65536 + v2) * P ≤ (top * 65536 + u2) * P := Int.mul_le_mul_of_nonneg_right h1 (by omega)
 have h3 : g * s ≤ 65535 * s := Int.mul_le_mul_of_nonneg_right hg.2 hs.1
 have h4 : 1 * (65536 * P) ≤ lead * (65536 * P) := Int.mul_le_mul_of_nonneg_right (by omega) (by omega)
 have h5 : 0 ≤ v2 * P := Int.mul_nonneg hv2 (by omega)
 have e1 : g * V = g * (lead * 65536 + v2) * P + g * s := by rw [hV]; grind
 have e2 : V = lead * (65536 * P) + v2 * P + s := by rw [hV]; grind
 omega
theorem div_unique {a b q r : Int} (h : a = q * b + r) (h0 : 0 ≤ r) (h1 : r < b) : q = a / b ∧ r = a % b := by
 have hb : 0 < b := by omega
 constructor
 · rw [h, Int.add_comm, Int.add_mul_ediv_right _ _ (by omega), Int.ediv_eq_zero_of_lt h0 h1]; omega
 · rw [h, Int.add_comm, Int.add_mul_emod_self_right, Int.emod_eq_of_lt h0 h1]
theorem emod_add_ediv (d : Int) : d % 65536 + 65536 * (d / 65536) = d := by omega
end Go.WM
namespace Go.WM
def cmpI (n m : Int) : Int := if n < m then -1 else if n = m then 0 else 1
theorem cmp_len {a b : List Int} {n m : Int} (ha : Rep a n) (hb : Rep b m) (h : a.length ≠ b.length) : cmpI n m = if a.length < b.length then -1 else 1 := by
 by_cases hl : a.length < b.length
 · have := ha.lt_of_len hb hl
   rw [if_pos hl]; unfold cmpI; rw [if_pos this]
 · have := hb.lt_of_len ha (by omega)
   rw [if_neg hl]; unfold cmpI; rw [if_neg (by omega), if_neg (by omega)]
theorem val_lt_of_drop {a b : List Int} (ha : Lm a) (hb : Lm b) {i : Nat} (hi : i < a.length) (hi' : i < b.length) (hd : a.drop (i + 1) = b.drop (i + 1)) (h : a[i]?.getD 0 < b[i]?.getD 0) : val a < val b := by
 rw [val_split a i, val_split b i, val_drop hi, val_drop hi', hd, Nat.min_eq_left (by omega), Nat.min_eq_left (by omega)]
 have h1 := val_lt (ha.take i); have h2 := val_nonneg (hb.take i)
 rw [List.length_take, Nat.min_eq_left (by omega)] at h1
 have hp := pow_pos' i
 generalize (65536 : Int) ^ i = p at *
 generalize val (List.take i a) = x at *
 generalize val (List.take i b) = y at *
 generalize val (List.drop (i + 1) b) = z at *
 generalize a[i]?.getD 0 = u at *
 generalize b[i]?.getD 0 = v at *
 have : p * (u + 1) ≤ p * v := Int.mul_le_mul_of_nonneg_left (by omega) (by omega)
 have e1 : p * (u + 65536 * z) = p * (u + 1) - p + p * (65536 * z) := by grind
 have e2 : p * (v + 65536 * z) = p * v + p * (65536 * z) := by grind
 omega
theorem cmp_at {a b : List Int} (ha : Lm a) (hb : Lm b) (hl : a.length = b.length) {i : Nat} (hi : i < a.length) (hd : a.drop (i + 1) = b.drop (i + 1)) (h : a[i]?.getD 0 ≠ b[i]?.getD 0) :
 cmpI (val a) (val b) = if a[i]?.getD 0 < b[i]?.getD 0 then -1 else 1 := by
 by_cases hlt : a[i]?.getD 0 < b[i]?.getD 0
 · have := val_lt_of_drop ha hb hi (by omega) hd hlt
   rw [if_pos hlt]; unfold cmpI; rw [if_pos this]
 · have := val_lt_of_drop hb ha (by omega) hi hd.symm (by omega)
   rw [if_neg hlt]; unfold cmpI; rw [if_neg (by omega), if_neg (by omega)]
theorem drop_step {a b : List Int} (hl : a.length = b.length) {i : Nat} (hi : i < a.length) (hd : a.drop (i + 1) = b.drop (i + 1)) (h : a[i]?.getD 0 = b[i]?.getD 0) : a.drop i = b.drop i := by
 have hi2 : i < b.length := by omega
 rw [List.drop_eq_getElem_cons hi, List.drop_eq_getElem_cons hi2, hd]
 have h1 : a[i]?.getD 0 = a[i] := by simp [hi]
 have h2 : b[i]?.getD 0 = b[i] := by simp [show i < b.length by omega]
 rw [← h1, ← h2, h]
theorem cmpI_self (n : Int) : cmpI n n = 0 := by unfold cmpI; rw [if_neg (by omega), if_pos rfl]
theorem cmpI_lt {n m : Int} : cmpI n m < 0 ↔ n < m := by unfold cmpI; split <;> (try split) <;> omega
theorem cmpI_le {n m : Int} : 0 ≤ cmpI n m ↔ m ≤ n := by unfold cmpI; split <;> (try split) <;> omega
theorem cmpI_eq {n m : Int} : cmpI n m = 0 ↔ n = m := by unfold cmpI; split <;> (try split) <;> omega
theorem cmpI_swap (n m : Int) : cmpI m n = - cmpI n m := by unfold cmpI; split <;> (try split) <;> (try split) <;> (try split) <;> omega
theorem cmpI_bd (n m : Int) : -1 ≤ cmpI n m ∧ cmpI n m ≤ 1 := by unfold cmpI; split <;> (try split) <;> omega
end Go.WM
namespace Go.WM
theorem nz_of_ge {l : List Int} (h : Lm l) (hv : l ≠ [] → 65536 ^ (l.length - 1) ≤ val l) : Nz l := by
 intro hn
 obtain ⟨a, x, rfl⟩ : ∃ a x, l = a ++ [x] := ⟨l.dropLast, l.getLast hn, (List.dropLast_concat_getLast hn).symm⟩
 intro hx
 have hx' : x = 0 := by simpa using hx
 subst hx'
 have h1 := val_lt h.left
 have h2 := hv hn
 rw [val_snoc] at h2
 simp only [List.length_append, List.length_cons, List.length_nil, Nat.zero_add, Nat.add_sub_cancel, Int.mul_zero, Int.add_zero] at h2
 omega
theorem rep_add0 {a b zs : List Int} {n m : Int} (ha : Rep a n) (hb : Rep b m) (hz : Lm zs) (hl : zs.length = a.length) (hv : val zs = n + m) : Rep zs (n + m) := by
 refine ⟨hz, nz_of_ge hz fun hn => ?_, hv⟩
 have hn' : a ≠ [] := by intro e; rw [e] at hl; exact hn (List.length_eq_zero_iff.1 hl)
 have := ha.len_ge hn'
 have := hb.nonneg
 rw [hl, hv]; omega
theorem rep_add1 {zs : List Int} {v : Int} (hz : Lm zs) (hv : val zs + 65536 ^ zs.length * 1 = v) : Rep (zs ++ [1]) v := by
 refine ⟨hz.append (Lm.cons (by omega) Lm.nil), fun hn => by simp, by rw [val_snoc]; exact hv⟩
theorem add_step {out X Y : List Int} {k : Nat} {c : Int} (hl : out.length = k) (hv : val out + 65536 ^ k * c = val (X.take k) + val (Y.take k)) :
 val (out ++ [(X[k]?.getD 0 + Y[k]?.getD 0 + c) % 65536]) + 65536 ^ (k + 1) * ((X[k]?.getD 0 + Y[k]?.getD 0 + c) / 65536) = val (X.take (k + 1)) + val (Y.take (k + 1)) := by
 rw [val_snoc, val_take_succ', val_take_succ', hl, Int.pow_succ]
 have := emod_add_ediv (X[k]?.getD 0 + Y[k]?.getD 0 + c)
 generalize (65536 : Int) ^ k = p at *
 generalize (X[k]?.getD 0 + Y[k]?.getD 0 + c) % 65536 = d at *
 generalize (X[k]?.getD 0 + Y[k]?.getD 0 + c) / 65536 = e at *
 grind
theorem take_all {X : List Int} {k : Nat} (h : X.length ≤ k) : X.take k = X := List.take_of_length_le h
theorem getD_out {Y : List Int} {k : Nat} (h : Y.length ≤ k) : Y[k]?.getD 0 = 0 := by rw [List.getElem?_eq_none h]; rfl
end Go.WM
namespace Go.WM
theorem sub_step {out X Y : List Int} {k : Nat} {c : Int} (hl : out.length = k) (hv : val out + 65536 ^ k * (-c) = val (X.take k) - val (Y.take k)) :
 val (out ++ [(X[k]?.getD 0 - Y[k]?.getD 0 - c) % 65536]) + 65536 ^ (k + 1) * (-(-((X[k]?.getD 0 - Y[k]?.getD 0 - c) / 65536))) = val (X.take (k + 1)) - val (Y.take (k + 1)) := by
 rw [val_snoc, val_take_succ', val_take_succ', hl, Int.pow_succ]
 have := emod_add_ediv (X[k]?.getD 0 - Y[k]?.getD 0 - c)
 generalize (65536 : Int) ^ k = p at *
 generalize (X[k]?.getD 0 - Y[k]?.getD 0 - c) % 65536 = d at *
 generalize (X[k]?.getD 0 - Y[k]?.getD 0 - c) / 65536 = e at *
 grind
end Go.WM
namespace Go.WM
theorem mul_bd {x y a b : Int} (hx : 0 ≤ x) (hx' : x ≤ a) (hy : 0 ≤ y) (hy' : y ≤ b) : 0 ≤ x * y ∧ x * y ≤ a * b :=
 ⟨Int.mul_nonneg hx hy, Int.mul_le_mul hx' hy' hy (by omega)⟩
theorem mul_step {out Y : List Int} {i k : Nat} {x c v : Int} (hl : i + k < out.length) (hv : val out + 65536 ^ (i + k) * c = v + 65536 ^ i * (x * val (Y.take k))) :
 val (out.set (i + k) ((x * Y[k]?.getD 0 + out[i + k]?.getD 0 + c) % 65536)) + 65536 ^ (i + (k + 1)) * ((x * Y[k]?.getD 0 + out[i + k]?.getD 0 + c) / 65536) = v + 65536 ^ i * (x * val (Y.take (k + 1))) := by
 rw [val_set hl, val_take_succ', ← Nat.add_assoc, Int.pow_succ]
 have := emod_add_ediv (x * Y[k]?.getD 0 + out[i + k]?.getD 0 + c)
 have hp : (65536 : Int) ^ (i + k) = 65536 ^ i * 65536 ^ k := Int.pow_add _ _ _
 rw [hp] at hv ⊢
 clear hp
 generalize (65536 : Int) ^ k = p at *
 generalize (65536 : Int) ^ i = q at *
 generalize (x * Y[k]?.getD 0 + out[i + k]?.getD 0 + c) % 65536 = d at *
 generalize (x * Y[k]?.getD 0 + out[i + k]?.getD 0 + c) / 65536 = e at *
 generalize Y[k]?.getD 0 = y at *
 generalize out[i + k]?.getD 0 = o at *
 generalize val (List.take k Y) = t at *
 grind
theorem mul_last {out X Y : List Int} {i lb : Nat} {c : Int} (hl : i + lb < out.length) (hY : Y.length ≤ lb) (h0 : out[i + lb]?.getD 0 = 0)
 (hv : val out + 65536 ^ (i + lb) * c = val (X.take i) * val Y + 65536 ^ i * (X[i]?.getD 0 * val (Y.take lb))) :
 val (out.set (i + lb) c) = val (X.take (i + 1)) * val Y := by
 rw [val_set hl, h0, val_take_succ', Int.sub_zero, hv, take_all hY]
 grind
theorem getD_set {l : List Int} {i j : Nat} {x : Int} : (l.set i x)[j]?.getD 0 = if i = j ∧ j < l.length then x else l[j]?.getD 0 := by
 rw [List.getElem?_set]
 by_cases h : i = j
 · subst h
   by_cases h2 : i < l.length <;> simp [h2]
 · simp [h]
theorem getD_replicate (n j : Nat) : (List.replicate n (0 : Int))[j]?.getD 0 = 0 := by
 rw [List.getElem?_replicate]; split <;> rfl
end Go.WM
namespace Go.WM
theorem drop_set_lt {l : List Int} {m k : Nat} {x : Int} (h : m < k) : (l.set m x).drop k = l.drop k := by rw [List.drop_set_of_lt h]
theorem short_step {X out : List Int} {m : Nat} {d r : Int} (hX : m < X.length) (ho : m < out.length) (hv : val (X.drop (m + 1)) = val (out.drop (m + 1)) * d + r) :
 val (X.drop m) = val ((out.set m ((r * 65536 + X[m]?.getD 0) / d)).drop m) * d + (r * 65536 + X[m]?.getD 0) % d := by
 have ho' : m < (out.set m ((r * 65536 + X[m]?.getD 0) / d)).length := by simpa using ho
 rw [val_drop hX, val_drop ho', drop_set_lt (by omega), getD_set, if_pos ⟨rfl, ho⟩, hv]
 have := Int.emod_add_mul_ediv (r * 65536 + X[m]?.getD 0) d
 generalize (r * 65536 + X[m]?.getD 0) % d = e at *
 generalize (r * 65536 + X[m]?.getD 0) / d = f at *
 grind
theorem short_bd {r x d : Int} (hd : 1 ≤ d) (hr0 : 0 ≤ r) (hr : r < d) (hx0 : 0 ≤ x) (hx : x < 65536) : 0 ≤ (r * 65536 + x) / d ∧ (r * 65536 + x) / d < 65536 ∧ 0 ≤ (r * 65536 + x) % d ∧ (r * 65536 + x) % d < d := by
 refine ⟨Int.ediv_nonneg (by omega) (by omega), ?_, Int.emod_nonneg _ (by omega), Int.emod_lt_of_pos _ (by omega)⟩
 exact Int.ediv_lt_of_lt_mul (by omega) (by omega)
end Go.WM
namespace Go.WM
theorem shift_step {out X : List Int} {k : Nat} {P : Int} (hl : k + 1 < out.length) (hv : val out = val (X.take k) * P) (h0 : out[k + 1]?.getD 0 = 0) :
 val ((out.set k (out[k]?.getD 0 + X[k]?.getD 0 * P % 65536)).set (k + 1) (X[k]?.getD 0 * P / 65536)) = val (X.take (k + 1)) * P := by
 rw [val_set (by simpa using hl), val_set (by omega), getD_set, if_neg (by omega), h0, val_take_succ', Int.pow_succ, hv]
 have := emod_add_ediv (X[k]?.getD 0 * P)
 generalize (65536 : Int) ^ k = p at *
 generalize X[k]?.getD 0 * P % 65536 = d at *
 generalize X[k]?.getD 0 * P / 65536 = e at *
 grind
end Go.WM
namespace Go.WM
theorem take2 {l : List Int} {m : Nat} (h : l.length = m + 2) : val l = (l[m + 1]?.getD 0 * 65536 + l[m]?.getD 0) * 65536 ^ m + val (l.take m) := by
 have h1 := val_take_succ' l (m + 1)
 have h2 := val_take_succ' l m
 rw [take_all (by omega)] at h1
 rw [h1, h2, Int.pow_succ]
 generalize (65536 : Int) ^ m = p at *
 grind
theorem take3 {l : List Int} {m : Nat} (h : l.length = m + 3) : val l = ((l[m + 2]?.getD 0 * 65536 + l[m + 1]?.getD 0) * 65536 + l[m]?.getD 0) * 65536 ^ m + val (l.take m) := by
 have h0 := val_take_succ' l (m + 2)
 have h1 := val_take_succ' l (m + 1)
 have h2 := val_take_succ' l m
 rw [take_all (by omega)] at h0
 rw [h0, h1, h2, show (65536 : Int) ^ (m + 2) = 65536 ^ m * 65536 * 65536 by rw [Int.pow_succ, Int.pow_succ], show (65536 : Int) ^ (m + 1) = 65536 ^ m * 65536 from Int.pow_succ _ _]
 generalize (65536 : Int) ^ m = p at *
 grind
theorem take_bd {l : List Int} (h : Lm l) {m : Nat} (hm : m ≤ l.length) : 0 ≤ val (l.take m) ∧ val (l.take m) < 65536 ^ m := by
 have h1 := val_lt (h.take m)
 rw [List.length_take, Nat.min_eq_left hm] at h1
 exact ⟨val_nonneg (h.take m), h1⟩
theorem digit_parts {S V : List Int} {m : Nat} (hS : Lm S) (hV : Lm V) (hs : S.length = m + 3) (hv : V.length = m + 2) :
 val S = ((S[m + 2]?.getD 0 * 65536 + S[m + 1]?.getD 0) * 65536 + S[m]?.getD 0) * 65536 ^ m + val (S.take m) ∧ val V = (V[m + 1]?.getD 0 * 65536 + V[m]?.getD 0) * 65536 ^ m + val (V.take m) ∧
  0 ≤ val (S.take m) ∧ val (S.take m) < 65536 ^ m ∧ 0 ≤ val (V.take m) ∧ val (V.take m) < 65536 ^ m ∧ (0 : Int) < 65536 ^ m :=
 ⟨take3 hs, take2 hv, (take_bd hS (by omega)).1, (take_bd hS (by omega)).2, (take_bd hV (by omega)).1, (take_bd hV (by omega)).2, pow_pos' m⟩
end Go.WM
namespace Go.WM
theorem val_take_set {l : List Int} {k : Nat} (h : k < l.length) (x : Int) : val ((l.set k x).take (k + 1)) = val (l.take k) + 65536 ^ k * x := by
 rw [val_take_succ', getD_set, if_pos ⟨rfl, h⟩, List.take_set_of_le (Nat.le_refl _)]
theorem mulsub_step {S S2 V : List Int} {k : Nat} {g e : Int} (hl : k < S2.length) (hs : S2[k]?.getD 0 = S[k]?.getD 0) (hv : val (S2.take k) + 65536 ^ k * e = val (S.take k) - g * val (V.take k)) :
 val ((S2.set k ((S2[k]?.getD 0 - g * V[k]?.getD 0 + e) % 65536)).take (k + 1)) + 65536 ^ (k + 1) * ((S2[k]?.getD 0 - g * V[k]?.getD 0 + e) / 65536) = val (S.take (k + 1)) - g * val (V.take (k + 1)) := by
 rw [val_take_set hl, val_take_succ', val_take_succ', hs, Int.pow_succ]
 have := emod_add_ediv (S[k]?.getD 0 - g * V[k]?.getD 0 + e)
 generalize (65536 : Int) ^ k = p at *
 generalize (S[k]?.getD 0 - g * V[k]?.getD 0 + e) % 65536 = d at *
 generalize (S[k]?.getD 0 - g * V[k]?.getD 0 + e) / 65536 = f at *
 generalize S[k]?.getD 0 = x at *
 generalize V[k]?.getD 0 = y at *
 generalize val (List.take k S) = a at *
 generalize val (List.take k V) = b at *
 grind
theorem addback_step {S2 S3 V : List Int} {k : Nat} {c : Int} (hl : k < S3.length) (hs : S3[k]?.getD 0 = S2[k]?.getD 0) (hv : val (S3.take k) + 65536 ^ k * c = val (S2.take k) + val (V.take k)) :
 val ((S3.set k ((S3[k]?.getD 0 + V[k]?.getD 0 + c) % 65536)).take (k + 1)) + 65536 ^ (k + 1) * ((S3[k]?.getD 0 + V[k]?.getD 0 + c) / 65536) = val (S2.take (k + 1)) + val (V.take (k + 1)) := by
 rw [val_take_set hl, val_take_succ', val_take_succ', hs, Int.pow_succ]
 have := emod_add_ediv (S2[k]?.getD 0 + V[k]?.getD 0 + c)
 generalize (65536 : Int) ^ k = p at *
 generalize (S2[k]?.getD 0 + V[k]?.getD 0 + c) % 65536 = d at *
 generalize (S2[k]?.getD 0 + V[k]?.getD 0 + c) / 65536 = f at *
 generalize S2[k]?.getD 0 = x at *
 generalize V[k]?.getD 0 = y at *
 generalize val (List.take k S2) = a at *
 generalize val (List.take k V) = b at *
 grind
theorem digit_end {S S2 V : List Int} {n : Nat} {g e : Int} (hS : S.length = n + 1) (hS2 : S2.length = n + 1) (hL : Lm S2) (hV : Lm V) (hVl : V.length = n) (hs : S2[n]?.getD 0 = S[n]?.getD 0)
 (hv : val (S2.take n) + 65536 ^ n * e = val (S.take n) - g * val (V.take n)) (h1 : val S < (g + 1) * val V) (h2 : g * val V < val S + val V) :
 (S2[n]?.getD 0 + e = 0 ∧ val (S2.set n 0) = val S - g * val V ∧ 0 ≤ val S - g * val V ∧ val S - g * val V < val V) ∨
 (S2[n]?.getD 0 + e = -1 ∧ val (S2.take n) = val S - g * val V + 65536 ^ n ∧ val S - g * val V < 0 ∧ -(val V) < val S - g * val V) := by
 have hb := take_bd hL (m := n) (by omega)
 have hVb := val_lt hV
 have hVn := val_nonneg hV
 rw [hVl] at hVb
 have hSs := val_take_succ' S n
 rw [take_all (by omega)] at hSs
 rw [take_all (X := V) (by omega)] at hv
 have hset : val (S2.set n 0) = val (S2.take n) := by
  have h := val_take_set (l := S2) (k := n) (by omega) 0
  rw [take_all (by simp; omega)] at h
  rw [h]; omega
 have hX : val (S2.take n) + 65536 ^ n * (S2[n]?.getD 0 + e) = val S - g * val V := by rw [hs, hSs]; grind
 rw [hset]
 have h3 : (g + 1) * val V = g * val V + val V := by grind
 generalize S2[n]?.getD 0 + e = d at *
 have hp := pow_pos' n
 generalize (65536 : Int) ^ n = p at *
 have hd1 : d ≤ 0 := by
  apply Int.not_lt.1; intro hd
  have : p * 1 ≤ p * d := Int.mul_le_mul_of_nonneg_left (by omega) (by omega)
  omega
 have hd2 : -1 ≤ d := by
  apply Int.not_lt.1; intro hd
  have : p * d ≤ p * (-2) := Int.mul_le_mul_of_nonneg_left (by omega) (by omega)
  omega
 obtain rfl | rfl : d = 0 ∨ d = -1 := by omega
 · left; refine ⟨rfl, ?_, ?_, ?_⟩ <;> omega
 · right; refine ⟨rfl, ?_, ?_, ?_⟩ <;> omega
theorem addback_end {S2 S3 V : List Int} {n : Nat} {c r : Int} (hS3 : S3.length = n + 1) (hL : Lm S3) (hVl : V.length = n) (hc0 : 0 ≤ c) (hc1 : c ≤ 1)
 (hv : val (S3.take n) + 65536 ^ n * c = val (S2.take n) + val (V.take n)) (h2 : val (S2.take n) = r - val V + 65536 ^ n) (hr0 : 0 ≤ r) : c = 1 ∧ val (S3.set n 0) = r := by
 have hb := take_bd hL (m := n) (by omega)
 rw [take_all (X := V) (by omega), h2] at hv
 have hset : val (S3.set n 0) = val (S3.take n) := by
  have h := val_take_set (l := S3) (k := n) (by omega) 0
  rw [take_all (by simp; omega)] at h
  rw [h]; omega
 rw [hset]
 have hp := pow_pos' n
 generalize (65536 : Int) ^ n = p at *
 obtain rfl | rfl : c = 0 ∨ c = 1 := by omega
 · omega
 · exact ⟨rfl, by omega⟩
end Go.WM
namespace Go.WM
theorem dround_lt {A S : List Int} {V : Int} {i : Nat} (hA : Lm A) (hlt : val S < V) : val (A[i]?.getD 0 :: S) < 65536 * V := by
 have h := (hA.getD i).2
 show A[i]?.getD 0 + 65536 * val S < _
 omega
theorem dround_step {A S Q S' : List Int} {V U0 q : Int} {i : Nat} (hAl : A.length = i + 1) (hQ : i < Q.length)
 (hv : U0 = val A + 65536 ^ (i + 1) * (val S + V * val (Q.drop (i + 1)))) (hq : q = val (A[i]?.getD 0 :: S) / V) (hS' : val S' = val (A[i]?.getD 0 :: S) % V) :
 U0 = val (A.take i) + 65536 ^ i * (val S' + V * val ((Q.set i q).drop i)) := by
 have h1 := val_take_succ (l := A) (k := i) (by omega)
 rw [List.take_of_length_le (by omega)] at h1
 have h2 := val_drop (l := Q.set i q) (k := i) (by simpa using hQ)
 rw [getD_set, if_pos ⟨rfl, by simpa using hQ⟩, drop_set_lt (m := i) (k := i + 1) (by omega)] at h2
 have h3 := Int.mul_ediv_add_emod (val (A[i]?.getD 0 :: S)) V
 rw [← hq, ← hS'] at h3
 simp only [val] at h3
 rw [h2, hv, h1, Int.pow_succ]
 generalize val (A.take i) = a at *
 generalize (65536 : Int) ^ i = p at *
 generalize A[i]?.getD 0 = x at *
 generalize val S = s at *
 generalize val S' = s' at *
 generalize val (Q.drop (i + 1)) = D at *
 have e : x = V * q + s' - 65536 * s := by omega
 subst e
 grind
theorem dtop {Y Z : List Int} {k : Nat} {P : Int} (hY : Lm Y) (hYl : Y.length = k + 2) (hZ : Lm Z) (hZl : Z.length = k + 3) (hP : 0 < P) (hv : val Z = val Y * P) (h1 : 32768 ≤ Y[k + 1]?.getD 0 * P) (h2 : (Y[k + 1]?.getD 0 + 1) * P ≤ 65536) :
 val (Z.take (k + 2)) = val Y * P ∧ 32768 ≤ Z[k + 1]?.getD 0 ∧ 32768 * 65536 ^ (k + 1) ≤ val Y * P ∧ val Y * P < 65536 ^ (k + 2) := by
 have e1 := val_take_succ (l := Y) (k := k + 1) (by omega)
 rw [List.take_of_length_le (by omega)] at e1
 obtain ⟨b0, b1⟩ := take_bd hY (m := k + 1) (by omega)
 have e2 := val_take_succ (l := Z) (k := k + 2) (by omega)
 rw [List.take_of_length_le (by omega)] at e2
 have e3 : val (Z.take (k + 2)) = val (Z.take (k + 1)) + 65536 ^ (k + 1) * Z[k + 1]?.getD 0 := val_take_succ (l := Z) (k := k + 1) (by omega)
 obtain ⟨c0, c1⟩ := take_bd hZ (m := k + 2) (by omega)
 obtain ⟨d0, d1⟩ := take_bd hZ (m := k + 1) (by omega)
 obtain ⟨z0, z1⟩ := hZ.getD (k + 2)
 obtain ⟨y0, y1⟩ := hZ.getD (k + 1)
 have hp := pow_pos' (k + 1)
 have hp2 := pow_pos' (k + 2)
 have hpp : (65536 : Int) ^ (k + 2) = 65536 ^ (k + 1) * 65536 := Int.pow_succ _ _
 have hlo : 32768 * 65536 ^ (k + 1) ≤ val Y * P := by
  rw [e1, Int.add_mul]
  have a1 : 0 ≤ val (Y.take (k + 1)) * P := Int.mul_nonneg b0 (by omega)
  have a2 : 65536 ^ (k + 1) * 32768 ≤ 65536 ^ (k + 1) * (Y[k + 1]?.getD 0 * P) := Int.mul_le_mul_of_nonneg_left h1 (by omega)
  rw [← Int.mul_assoc] at a2
  omega
 have hhi : val Y * P < 65536 ^ (k + 2) := by
  have a1 : val Y * P < 65536 ^ (k + 1) * (Y[k + 1]?.getD 0 + 1) * P := Int.mul_lt_mul_of_pos_right (by rw [e1, Int.mul_add]; omega) hP
  have a2 : 65536 ^ (k + 1) * ((Y[k + 1]?.getD 0 + 1) * P) ≤ 65536 ^ (k + 1) * 65536 := Int.mul_le_mul_of_nonneg_left h2 (by omega)
  rw [← Int.mul_assoc] at a2
  omega
 have hz : Z[k + 2]?.getD 0 = 0 := by
  rcases (show Z[k + 2]?.getD 0 = 0 ∨ 1 ≤ Z[k + 2]?.getD 0 by omega) with h | h
  · exact h
  · have := Int.mul_le_mul_of_nonneg_left h (show (0 : Int) ≤ 65536 ^ (k + 2) by omega)
    omega
 rw [hz] at e2
 refine ⟨by omega, ?_, hlo, hhi⟩
 rcases (show 32768 ≤ Z[k + 1]?.getD 0 ∨ Z[k + 1]?.getD 0 + 1 ≤ 32768 by omega) with h | h
 · exact h
 · have := Int.mul_le_mul_of_nonneg_left h (show (0 : Int) ≤ 65536 ^ (k + 1) by omega)
   rw [Int.mul_add] at this
   omega
theorem pow_le15 {sh : Nat} (h : sh ≤ 15) : (2 : Int) ^ sh ≤ 32768 := by
 have : (2 : Int) ^ sh ≤ 2 ^ 15 := by exact_mod_cast Nat.pow_le_pow_right (by decide : 0 < 2) h
 simpa using this
theorem pow_pos2 (sh : Nat) : (0 : Int) < 2 ^ sh := Int.pow_pos (by decide)
theorem pow_up {sh : Nat} (h : sh ≤ 15) {y : Int} (hy : y * 2 ^ sh < 65536) : (y + 1) * 2 ^ sh ≤ 65536 := by
 obtain ⟨e, he⟩ : ∃ e : Int, (65536 : Int) = e * 2 ^ sh := ⟨2 ^ (16 - sh), by rw [← Int.pow_add, show 16 - sh + sh = 16 by omega]; rfl⟩
 rw [he] at hy ⊢
 have hp := pow_pos2 sh
 exact Int.mul_le_mul_of_nonneg_right (by have := Int.lt_of_mul_lt_mul_right hy (by omega); omega) (by omega)
theorem dstart {X Z : List Int} {k r sh : Nat} {V : Int} (hX : Lm X) (hXl : X.length = k + 2 + r) (hZ : Lm Z) (hZl : Z.length = k + 2 + r + 1) (hsh : sh ≤ 15) (hv : val Z = val X * 2 ^ sh) (hV : 32768 * 65536 ^ (k + 1) ≤ V) :
 val (Z.drop (r + 1)) < V := by
 have h := val_split Z (r + 1)
 rw [Nat.min_eq_left (by omega)] at h
 obtain ⟨b0, b1⟩ := take_bd hZ (m := r + 1) (by omega)
 have hx := val_lt hX
 rw [hXl] at hx
 have h1 : val X * 2 ^ sh < 65536 ^ (k + 2 + r) * 32768 := by
  have := pow_le15 hsh
  have h0 := val_nonneg hX
  have := Int.mul_le_mul_of_nonneg_left this (show 0 ≤ val X from h0)
  omega
 have e : (65536 : Int) ^ (k + 2 + r) * 32768 = 65536 ^ (r + 1) * (32768 * 65536 ^ (k + 1)) := by
  rw [show k + 2 + r = (r + 1) + (k + 1) by omega, Int.pow_add]; grind
 refine Int.lt_of_lt_of_le ?_ hV
 refine Int.lt_of_mul_lt_mul_left (a := 65536 ^ (r + 1)) ?_ (by have := pow_pos' (r + 1); omega)
 omega
theorem dend {Q S : List Int} {U V n m P : Int} (hP : 0 < P) (_ : 0 < m) (hU : U = val S + V * val Q) (h0 : 0 ≤ val S) (h1 : val S < V) (hUn : U = n * P) (hVm : V = m * P) :
 val Q = n / m ∧ val S / P = n % m := by
 obtain ⟨hq, hr⟩ := div_unique (a := U) (b := V) (q := val Q) (r := val S) (by rw [hU, Int.mul_comm]; omega) h0 h1
 rw [hUn, hVm] at hq hr
 refine ⟨by rw [hq, Int.mul_ediv_mul_of_pos_left _ _ hP], ?_⟩
 rw [hr, Int.mul_comm n P, Int.mul_comm m P, Int.mul_emod_mul_of_pos _ _ hP, Int.mul_ediv_cancel_left _ (by omega)]
theorem val_take_small {S : List Int} {n : Nat} (hS : Lm S) (hl : S.length = n + 1) (h : val S < 65536 ^ n) : val (S.take n) = val S := by
 have e := val_take_succ (l := S) (k := n) (by omega)
 rw [List.take_of_length_le (by omega)] at e
 obtain ⟨c0, c1⟩ := take_bd hS (m := n) (by omega)
 obtain ⟨z0, z1⟩ := hS.getD n
 have hp := pow_pos' n
 rcases (show S[n]?.getD 0 = 0 ∨ 1 ≤ S[n]?.getD 0 by omega) with h' | h'
 · rw [h'] at e; omega
 · have := Int.mul_le_mul_of_nonneg_left h' (show (0 : Int) ≤ 65536 ^ n by omega)
   omega
end Go.WM
namespace Go.WM
open Go.Lib
theorem np65 (k : Nat) : ((65536 ^ k : Nat) : Int) = (65536 : Int) ^ k := by rw [Int.natCast_pow]; rfl
theorem p5 (k : Nat) : 65536 ^ k ≤ 10 ^ (5 * k) := by rw [Nat.pow_mul]; exact Nat.pow_le_pow_left (by decide) k
def dstep (a : Nat) (c : UInt8) : Nat := a * 10 + (c.toNat - 48)
def dvFrom (a : Nat) (l : List UInt8) : Nat := l.foldl dstep a
def dv (l : List UInt8) : Nat := dvFrom 0 l
def isDig (c : UInt8) : Bool := decide (48 ≤ c.toNat) && decide (c.toNat ≤ 57)
def decOK (l : List UInt8) : Bool := l.all isDig && (decide (l = [48]) || !l.isEmpty && !decide (l.head? = some 48))
theorem dvFrom_nil (a : Nat) : dvFrom a [] = a := by unfold dvFrom; exact List.foldl_nil
theorem dvFrom_cons (a : Nat) (c : UInt8) (l : List UInt8) : dvFrom a (c :: l) = dvFrom (dstep a c) l := by unfold dvFrom; exact List.foldl_cons ..
theorem dvFrom_append (a : Nat) (l m : List UInt8) : dvFrom a (l ++ m) = dvFrom (dvFrom a l) m := by unfold dvFrom; exact List.foldl_append
theorem dvFrom_eq (l : List UInt8) : ∀ a, dvFrom a l = a * 10 ^ l.length + dvFrom 0 l := by
 induction l with
 | nil => intro a; rw [dvFrom_nil, dvFrom_nil, List.length_nil, Nat.pow_zero]; omega
 | cons c l ih =>
  intro a
  rw [dvFrom_cons, dvFrom_cons, ih (dstep a c), ih (dstep 0 c), List.length_cons, Nat.pow_succ]
  generalize 10 ^ l.length = P
  generalize dvFrom 0 l = D
  unfold dstep
  generalize c.toNat - 48 = x
  rw [Nat.add_mul, Nat.mul_assoc, Nat.mul_comm 10 P, Nat.zero_mul, Nat.zero_add, Nat.add_assoc]
theorem dv_cons (c : UInt8) (l : List UInt8) : dv (c :: l) = (c.toNat - 48) * 10 ^ l.length + dv l := by
 unfold dv
 rw [dvFrom_cons, dvFrom_eq]
 unfold dstep
 rw [Nat.zero_mul, Nat.zero_add]
theorem dv_nil : dv [] = 0 := by unfold dv; rw [dvFrom_nil]
theorem dv_append (l m : List UInt8) : dv (l ++ m) = dv l * 10 ^ m.length + dv m := by
 unfold dv
 rw [dvFrom_append, dvFrom_eq m (dvFrom 0 l)]
theorem dv_snoc (l : List UInt8) (c : UInt8) : dv (l ++ [c]) = dv l * 10 + (c.toNat - 48) := by
 rw [dv_append, dv_cons, dv_nil]; simp
theorem dv_lt (l : List UInt8) (h : l.all isDig = true) : dv l < 10 ^ l.length := by
 induction l with
 | nil => rw [dv_nil]; simp
 | cons c l ih =>
  simp only [List.all_cons, Bool.and_eq_true] at h
  have h1 := ih h.2
  have hc : c.toNat ≤ 57 := by have := h.1; simp [isDig] at this; omega
  rw [dv_cons, List.length_cons, Nat.pow_succ]
  have : (c.toNat - 48) * 10 ^ l.length ≤ 9 * 10 ^ l.length := Nat.mul_le_mul_right _ (by omega)
  omega
theorem decDigits_big {u : Nat} (h : ¬ u < 10) : decDigits u = decDigits (u / 10) ++ [UInt8.ofNat (48 + u % 10)] := by rw [decDigits, dif_neg h]
theorem decOK_unique (l : List UInt8) (h : decOK l = true) : decDigits (dv l) = l := by
 have hind : ∀ n, ∀ l : List UInt8, l.length = n → l.all isDig = true → l ≠ [] → l.head? ≠ some 48 → decDigits (dv l) = l ∧ 0 < dv l := by
  intro n
  induction n with
  | zero => intro l hl _ hne; exact absurd (List.length_eq_zero_iff.1 hl) hne
  | succ n ih =>
   intro l hl hall hne hhead
   obtain ⟨a, c, rfl⟩ : ∃ a c, l = a ++ [c] := ⟨l.dropLast, l.getLast hne, (List.dropLast_concat_getLast hne).symm⟩
   rw [List.all_append, Bool.and_eq_true] at hall
   have hc := hall.2
   simp only [List.all_cons, List.all_nil, Bool.and_true, isDig, Bool.and_eq_true, decide_eq_true_eq] at hc
   have hcc : UInt8.ofNat (48 + (c.toNat - 48)) = c := by
    rw [show 48 + (c.toNat - 48) = c.toNat by omega]; exact UInt8.ofNat_toNat
   rw [dv_snoc]
   by_cases ha : a = []
   · subst ha
     have h0 : 0 < c.toNat - 48 := by
      rcases Nat.eq_zero_or_pos (c.toNat - 48) with e | e
      · exfalso; apply hhead
        have : c.toNat = 48 := by omega
        have : c = 48 := UInt8.toNat_inj.1 (by simpa using this)
        simp [this]
      · exact e
     rw [dv_nil, Nat.zero_mul, Nat.zero_add, List.nil_append]
     refine ⟨?_, h0⟩
     rw [decDigits_one (by omega), hcc]
   · obtain ⟨h1, h2⟩ := ih a (by simpa using hl) hall.1 ha (by
      intro e; apply hhead; rw [List.head?_append, e]; rfl)
     refine ⟨?_, by omega⟩
     rw [decDigits_big (by omega), show (dv a * 10 + (c.toNat - 48)) / 10 = dv a by omega, h1, show (dv a * 10 + (c.toNat - 48)) % 10 = c.toNat - 48 by omega, hcc]
 unfold decOK at h
 simp only [Bool.and_eq_true, Bool.or_eq_true, decide_eq_true_eq, Bool.not_eq_true', List.isEmpty_eq_false_iff, decide_eq_false_iff_not] at h
 rcases h with ⟨hall, rfl | ⟨hne, hh⟩⟩
 · rw [dv_cons, dv_nil]; simp; rw [decDigits_one (by omega)]; rfl
 · exact (hind l.length l rfl hall hne hh).1
def Gr (l : List Int) : Prop := ∀ x, x ∈ l → 0 ≤ x ∧ x < 10000
theorem Gr.drop {l : List Int} (h : Gr l) (k : Nat) : Gr (l.drop k) := fun x hx => h x (List.mem_of_mem_drop hx)
theorem Gr.getD {l : List Int} (h : Gr l) (k : Nat) : 0 ≤ l[k]?.getD 0 ∧ l[k]?.getD 0 < 10000 := by
 by_cases hk : k < l.length
 · simp [hk]; exact h _ (List.getElem_mem hk)
 · simp [List.getElem?_eq_none (Nat.le_of_not_lt hk)]
theorem Gr.nil : Gr [] := fun _ h => by cases h
theorem decFrom_all (a : Nat) (l : List UInt8) (h : l.all isDig = true) : decFrom a l = some (dvFrom a l) := by
 induction l generalizing a with
 | nil => rfl
 | cons c l ih =>
  simp only [List.all_cons, Bool.and_eq_true] at h
  have hc := h.1
  simp only [isDig, Bool.and_eq_true, decide_eq_true_eq] at hc
  simp only [decFrom, digitVal, if_pos hc, dvFrom_cons]
  exact ih (dstep a c) h.2
theorem atoi_all (l : List UInt8) (hne : l ≠ []) (h : l.all isDig = true) : atoi l = some (dv l : Int) := by
 cases l with
 | nil => exact absurd rfl hne
 | cons c l =>
  have hc := h
  simp only [List.all_cons, Bool.and_eq_true, isDig, decide_eq_true_eq] at hc
  have h1 : (c == 45) = false := by
   rw [beq_eq_false_iff_ne]; intro e; subst e; have := hc.1.1; simp at this
  have h2 : (c == 43) = false := by
   rw [beq_eq_false_iff_ne]; intro e; subst e; have := hc.1.1; simp at this
  simp only [atoi, h1, h2, Bool.false_eq_true, if_false, decNat, List.isEmpty_cons, decFrom_all 0 _ h]
  rfl
theorem decOK_bad {l : List UInt8} {k : Nat} (hk : k < l.length) (h : isDig l[k] = false) : decOK l = false := by
 unfold decOK
 have : l.all isDig = false := by
  rw [List.all_eq_false]
  exact ⟨l[k], List.getElem_mem hk, by rw [h]; decide⟩
 rw [this, Bool.false_and]
theorem decOK_all {l : List UInt8} (h : l.all isDig = true) : decOK l = (decide (l = [48]) || !l.isEmpty && !decide (l.head? = some 48)) := by
 unfold decOK; rw [h, Bool.true_and]
theorem all_snoc {l : List UInt8} {k : Nat} (hk : k < l.length) (h : (l.take k).all isDig = true) (hd : isDig l[k] = true) : (l.take (k + 1)).all isDig = true := by
 rw [List.take_succ_eq_append_getElem hk, List.all_append, h, List.all_cons, hd]; rfl
end Go.WM
