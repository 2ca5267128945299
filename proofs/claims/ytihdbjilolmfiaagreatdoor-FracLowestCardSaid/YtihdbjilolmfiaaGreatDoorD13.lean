import Derived.Test.YtihdbjilolmfiaaGreatDoorD02
import Derived.Test.YtihdbjilolmfiaaGreatDoorD01
import Derived.Laws.CopyRow
namespace Go.WR
open Go.RowKit
variable {n : Nat} {P : Program}
def noLimb (cs : Array Value) : Bool := cs.toList.all fun v => match v with | .int .u16 _ => false | _ => true
theorem noLimb_at {cs : Array Value} (h : noLimb cs = true) (o : Nat) (x : Int) : cs[o]? ≠ some (.int .u16 x) := by
 intro e
 unfold noLimb at h
 rw [List.all_eq_true] at h
 have := h (.int .u16 x) (by simpa using Array.mem_of_getElem? e)
 simp at this
def BoxAt (t16 : TypeId) (W : World) (g : Nat) : Prop := ∃ cs T, W.heap[g]? = some (.cells cs T) ∧ T ≠ t16 ∧ noLimb cs = true
structure Kept (t16 : TypeId) (W W' : World) : Prop where
 size : W.heap.size ≤ W'.heap.size
 block : ∀ g, g < W.heap.size → ¬ BoxAt t16 W g → W'.heap[g]? = W.heap[g]?
theorem Kept.refl (t16 : TypeId) (W : World) : Kept t16 W W := ⟨Nat.le_refl _, fun _ _ _ => rfl⟩
theorem Kept.trans {t16 : TypeId} {A B C : World} (h : Kept t16 A B) (k : Kept t16 B C) : Kept t16 A C :=
 ⟨Nat.le_trans h.size k.size, fun g hg hn => by
  have e := h.block g hg hn
  exact (k.block g (Nat.lt_of_lt_of_le hg h.size) (fun ⟨cs, T, h1, h2⟩ => hn ⟨cs, T, e.symm.trans h1, h2⟩)).trans e⟩
theorem kept_below {W W' : World} (h : Below W.heap.size W W') (t16 : TypeId) : Kept t16 W W' := ⟨h.size, fun g hg _ => h.block g hg⟩
structure SK (t16 : TypeId) where
 K : Value → World → Prop
 st : ∀ v W W', Kept t16 W W' → K v W → K v W'
inductive Kn (t16 : TypeId) where
 | any
 | val (v : Value)
 | k (s : SK t16)
variable {t16 : TypeId}
def KW : Kn t16 → Value → World → Prop
 | .any, _, _ => True
 | .val u, v, _ => v = u
 | .k s, v, W => s.K v W
theorem KW.kept {k : Kn t16} {v : Value} {W W' : World} (hk : Kept t16 W W') (h : KW k v W) : KW k v W' := by
 cases k with
 | any => trivial
 | val u => exact h
 | k s => exact s.st v W W' hk h
def kn (ks : List (Kn t16)) (i : Nat) : Kn t16 := (ks[i]?).getD .any
def splice (c : Array Value) (off : Nat) (xs : Array Value) : Array Value := (c.toList.take off ++ xs.toList ++ c.toList.drop (off + xs.size)).toArray
theorem splice_size {c xs : Array Value} {off : Nat} (h : off + xs.size ≤ c.size) : (splice c off xs).size = c.size := by
 unfold splice; simp; omega
theorem splice_noLimb {c xs : Array Value} {off : Nat} (hc : noLimb c = true) (hx : noLimb xs = true) : noLimb (splice c off xs) = true := by
 unfold noLimb at *
 rw [List.all_eq_true] at *
 intro v hv
 unfold splice at hv
 simp only [List.mem_append] at hv
 rcases hv with (h | h) | h
 · exact hc v (List.mem_of_mem_take h)
 · exact hx v h
 · exact hc v (List.mem_of_mem_drop h)
inductive Part where
 | c (xs : Array Value)
 | s (j : Nat)
def Part.cells (u : Nat → Value) : Part → Array Value
 | .c xs => xs
 | .s j => (u j).cells
def parts (l : List Part) (u : Nat → Value) : Array Value := l.foldl (fun a p => a ++ p.cells u) #[]
def Part.src : Part → Option Nat
 | .c _ => none
 | .s j => some j
structure Bx where
 T : TypeId
 al : Option Nat
 blk : Nat
 val : Nat → Value
 size : Nat
 ini : List Part
 put : List (Nat × Nat × Nat)
def cont (b : Bx) (dn : Nat → Bool) (u : Nat → Value) : Array Value := b.put.foldl (fun c s => if dn s.1 = true then splice c s.2.1 (u s.2.2).cells else c) (parts b.ini u)
def contAll (b : Bx) (u : Nat → Value) : Array Value := b.put.foldl (fun c s => splice c s.2.1 (u s.2.2).cells) (parts b.ini u)
def laid (b : Bx) (dn : Nat → Bool) : Prop := ∀ i, b.al = some i → dn i = true
def updV (u : Nat → Value) (i : Nat) (v : Value) : Nat → Value := fun j => if j = i then v else u j
theorem updV_same (u : Nat → Value) (i : Nat) (v : Value) : updV u i v i = v := if_pos rfl
theorem updV_other {u : Nat → Value} {i j : Nat} {v : Value} (h : j ≠ i) : updV u i v j = u j := if_neg h
theorem parts_upd {l : List Part} {u : Nat → Value} {i : Nat} {v : Value} (h : ∀ p ∈ l, p.src ≠ some i) : parts l (updV u i v) = parts l u := by
 unfold parts
 have : ∀ (l : List Part) (a : Array Value), (∀ p ∈ l, p.src ≠ some i) → l.foldl (fun a p => a ++ p.cells (updV u i v)) a = l.foldl (fun a p => a ++ p.cells u) a := by
  intro l
  induction l with
  | nil => intros; rfl
  | cons p l ih =>
   intro a h
   simp only [List.foldl_cons]
   have e : p.cells (updV u i v) = p.cells u := by
    cases p with
    | c xs => rfl
    | s j =>
     have : j ≠ i := fun e => h (.s j) (by simp) (by rw [e]; rfl)
     show (updV u i v j).cells = _
     rw [updV_other this]; rfl
   rw [e]
   exact ih _ fun q hq => h q (List.mem_cons_of_mem _ hq)
 exact this l _ h
def waits (ops : Array Oper) (j i : Nat) : Bool := match ops[j]? with | some o => o.after.any fun e => Region.binds .any e && (e.on == i) | none => false
theorem waits_spec {ops : Array Oper} {j i : Nat} (h : waits ops j i = true) : ∃ o, ops[j]? = some o ∧ ∃ e ∈ o.after, Region.binds .any e = true ∧ e.on = i := by
 unfold waits at h
 cases ho : ops[j]? with
 | none => rw [ho] at h; cases h
 | some o =>
  rw [ho] at h
  simp only at h
  rw [← Array.any_toList, List.any_eq_true] at h
  obtain ⟨e, he, h⟩ := h
  simp only [Bool.and_eq_true, beq_iff_eq] at h
  exact ⟨o, rfl, e, by simpa using he, h⟩
def unwritten (ops : Array Oper) (i k : Nat) : Bool := (List.range ops.size).all fun j => dstOf ops j != some k || j == i || waits ops j i
def sepB (bxs : List Bx) : Bool := (List.range bxs.length).all fun k => (List.range bxs.length).all fun k' => match bxs[k]?, bxs[k']? with
 | some b, some b' => (k == k' || b.al.isNone || b.al != b'.al) && (b'.put.all fun s => b.al != some s.1) && (k == k' || b.put.all fun s => b'.put.all fun s' => s.1 != s'.1)
 | _, _ => true
def chainB (ops : Array Oper) : List (Nat × Nat × Nat) → Bool
 | [] => true
 | s :: l => (l.all fun s' => waits ops s'.1 s.1) && chainB ops l
def depB (ops : Array Oper) (bxs : List Bx) : Bool := bxs.all fun b =>
 (b.ini.all fun p => match p.src with | none => true | some j => match b.al with | some i => waits ops i j | none => false) &&
 (b.put.all fun s => waits ops s.1 s.2.2 && (match b.al with | some i => waits ops s.1 i | none => true)) && chainB ops b.put && (match b.al with | some i => decide (i < ops.size) | none => true)
structure Sep (ops : Array Oper) (bxs : List Bx) : Prop where
 al : ∀ (k : Nat) (k' : Nat) (b : Bx) (b' : Bx) (i : Nat), bxs[k]? = some b → bxs[k']? = some b' → b.al = some i → b'.al = some i → k = k'
 alput : ∀ (k : Nat) (k' : Nat) (b : Bx) (b' : Bx) (i : Nat) (s : Nat × Nat × Nat), bxs[k]? = some b → bxs[k']? = some b' → b.al = some i → s ∈ b'.put → s.1 ≠ i
 put : ∀ (k : Nat) (k' : Nat) (b : Bx) (b' : Bx) (s : Nat × Nat × Nat) (s' : Nat × Nat × Nat), bxs[k]? = some b → bxs[k']? = some b' → s ∈ b.put → s' ∈ b'.put → s.1 = s'.1 → k = k'
 src : ∀ (k : Nat) (b : Bx) (s : Nat × Nat × Nat), bxs[k]? = some b → s ∈ b.put → waits ops s.1 s.2.2 = true
 pal : ∀ (k : Nat) (b : Bx) (s : Nat × Nat × Nat) (i : Nat), bxs[k]? = some b → s ∈ b.put → b.al = some i → waits ops s.1 i = true
 ini : ∀ (k : Nat) (b : Bx) (p : Part) (j : Nat), bxs[k]? = some b → p ∈ b.ini → p.src = some j → ∃ i, b.al = some i ∧ waits ops i j = true
 chain : ∀ (k : Nat) (b : Bx), bxs[k]? = some b → chainB ops b.put = true
 alt : ∀ (k : Nat) (b : Bx) (i : Nat), bxs[k]? = some b → b.al = some i → i < ops.size
theorem sep_of {ops : Array Oper} {bxs : List Bx} (h : sepB bxs = true) (hd : depB ops bxs = true) : Sep ops bxs := by
 have hs : ∀ (k : Nat) (k' : Nat) (b : Bx) (b' : Bx), bxs[k]? = some b → bxs[k']? = some b' → ((k == k' || b.al.isNone || b.al != b'.al) && (b'.put.all fun s => b.al != some s.1) && (k == k' || b.put.all fun s => b'.put.all fun s' => s.1 != s'.1)) = true := by
  intro k k' b b' hk hk'
  unfold sepB at h
  rw [List.all_eq_true] at h
  have h1 := h k (List.mem_range.2 (List.getElem?_eq_some_iff.1 hk).1)
  rw [List.all_eq_true] at h1
  have h2 := h1 k' (List.mem_range.2 (List.getElem?_eq_some_iff.1 hk').1)
  rw [hk, hk'] at h2
  exact h2
 have hdp : ∀ (k : Nat) (b : Bx), bxs[k]? = some b → ((b.ini.all fun p => match p.src with | none => true | some j => match b.al with | some i => waits ops i j | none => false) &&
  (b.put.all fun s => waits ops s.1 s.2.2 && (match b.al with | some i => waits ops s.1 i | none => true)) && chainB ops b.put && (match b.al with | some i => decide (i < ops.size) | none => true)) = true := by
  intro k b hk
  unfold depB at hd
  rw [List.all_eq_true] at hd
  exact hd b (List.mem_of_getElem? hk)
 refine ⟨?_, ?_, ?_, ?_, ?_, ?_, ?_, ?_⟩
 · intro k k' b b' i hk hk' h1 h2
   have := hs k k' b b' hk hk'
   simp only [Bool.and_eq_true] at this
   simpa [h1, h2] using this.1.1
 · intro k k' b b' i s hk hk' h1 h2 e
   have := hs k k' b b' hk hk'
   simp only [Bool.and_eq_true, List.all_eq_true] at this
   have := this.1.2 s h2
   rw [h1, e] at this
   simp at this
 · intro k k' b b' s s' hk hk' h1 h2 e
   have := hs k k' b b' hk hk'
   simp only [Bool.and_eq_true, Bool.or_eq_true, beq_iff_eq, List.all_eq_true] at this
   rcases this.2 with h3 | h3
   · exact h3
   · have := h3 s h1 s' h2
     rw [e] at this
     simp at this
 · intro k b s hk h1
   have := hdp k b hk
   simp only [Bool.and_eq_true, List.all_eq_true] at this
   exact (this.1.1.2 s h1).1
 · intro k b s i hk h1 h2
   have := hdp k b hk
   simp only [Bool.and_eq_true, List.all_eq_true] at this
   have := (this.1.1.2 s h1).2
   rw [h2] at this
   exact this
 · intro k b p j hk h1 h2
   have := hdp k b hk
   simp only [Bool.and_eq_true, List.all_eq_true] at this
   have := this.1.1.1 p h1
   rw [h2] at this
   cases ha : b.al with
   | none => rw [ha] at this; cases this
   | some i => rw [ha] at this; exact ⟨i, rfl, this⟩
 · intro k b hk
   have := hdp k b hk
   simp only [Bool.and_eq_true] at this
   exact this.1.2
 · intro k b i hk ha
   have := hdp k b hk
   simp only [Bool.and_eq_true] at this
   have := this.2
   rw [ha] at this
   exact of_decide_eq_true this
structure Meet (ops : Array Oper) (ks : List (Kn t16)) (bxs : List Bx) (S : List Nat) (n₀ : Nat) (w : World) (a a' : Act) (u : Nat → Value) (lc : Nat → Nat) (W : World) (i : Nat) : Prop where
 size : a'.tmps.size = a.tmps.size
 old : ∀ k, unwritten ops i k = true → a'.tmps.getD k undef = a.tmps.getD k undef
 val : ∀ j s, waits ops i j = true → dstOf ops j = some s → a'.tmps.getD s undef = u j
 knd : ∀ j, waits ops i j = true → KW (kn ks j) (u j) W
 kept : Kept t16 w W
 below : Below n₀ w W
 oth : ∀ g, g < w.heap.size → g ∉ S → W.heap[g]? = w.heap[g]?
 fresh : ∀ (k : Nat) (b : Bx), bxs[k]? = some b → (b.al.all fun j => waits ops i j) = true → (b.put.all fun s => waits ops s.1 i) = true → W.heap[lc k]? = some (.cells (parts b.ini u) b.T)
 full : ∀ (k : Nat) (b : Bx), bxs[k]? = some b → (b.al.all fun j => waits ops i j) = true → (b.put.all fun s => waits ops i s.1) = true → W.heap[lc k]? = some (.cells (contAll b u) b.T)
 loc : ∀ (k : Nat) (b : Bx) (j : Nat), bxs[k]? = some b → b.al = some j → waits ops i j = true → u j = b.val (lc k)
 locO : ∀ (k : Nat) (b : Bx), bxs[k]? = some b → b.al = none → lc k = b.blk
theorem Meet.dep {ops : Array Oper} {ks : List (Kn t16)} {bxs : List Bx} {S : List Nat} {n₀ : Nat} {w W : World} {a a' : Act} {u : Nat → Value} {lc : Nat → Nat} {i : Nat} (h : Meet ops ks bxs S n₀ w a a' u lc W i) (j s : Nat) (hw : waits ops i j = true) (hd : dstOf ops j = some s) : KW (kn ks j) (a'.tmps.getD s undef) W := by
 rw [h.val j s hw hd]; exact h.knd j hw
structure Inv (ops : Array Oper) (ks : List (Kn t16)) (bxs : List Bx) (S : List Nat) (n₀ : Nat) (w : World) (dn : Nat → Bool) (u : Nat → Value) (lc : Nat → Nat) (W : World) : Prop where
 kept : Kept t16 w W
 below : Below n₀ w W
 oth : ∀ g, g < w.heap.size → g ∉ S → W.heap[g]? = w.heap[g]?
 knd : ∀ i, dn i = true → KW (kn ks i) (u i) W
 clo : ∀ i j, dn i = true → waits ops i j = true → dn j = true
 box : ∀ (k : Nat) (b : Bx), bxs[k]? = some b → laid b dn → W.heap[lc k]? = some (.cells (cont b dn u) b.T) ∧ (cont b dn u).size = b.size ∧ noLimb (cont b dn u) = true
 loc : ∀ (k : Nat) (b : Bx) (j : Nat), bxs[k]? = some b → b.al = some j → dn j = true → u j = b.val (lc k) ∧ w.heap.size ≤ lc k
 locO : ∀ (k : Nat) (b : Bx), bxs[k]? = some b → b.al = none → lc k = b.blk
 apart : ∀ (k : Nat) (k' : Nat) (b : Bx) (b' : Bx), bxs[k]? = some b → bxs[k']? = some b' → k ≠ k' → laid b dn → laid b' dn → lc k ≠ lc k'
structure BxOK (t16 : TypeId) (bxs : List Bx) (S : List Nat) (n₀ : Nat) (w : World) : Prop where
 ty : ∀ (k : Nat) (b : Bx), bxs[k]? = some b → b.T ≠ t16
 old : ∀ (k : Nat) (b : Bx), bxs[k]? = some b → b.al = none → b.blk < w.heap.size ∧ n₀ ≤ b.blk ∧ (∀ u, w.heap[b.blk]? = some (.cells (parts b.ini u) b.T) ∧ (parts b.ini u).size = b.size ∧ noLimb (parts b.ini u) = true) ∧ (b.put = [] ∨ b.blk ∈ S)
 oldne : ∀ (k : Nat) (k' : Nat) (b : Bx) (b' : Bx), bxs[k]? = some b → bxs[k']? = some b' → b.al = none → b'.al = none → k ≠ k' → b.blk ≠ b'.blk
 fr : n₀ ≤ w.heap.size
section
variable {ops : Array Oper} {ks : List (Kn t16)} {bxs : List Bx} {S : List Nat} {n₀ : Nat} {w W : World} {dn : Nat → Bool} {u : Nat → Value} {lc : Nat → Nat}
theorem cont_other {b : Bx} {i : Nat} {v : Value} (hi : dn i = false) (hput : ∀ s ∈ b.put, s.1 ≠ i) (hsrc : ∀ s ∈ b.put, dn s.1 = true → dn s.2.2 = true) (hini : ∀ p ∈ b.ini, p.src ≠ some i) : cont b (upd dn i) (updV u i v) = cont b dn u := by
 unfold cont
 rw [parts_upd hini]
 have : ∀ (l : List (Nat × Nat × Nat)) (c : Array Value), (∀ s ∈ l, s.1 ≠ i) → (∀ s ∈ l, dn s.1 = true → dn s.2.2 = true) →
  l.foldl (fun c s => if upd dn i s.1 = true then splice c s.2.1 (updV u i v s.2.2).cells else c) c = l.foldl (fun c s => if dn s.1 = true then splice c s.2.1 (u s.2.2).cells else c) c := by
  intro l
  induction l with
  | nil => intros; rfl
  | cons s l ih =>
   intro c h1 h2
   simp only [List.foldl_cons]
   have hs := h1 s (by simp)
   rw [upd_other hs]
   have e : (if dn s.1 = true then splice c s.2.1 (updV u i v s.2.2).cells else c) = (if dn s.1 = true then splice c s.2.1 (u s.2.2).cells else c) := by
    by_cases hd : dn s.1 = true
    · have := h2 s (by simp) hd
      have hne : s.2.2 ≠ i := fun e => by rw [e, hi] at this; cases this
      rw [updV_other hne]
    · rw [if_neg hd, if_neg hd]
   rw [e]
   exact ih _ (fun q hq => h1 q (List.mem_cons_of_mem _ hq)) (fun q hq => h2 q (List.mem_cons_of_mem _ hq))
 exact this _ _ hput hsrc
theorem chain_split {l1 l2 : List (Nat × Nat × Nat)} {s : Nat × Nat × Nat} (h : chainB ops (l1 ++ s :: l2) = true) : ∀ s' ∈ l2, waits ops s'.1 s.1 = true := by
 induction l1 with
 | nil =>
  simp only [List.nil_append, chainB, Bool.and_eq_true, List.all_eq_true] at h
  exact h.1
 | cons t l1 ih =>
  simp only [List.cons_append, chainB, Bool.and_eq_true] at h
  exact ih h.2
theorem cont_none (b : Bx) (h : ∀ s ∈ b.put, dn s.1 = false) : cont b dn u = parts b.ini u := by
 unfold cont
 have : ∀ (l : List (Nat × Nat × Nat)) (c : Array Value), (∀ s ∈ l, dn s.1 = false) → l.foldl (fun c s => if dn s.1 = true then splice c s.2.1 (u s.2.2).cells else c) c = c := by
  intro l
  induction l with
  | nil => intros; rfl
  | cons s l ih =>
   intro c h
   simp only [List.foldl_cons]
   rw [if_neg (by rw [h s (by simp)]; decide)]
   exact ih _ fun q hq => h q (List.mem_cons_of_mem _ hq)
 exact this _ _ h
theorem cont_all (b : Bx) (h : ∀ s ∈ b.put, dn s.1 = true) : cont b dn u = contAll b u := by
 unfold cont contAll
 have : ∀ (l : List (Nat × Nat × Nat)) (c : Array Value), (∀ s ∈ l, dn s.1 = true) → l.foldl (fun c s => if dn s.1 = true then splice c s.2.1 (u s.2.2).cells else c) c = l.foldl (fun c s => splice c s.2.1 (u s.2.2).cells) c := by
  intro l
  induction l with
  | nil => intros; rfl
  | cons s l ih =>
   intro c h
   simp only [List.foldl_cons]
   rw [if_pos (h s (by simp))]
   exact ih _ fun q hq => h q (List.mem_cons_of_mem _ hq)
 exact this _ _ h
theorem cont_put {b : Bx} {l1 l2 : List (Nat × Nat × Nat)} {s : Nat × Nat × Nat} {v : Value} (hb : b.put = l1 ++ s :: l2) (hi : dn s.1 = false) (h1 : ∀ s' ∈ l1, s'.1 ≠ s.1) (h2 : ∀ s' ∈ l2, s'.1 ≠ s.1 ∧ dn s'.1 = false) (hsrc : ∀ s' ∈ b.put, dn s'.1 = true → dn s'.2.2 = true) (hsd : dn s.2.2 = true) (hini : ∀ p ∈ b.ini, p.src ≠ some s.1) :
 cont b (upd dn s.1) (updV u s.1 v) = splice (cont b dn u) s.2.1 (u s.2.2).cells := by
 have hne : s.2.2 ≠ s.1 := fun e => by rw [e, hi] at hsd; cases hsd
 have e1 := cont_other (b := { b with put := l1 }) (dn := dn) (u := u) (i := s.1) (v := v) hi h1 (fun s' hs' => hsrc s' (by rw [hb]; simp [hs'])) hini
 have e2 : ∀ (d : Nat → Bool) (g : Nat → Value) (l : List (Nat × Nat × Nat)) (c : Array Value), (∀ s' ∈ l, d s'.1 = false) → l.foldl (fun c s => if d s.1 = true then splice c s.2.1 (g s.2.2).cells else c) c = c := by
  intro d g l
  induction l with
  | nil => intros; rfl
  | cons s l ih =>
   intro c h
   simp only [List.foldl_cons]
   rw [if_neg (by rw [h s (by simp)]; decide)]
   exact ih _ fun q hq => h q (List.mem_cons_of_mem _ hq)
 unfold cont at e1 ⊢
 rw [hb]
 simp only [List.foldl_append, List.foldl_cons]
 rw [upd_same, if_pos rfl, if_neg (by rw [hi]; decide), updV_other hne]
 rw [e2 (upd dn s.1) _ l2 _ (fun s' hs' => by rw [upd_other (h2 s' hs').1]; exact (h2 s' hs').2), e2 dn _ l2 _ (fun s' hs' => (h2 s' hs').2)]
 rw [e1]
theorem Inv.src (hsp : Sep ops bxs) (h : Inv ops ks bxs S n₀ w dn u lc W) {k : Nat} {b : Bx} (hk : bxs[k]? = some b) : ∀ s ∈ b.put, dn s.1 = true → dn s.2.2 = true :=
 fun s hs hd => h.clo s.1 s.2.2 hd (hsp.src k b s hk hs)
theorem Inv.iniN (hsp : Sep ops bxs) (h : Inv ops ks bxs S n₀ w dn u lc W) {k : Nat} {b : Bx} (hk : bxs[k]? = some b) (hl : laid b dn) {i : Nat} (hi : dn i = false) : ∀ p ∈ b.ini, p.src ≠ some i := by
 intro p hp e
 obtain ⟨j, h1, h2⟩ := hsp.ini k b p i hk hp e
 have := h.clo j i (hl j h1) h2
 rw [hi] at this; cases this
theorem Inv.lt (h : Inv ops ks bxs S n₀ w dn u lc W) {k : Nat} {b : Bx} (hk : bxs[k]? = some b) (hl : laid b dn) : lc k < W.heap.size := (Array.getElem?_eq_some_iff.1 (h.box k b hk hl).1).1
theorem Inv.other (hsp : Sep ops bxs) (h : Inv ops ks bxs S n₀ w dn u lc W) {i : Nat} {v : Value} {W' : World} (hi : dn i = false) (hok : n₀ ≤ w.heap.size) (hdep : ∀ j, waits ops i j = true → dn j = true)
 (hal : ∀ (k : Nat) (b : Bx), bxs[k]? = some b → b.al ≠ some i) (hput : ∀ (k : Nat) (b : Bx), bxs[k]? = some b → ∀ s ∈ b.put, s.1 ≠ i) (hb : Below W.heap.size W W') (hv : KW (kn ks i) v W') : Inv ops ks bxs S n₀ w (upd dn i) (updV u i v) lc W' := by
 have hsz : w.heap.size ≤ W.heap.size := h.kept.size
 have hld : ∀ (k : Nat) (b : Bx), bxs[k]? = some b → laid b (upd dn i) → laid b dn := by
  intro k b hk hl j hj
  have := hl j hj
  rwa [upd_other (fun e => hal k b hk (by rw [hj, e]))] at this
 refine ⟨h.kept.trans (kept_below hb t16), h.below.trans (hb.mono (by omega)), fun g hg hn => (hb.block g (by omega)).trans (h.oth g hg hn), fun j hj => ?_, fun j e hj hw => ?_, fun k b hk hl => ?_, fun k b j hk ha hj => ?_, h.locO, fun k k' b b' hk hk' hne h1 h2 => h.apart k k' b b' hk hk' hne (hld k b hk h1) (hld k' b' hk' h2)⟩
 · by_cases e : j = i
   · subst e; rw [updV_same]; exact hv
   · rw [upd_other e] at hj; rw [updV_other e]; exact (h.knd j hj).kept (kept_below hb t16)
 · by_cases ej : j = i
   · subst ej; exact upd_mono (hdep e hw)
   · rw [upd_other ej] at hj; exact upd_mono (h.clo j e hj hw)
 · have hl' := hld k b hk hl
   rw [cont_other hi (hput k b hk) (h.src hsp hk) (h.iniN hsp hk hl' hi)]
   obtain ⟨h1, h2⟩ := h.box k b hk hl'
   exact ⟨(hb.block _ (h.lt hk hl')).trans h1, h2⟩
 · have hji : j ≠ i := fun e => hal k b hk (by rw [ha, e])
   rw [upd_other hji] at hj
   rw [updV_other hji]
   exact h.loc k b j hk ha hj
theorem Inv.lay (hsp : Sep ops bxs) (h : Inv ops ks bxs S n₀ w dn u lc W) {i k : Nat} {b : Bx} (hi : dn i = false) (hok : n₀ ≤ w.heap.size) (hdep : ∀ j, waits ops i j = true → dn j = true) (hk : bxs[k]? = some b) (ha : b.al = some i) (hkd : kn ks i = .any)
 (hs : (parts b.ini u).size = b.size) (hn : noLimb (parts b.ini u) = true) : Inv ops ks bxs S n₀ w (upd dn i) (updV u i (b.val W.heap.size)) (fun k' => if k' = k then W.heap.size else lc k') (W.alloc (.cells (parts b.ini u) b.T)) := by
 have hsz : w.heap.size ≤ W.heap.size := h.kept.size
 have hb : Below W.heap.size W (W.alloc (.cells (parts b.ini u) b.T)) := (Below.refl _ _).alloc (Nat.le_refl _) _
 have hputi : ∀ (k' : Nat) (b' : Bx), bxs[k']? = some b' → ∀ s ∈ b'.put, s.1 ≠ i := fun k' b' hk' s hs => hsp.alput k k' b b' i s hk hk' ha hs
 have hld : ∀ (k' : Nat) (b' : Bx), bxs[k']? = some b' → k' ≠ k → laid b' (upd dn i) → laid b' dn := by
  intro k' b' hk' hne hl j hj
  have := hl j hj
  rwa [upd_other (fun e => hne (hsp.al k' k b' b i hk' hk (by rw [hj, e]) ha))] at this
 have hputf : ∀ s ∈ b.put, dn s.1 = false := fun s hs => by
  cases hd : dn s.1 with
  | false => rfl
  | true => have := h.clo s.1 i hd (hsp.pal k b s i hk hs ha); rw [hi] at this; cases this
 have hiniN : ∀ p ∈ b.ini, p.src ≠ some i := by
  intro p hp e
  obtain ⟨j, h1, h2⟩ := hsp.ini k b p i hk hp e
  rw [ha] at h1; cases h1
  have := hdep i h2
  rw [hi] at this; cases this
 refine ⟨h.kept.trans (kept_below hb t16), h.below.trans (hb.mono (by omega)), fun g hg hn' => (hb.block g (by omega)).trans (h.oth g hg hn'), fun j hj => ?_, fun j e hj hw => ?_, fun k' b' hk' hl => ?_, fun k' b' j hk' ha' hj => ?_, fun k' b' hk' ha' => ?_, fun k1 k2 b1 b2 hk1 hk2 hne h1 h2 => ?_⟩
 · by_cases e : j = i
   · subst e; rw [hkd]; trivial
   · rw [upd_other e] at hj; rw [updV_other e]; exact (h.knd j hj).kept (kept_below hb t16)
 · by_cases ej : j = i
   · subst ej; exact upd_mono (hdep e hw)
   · rw [upd_other ej] at hj; exact upd_mono (h.clo j e hj hw)
 · by_cases e : k' = k
   · subst e
     rw [hk] at hk'; cases hk'
     have e1 : cont b (upd dn i) (updV u i (b.val W.heap.size)) = parts b.ini u := by
      rw [cont_other hi (hputi k' b hk) (h.src hsp hk) hiniN]
      exact cont_none b hputf
     simp only [if_true]
     rw [e1]
     exact ⟨World.alloc_heap_new W _, hs, hn⟩
   · simp only [e, if_false]
     have hl' := hld k' b' hk' e hl
     rw [cont_other hi (hputi k' b' hk') (h.src hsp hk') (h.iniN hsp hk' hl' hi)]
     obtain ⟨h1, h2⟩ := h.box k' b' hk' hl'
     exact ⟨(hb.block _ (h.lt hk' hl')).trans h1, h2⟩
 · by_cases e : k' = k
   · subst e
     rw [hk] at hk'; cases hk'
     rw [ha] at ha'; cases ha'
     simp only [if_true]
     rw [updV_same]
     exact ⟨rfl, hsz⟩
   · simp only [e, if_false]
     have hji : j ≠ i := fun e' => e (hsp.al k' k b' b i hk' hk (by rw [ha', e']) ha)
     rw [upd_other hji] at hj
     rw [updV_other hji]
     exact h.loc k' b' j hk' ha' hj
 · have e : k' ≠ k := fun e => by subst e; rw [hk] at hk'; cases hk'; rw [ha] at ha'; cases ha'
   simp only [e, if_false]
   exact h.locO k' b' hk' ha'
 · by_cases e1 : k1 = k
   · have e2 : k2 ≠ k := fun e2 => hne (e1.trans e2.symm)
     simp only [e1, e2, if_true, if_false]
     have := h.lt hk2 (hld k2 b2 hk2 e2 h2)
     omega
   · by_cases e2 : k2 = k
     · simp only [e1, e2, if_true, if_false]
       have := h.lt hk1 (hld k1 b1 hk1 e1 h1)
       omega
     · simp only [e1, e2, if_false]
       exact h.apart k1 k2 b1 b2 hk1 hk2 hne (hld k1 b1 hk1 e1 h1) (hld k2 b2 hk2 e2 h2)
theorem setRow_other (w : World) (g k : Nat) (cs : Array Value) (h : k ≠ g) : (w.setRow g cs).heap[k]? = w.heap[k]? := by
 unfold World.setRow
 simp only [Array.getElem?_modify]
 rw [if_neg (fun e => h e.symm)]
theorem setRow_size (w : World) (g : Nat) (cs : Array Value) : (w.setRow g cs).heap.size = w.heap.size := by
 unfold World.setRow
 simp
theorem Inv.fill (hsp : Sep ops bxs) (h : Inv ops ks bxs S n₀ w dn u lc W) {i k : Nat} {b : Bx} {s : Nat × Nat × Nat} (v : Value) (hok : BxOK t16 bxs S n₀ w) (hi : dn i = false) (hdep : ∀ j, waits ops i j = true → dn j = true) (hk : bxs[k]? = some b) (hs : s ∈ b.put) (hsi : s.1 = i) (hkd : kn ks i = .any)
 (hsz : s.2.1 + (u s.2.2).cells.size ≤ b.size) (hn : noLimb (u s.2.2).cells = true) : Inv ops ks bxs S n₀ w (upd dn i) (updV u i v) lc (W.setRow (lc k) (splice (cont b dn u) s.2.1 (u s.2.2).cells)) := by
 subst hsi
 have hla : laid b dn := fun j hj => hdep j (hsp.pal k b s j hk hs hj)
 obtain ⟨hc, hcs, hcn⟩ := h.box k b hk hla
 have hal : ∀ (k' : Nat) (b' : Bx), bxs[k']? = some b' → b'.al ≠ some s.1 := fun k' b' hk' e => hsp.alput k' k b' b s.1 s hk' hk e hs rfl
 have hld : ∀ (k' : Nat) (b' : Bx), bxs[k']? = some b' → laid b' (upd dn s.1) → laid b' dn := by
  intro k' b' hk' hl j hj
  have := hl j hj
  rwa [upd_other (fun e => hal k' b' hk' (by rw [hj, e]))] at this
 have hge : n₀ ≤ lc k := by
  cases ha : b.al with
  | none => rw [h.locO k b hk ha]; exact (hok.old k b hk ha).2.1
  | some j => exact Nat.le_trans hok.fr (h.loc k b j hk ha (hla j ha)).2
 have hbox : BoxAt t16 W (lc k) := ⟨_, _, hc, hok.ty k b hk, hcn⟩
 have hkp : Kept t16 W (W.setRow (lc k) (splice (cont b dn u) s.2.1 (u s.2.2).cells)) := ⟨by rw [setRow_size]; exact Nat.le_refl _, fun g hg hnb => setRow_other _ _ _ _ (fun e => hnb (by rw [e]; exact hbox))⟩
 have hbl : Below n₀ W (W.setRow (lc k) (splice (cont b dn u) s.2.1 (u s.2.2).cells)) := ⟨rfl, rfl, rfl, by rw [setRow_size]; exact Nat.le_refl _, fun g hg => setRow_other _ _ _ _ (by omega)⟩
 have hS : lc k < w.heap.size → lc k ∈ S := by
  intro hlt
  cases ha : b.al with
  | none =>
   rw [h.locO k b hk ha]
   refine ((hok.old k b hk ha).2.2.2).resolve_left (fun e => ?_)
   rw [e] at hs; cases hs
  | some j => have := (h.loc k b j hk ha (hla j ha)).2; omega
 refine ⟨h.kept.trans hkp, h.below.trans hbl, fun g hg hn' => (setRow_other _ _ _ _ (fun e => hn' (by rw [e]; exact hS (by omega)))).trans (h.oth g hg hn'), fun j hj => ?_, fun j e hj hw => ?_, fun k' b' hk' hl => ?_, fun k' b' j hk' ha' hj => ?_, h.locO, fun k1 k2 b1 b2 hk1 hk2 hne h1 h2 => h.apart k1 k2 b1 b2 hk1 hk2 hne (hld k1 b1 hk1 h1) (hld k2 b2 hk2 h2)⟩
 · by_cases e : j = s.1
   · subst e; rw [hkd]; trivial
   · rw [upd_other e] at hj; rw [updV_other e]; exact (h.knd j hj).kept hkp
 · by_cases ej : j = s.1
   · subst ej; exact upd_mono (hdep e hw)
   · rw [upd_other ej] at hj; exact upd_mono (h.clo j e hj hw)
 · have hl' := hld k' b' hk' hl
   by_cases e : k' = k
   · subst e
     rw [hk] at hk'; cases hk'
     obtain ⟨l1, l2, hsplit⟩ := List.append_of_mem hs
     have hch := hsp.chain k' b hk
     rw [hsplit] at hch
     have h2 := chain_split hch
     have h2' : ∀ s' ∈ l2, s'.1 ≠ s.1 ∧ dn s'.1 = false := by
      intro s' hs'
      have hw := h2 s' hs'
      have hf : dn s'.1 = false := by
       cases hd : dn s'.1 with
       | false => rfl
       | true => have := h.clo s'.1 s.1 hd hw; rw [hi] at this; cases this
      refine ⟨fun e => ?_, hf⟩
      rw [e] at hw
      have := hdep s.1 hw
      rw [hi] at this; cases this
     have h1' : ∀ s' ∈ l1, s'.1 ≠ s.1 := by
      intro s' hs' e
      obtain ⟨m1, m2, hm⟩ := List.append_of_mem hs'
      rw [hm, List.append_assoc] at hch
      have := chain_split hch s (by simp)
      rw [e] at this
      have := hdep s.1 this
      rw [hi] at this; cases this
     rw [cont_put hsplit hi h1' h2' (h.src hsp hk) (hdep _ (hsp.src k' b s hk hs)) (h.iniN hsp hk hl' hi)]
     refine ⟨setRow_heap W _ _ _ _ _ hc, ?_, splice_noLimb hcn hn⟩
     rw [splice_size (by omega)]; exact hcs
   · have hne : lc k' ≠ lc k := h.apart k' k b' b hk' hk e hl' hla
     rw [cont_other hi (fun s' hs' e' => e (hsp.put k' k b' b s' s hk' hk hs' hs e')) (h.src hsp hk') (h.iniN hsp hk' hl' hi)]
     obtain ⟨h1, h2⟩ := h.box k' b' hk' hl'
     exact ⟨(setRow_other _ _ _ _ hne).trans h1, h2⟩
 · have hji : j ≠ s.1 := fun e => hal k' b' hk' (by rw [ha', e])
   rw [upd_other hji] at hj
   rw [updV_other hji]
   exact h.loc k' b' j hk' ha' hj
theorem Inv.start (hok : BxOK t16 bxs S n₀ w) {w' : World} (hb : Below w.heap.size w w') (_ : w'.heap.size = w.heap.size) (lc : Nat → Nat) (hlc : ∀ (k : Nat) (b : Bx), bxs[k]? = some b → lc k = b.blk) : Inv ops ks bxs S n₀ w (fun _ => false) (fun _ => undef) lc w' := by
 have hal : ∀ b : Bx, laid b (fun _ => false) → b.al = none := by
  intro b hl
  cases ha : b.al with
  | none => rfl
  | some j => have := hl j ha; cases this
 refine ⟨kept_below hb t16, hb.mono hok.fr, fun g hg _ => hb.block g hg, fun i h => (by cases h), fun i j h => (by cases h), fun k b hk hl => ?_, fun k b j _ _ h => (by cases h), fun k b hk _ => hlc k b hk, fun k k' b b' hk hk' hne h1 h2 => ?_⟩
 · have ha := hal b hl
   obtain ⟨h1, _, h3, _⟩ := hok.old k b hk ha
   have hn : cont b (fun _ => false) (fun _ => undef) = parts b.ini (fun _ => undef) := cont_none b fun _ _ => rfl
   rw [hn, hlc k b hk, hb.block _ h1]
   exact h3 _
 · rw [hlc k b hk, hlc k' b' hk']
   exact hok.oldne k k' b b' hk hk' (hal b h1) (hal b' h2) hne
end
structure Conf (ops : Array Oper) (a : Act) (dn : Nat → Bool) (u : Nat → Value) (a' : Act) : Prop where
 defers : a'.defers = a.defers
 size : a'.tmps.size = a.tmps.size
 old : ∀ k, (∀ i, dn i = true → dstOf ops i ≠ some k) → a'.tmps.getD k undef = a.tmps.getD k undef
 val : ∀ i s, dn i = true → dstOf ops i = some s → a'.tmps.getD s undef = u i
structure Slots (ops : Array Oper) (a : Act) (ds : List (Nat × Nat)) : Prop where
 mem : ∀ i s, dstOf ops i = some s → (i, s) ∈ ds ∧ s < a.tmps.size
 dst : ∀ p ∈ ds, dstOf ops p.1 = some p.2
 nd : (ds.map (·.2)).Nodup
 one : ∀ i j s, dstOf ops i = some s → dstOf ops j = some s → i = j
theorem slots_of {ops : Array Oper} {a : Act} {ds : List (Nat × Nat)} (hds : slotsOK ops a.tmps.size ds = true) : Slots ops a ds := by
 simp only [slotsOK, Bool.and_eq_true, List.all_eq_true, decide_eq_true_eq] at hds
 obtain ⟨⟨hd1, hd2⟩, hd3⟩ := hds
 have hd1' : ∀ i s, dstOf ops i = some s → (i, s) ∈ ds ∧ s < a.tmps.size := by
  intro i s h
  have hi : i < ops.size := by
   apply Nat.lt_of_not_le
   intro hge
   unfold dstOf at h
   rw [Array.getElem?_eq_none hge] at h
   cases h
  have := hd1 i (List.mem_range.2 hi)
  rw [h] at this
  simpa using this
 refine ⟨hd1', fun p hp => by simpa using hd2 p hp, hd3, ?_⟩
 intro i j s hi hj
 have h1 := (hd1' i s hi).1
 have h2 := (hd1' j s hj).1
 have : ∀ (l : List (Nat × Nat)), (l.map (·.2)).Nodup → (i, s) ∈ l → (j, s) ∈ l → i = j := by
  intro l
  induction l with
  | nil => intro _ h; cases h
  | cons q l ih =>
   intro hn h h'
   simp only [List.map_cons, List.nodup_cons] at hn
   rcases List.mem_cons.1 h with rfl | h <;> rcases List.mem_cons.1 h' with h' | h'
   · simp only [Prod.mk.injEq] at h'; exact h'.1.symm
   · exact absurd (List.mem_map_of_mem (f := (·.2)) h') hn.1
   · rw [← h'] at hn; exact absurd (List.mem_map_of_mem (f := (·.2)) h) hn.1
   · exact ih hn.2 h h'
 exact this ds hd3 h1 h2
theorem Conf.put {ops : Array Oper} {a a' : Act} {dn : Nat → Bool} {u : Nat → Value} {ds : List (Nat × Nat)} (hs : Slots ops a ds) (h : Conf ops a dn u a') {i : Nat} {o : Oper} (ho : ops[i]? = some o) (v : Value) : Conf ops a (upd dn i) (updV u i v) (a'.put o.dst v) := by
 have hdo : dstOf ops i = o.dst := by unfold dstOf; rw [ho]; rfl
 cases hdst : o.dst with
 | none =>
  refine ⟨h.defers, h.size, fun k hk => h.old k (fun i' h' => hk i' (upd_mono h')), fun i' s h' hs' => ?_⟩
  by_cases e : i' = i
  · subst e; rw [hdo, hdst] at hs'; cases hs'
  · rw [upd_other e] at h'; rw [updV_other e]; exact h.val i' s h' hs'
 | some d =>
  rw [hdst] at hdo
  have hdlt : d < a'.tmps.size := by rw [h.size]; exact (hs.mem i d hdo).2
  refine ⟨h.defers, by simpa [Act.put] using h.size, fun k hk => ?_, fun i' s h' hs' => ?_⟩
  · have hne : d ≠ k := fun e => hk i (upd_same _ _) (by rw [hdo, e])
    have := h.old k (fun i' h' => hk i' (upd_mono h'))
    simp only [Act.put]
    rw [← this]
    simp only [Array.getD_eq_getD_getElem?]
    rw [Array.getElem?_setIfInBounds_ne hne]
  · by_cases e : i' = i
    · subst e
      rw [hdo] at hs'; cases hs'
      rw [updV_same]
      simp only [Act.put, Array.getD_eq_getD_getElem?]
      simp [hdlt]
    · rw [upd_other e] at h'
      have hne : d ≠ s := fun e' => e (hs.one i' i s hs' (by rw [hdo, e']))
      rw [updV_other e]
      simp only [Act.put, Array.getD_eq_getD_getElem?]
      rw [Array.getElem?_setIfInBounds_ne hne]
      have := h.val i' s h' hs'
      simpa only [Array.getD_eq_getD_getElem?] using this
theorem Conf.fin {ops : Array Oper} {a a' : Act} {dn : Nat → Bool} {u : Nat → Value} {ds : List (Nat × Nat)} (hs : Slots ops a ds) (h : Conf ops a dn u a') (hall : ∀ i, i < ops.size → dn i = true) : a' = ⟨putAll ds u a.tmps, a.defers⟩ := by
 have hall' : ∀ i s, dstOf ops i = some s → dn i = true := by
  intro i s h
  apply hall
  apply Nat.lt_of_not_le
  intro hge
  unfold dstOf at h
  rw [Array.getElem?_eq_none hge] at h
  cases h
 obtain ⟨hdf, hsz, hold, hV⟩ := h
 cases a' with
 | mk t d =>
  simp only at hdf hsz hold ⊢
  subst hdf
  congr 1
  refine Array.ext_getElem? fun k => ?_
  by_cases hk : ∃ i, dstOf ops i = some k
  · obtain ⟨i, hi⟩ := hk
    obtain ⟨hm1, hm2⟩ := hs.mem i k hi
    rw [putAll_at ds _ _ hs.nd (i, k) hm1 hm2]
    have h1 := hV i k (hall' i k hi) hi
    have : k < t.size := by rw [hsz]; exact hm2
    simp only [Array.getD_eq_getD_getElem?] at h1
    simp [this] at h1 ⊢
    exact h1
  · have hk' : ∀ i, dstOf ops i ≠ some k := fun i hi => hk ⟨i, hi⟩
    rw [putAll_other _ _ _ _ (fun p hp e => hk' p.1 (by rw [← e]; exact hs.dst p hp))]
    have h1 := hold k (fun i _ => hk' i)
    by_cases hlt : k < t.size
    · have hlt' : k < a.tmps.size := by rw [← hsz]; exact hlt
      simp only [Array.getD_eq_getD_getElem?] at h1
      simp [hlt, hlt'] at h1 ⊢
      exact h1
    · rw [Array.getElem?_eq_none (by omega), Array.getElem?_eq_none (by omega)]
def Turn (n : Nat) (P : Program) (ops : Array Oper) (a : Act) (J : (Nat → Bool) → (Nat → Value) → World → Prop) : Prop :=
 ∀ (dn : Nat → Bool) (u : Nat → Value) (i : Nat) (o : Oper), ops[i]? = some o → dn i = false → (∀ j, waits ops i j = true → dn j = true) → ∀ (a' : Act) (W : World), J dn u W → Conf ops a dn u a' →
  (Region.wanted o (yielded ops a'.tmps) = true ∧ Op1 n P o a' W (fun v W' => J (upd dn i) (updV u i v) W')) ∨
  (Region.wanted o (yielded ops a'.tmps) = false ∧ J (upd dn i) (updV u i undef) W)
theorem waits_edge {ops : Array Oper} {i j : Nat} {o : Oper} (ho : ops[i]? = some o) (h : waits ops i j = true) : ∃ e ∈ o.after, Region.binds .any e = true ∧ e.on = j := by
 obtain ⟨o', ho', h'⟩ := waits_spec h
 rw [ho] at ho'; cases ho'; exact h'
theorem wpIn_drawn {id : Nat} {ops : Array Oper} {Q : Exit → Act → World → Prop} {a : Act} {w : World} (ds : List (Nat × Nat)) (J : (Nat → Bool) → (Nat → Value) → World → Prop)
 (hm : P.follows .mixedOrders = true) (hac : acyc ops = true) (hs : Slots ops a ds) (h0 : J (fun _ => false) (fun _ => undef) w.drew) (ht : Turn n P ops a J)
 (hend : ∀ (dn : Nat → Bool) (u : Nat → Value) (W : World), (∀ i, i < ops.size → dn i = true) → J dn u W → Q .normal ⟨putAll ds u a.tmps, a.defers⟩ W) :
 (Code.region id ops true).wpIn Fence.wide n P Q a w := by
 refine wpIn_region_conf (fun dn a' W => ∃ u : Nat → Value, Conf ops a dn u a' ∧ J dn u W) hm hac ⟨_, ⟨rfl, rfl, fun _ _ => rfl, fun _ _ h => by cases h⟩, h0⟩ ?_ ?_
 · rintro dn a' W ⟨u, hc, hJ⟩ i o ho hd hdep
   have hdep' : ∀ j, waits ops i j = true → dn j = true := fun j hj => by
    obtain ⟨e, he, hb, rfl⟩ := waits_edge ho hj
    exact hdep e he hb
   unfold wpOpIn
   rw [ho]
   rcases ht dn u i o ho hd hdep' a' W hJ hc with ⟨hw, hop⟩ | ⟨hw, hv⟩
   · simp only [hw, if_true]
     exact hop _ _ fun v W' h1 => ⟨_, hc.put hs ho v, h1⟩
   · simp only [hw]
     exact ⟨fun _ _ => trivial, _, hc.put hs ho undef, hv⟩
 · rintro dn a' W ⟨u, hc, hJ⟩ hall
   rw [hc.fin hs hall]
   exact hend dn u W hall hJ
theorem wpIn_plain {id : Nat} {ops : Array Oper} {Q : Exit → Act → World → Prop} {a : Act} {w : World} (ds : List (Nat × Nat)) (J : (Nat → Bool) → (Nat → Value) → World → Prop)
 (hac : acyc ops = true) (hs : Slots ops a ds) (h0 : J (fun _ => false) (fun _ => undef) w) (ht : Turn n P ops a J)
 (hend : ∀ (dn : Nat → Bool) (u : Nat → Value) (W : World), (∀ i, i < ops.size → dn i = true) → J dn u W → Q .normal ⟨putAll ds u a.tmps, a.defers⟩ W) :
 (Code.region id ops false).wpIn Fence.wide n P Q a w := by
 refine wpIn_region_list ?_
 have key : ∀ (m k : Nat), ops.size = k + m → ∀ (a' : Act) (W : World) (u : Nat → Value), Conf ops a (fun i => decide (i < k)) u a' → J (fun i => decide (i < k)) u W → wpListIn Fence.wide n P ops Q (ops.toList.drop k) a' W := by
  intro m
  induction m with
  | zero =>
   intro k hk a' W u hc hJ
   have e : ops.toList.drop k = [] := List.drop_eq_nil_of_le (by simp; omega)
   rw [e]
   have hall : ∀ i, i < ops.size → (fun i => decide (i < k)) i = true := fun i hi => decide_eq_true (by omega)
   show Q .normal a' W
   rw [hc.fin hs hall]
   exact hend _ u W hall hJ
  | succ m ih =>
   intro k hk a' W u hc hJ
   have hlt : k < ops.toList.length := by simp; omega
   rw [List.drop_eq_getElem_cons hlt]
   have ho : ops[k]? = some ops.toList[k] := by
    rw [Array.getElem?_eq_getElem (by omega)]
    simp
   generalize ops.toList[k] = o at *
   have hup : upd (fun i => decide (i < k)) k = fun i => decide (i < k + 1) := by
    funext j
    unfold upd
    by_cases e : j = k
    · rw [if_pos e]; exact (decide_eq_true (by omega)).symm
    · rw [if_neg e]; exact decide_eq_decide.2 (by omega)
   have hdep : ∀ j, waits ops k j = true → (fun i => decide (i < k)) j = true := fun j hj => by
    obtain ⟨e, he, hb, rfl⟩ := waits_edge ho hj
    exact decide_eq_true (acyc_spec hac k o ho e he hb)
   have hnext : ∀ (v : Value) (W' : World), J (upd (fun i => decide (i < k)) k) (updV u k v) W' → wpListIn Fence.wide n P ops Q (ops.toList.drop (k + 1)) (a'.put o.dst v) W' := by
    intro v W' h1
    have h2 := hc.put hs ho v
    rw [hup] at h1 h2
    exact ih (k + 1) (by omega) _ _ _ h2 h1
   rcases ht _ u k o ho (decide_eq_false (Nat.lt_irrefl k)) hdep a' W hJ hc with ⟨hw, hop⟩ | ⟨hw, hv⟩
   · unfold wpListIn
     rw [if_pos hw]
     exact hop _ _ hnext
   · unfold wpListIn
     rw [if_neg (by rw [hw]; decide)]
     exact ⟨fun _ _ => trivial, hnext undef W hv⟩
 have := key ops.size 0 (by omega) a w (fun _ => undef) ⟨rfl, rfl, fun _ _ => rfl, fun i _ h => by simp at h⟩ (by simpa using h0)
 simpa using this
def skipK : Kn t16 → Kn t16
 | .val (.tuple _) => .val (.tuple #[])
 | _ => .any
theorem skipK_holds {q : Kn t16} {W : World} (h : q = skipK q) : KW q undef W := by
 match q, h with
 | .any, _ => trivial
 | .val v, h =>
  cases v with
  | tuple vs =>
   have : vs = #[] := by simpa [skipK] using h
   subst this
   rfl
  | _ => cases h
 | .k s, h => cases h
def StepN (n : Nat) (P : Program) (ops : Array Oper) (ks : List (Kn t16)) (i : Nat) (o : Oper) (a' : Act) (W : World) : Prop :=
 (Region.wanted o (yielded ops a'.tmps) = true ∧ Op1 n P o a' W (fun v W' => KW (kn ks i) v W' ∧ Below W.heap.size W W')) ∨
 (Region.wanted o (yielded ops a'.tmps) = false ∧ kn ks i = skipK (kn ks i))
def role (bxs : List Bx) (i : Nat) : Bool := bxs.any fun b => b.al == some i || b.put.any fun s => s.1 == i
theorem region_gen {id : Nat} {dr : Bool} {ops : Array Oper} {Q : Exit → Act → World → Prop} {a : Act} {w : World} (n₀ : Nat) (S : List Nat) (ks : List (Kn t16)) (ds : List (Nat × Nat)) (bxs : List Bx)
 (hm : P.follows .mixedOrders = true) (hac : acyc ops = true) (hds : slotsOK ops a.tmps.size ds = true) (hsep : sepB bxs = true) (hdp : depB ops bxs = true) (hok : BxOK t16 bxs S n₀ w)
 (hstep : ∀ (i : Nat) (o : Oper), ops[i]? = some o → role bxs i = false → ∀ (a' : Act) (u : Nat → Value) (lc : Nat → Nat) (W : World), Meet ops ks bxs S n₀ w a a' u lc W i → StepN n P ops ks i o a' W)
 (hal : ∀ (k : Nat) (b : Bx) (i : Nat) (o : Oper), bxs[k]? = some b → b.al = some i → ops[i]? = some o → ∀ (a' : Act) (u : Nat → Value) (lc : Nat → Nat) (W : World), Meet ops ks bxs S n₀ w a a' u lc W i →
  kn ks i = .any ∧ o.guard = none ∧ (parts b.ini u).size = b.size ∧ noLimb (parts b.ini u) = true ∧ Op1 n P o a' W (fun v W' => v = b.val W.heap.size ∧ W' = W.alloc (.cells (parts b.ini u) b.T)))
 (hput : ∀ (k : Nat) (b : Bx) (s : Nat × Nat × Nat) (o : Oper), bxs[k]? = some b → s ∈ b.put → ops[s.1]? = some o → ∀ (a' : Act) (u : Nat → Value) (lc : Nat → Nat) (W : World) (c : Array Value), Meet ops ks bxs S n₀ w a a' u lc W s.1 → W.heap[lc k]? = some (.cells c b.T) → c.size = b.size →
  kn ks s.1 = .any ∧ o.guard = none ∧ s.2.1 + (u s.2.2).cells.size ≤ b.size ∧ noLimb (u s.2.2).cells = true ∧ Op1 n P o a' W (fun _ W' => W' = W.setRow (lc k) (splice c s.2.1 (u s.2.2).cells)))
 (hend : ∀ (u : Nat → Value) (lc : Nat → Nat) (W : World), Kept t16 w W → Below n₀ w W → (∀ g, g < w.heap.size → g ∉ S → W.heap[g]? = w.heap[g]?) → (∀ i s, dstOf ops i = some s → KW (kn ks i) (u i) W) →
  (∀ (k : Nat) (b : Bx), bxs[k]? = some b → W.heap[lc k]? = some (.cells (contAll b u) b.T) ∧ (b.al = none → lc k = b.blk) ∧ ∀ j, b.al = some j → u j = b.val (lc k) ∧ w.heap.size ≤ lc k) →
  (∀ (k : Nat) (k' : Nat) (b : Bx) (b' : Bx), bxs[k]? = some b → bxs[k']? = some b' → k ≠ k' → lc k ≠ lc k') → Q .normal ⟨putAll ds u a.tmps, a.defers⟩ W) :
 (Code.region id ops dr).wp P Q a w := by
 refine (wpIn_wide (n := n)).1 ?_
 have hs := slots_of hds
 have hsp := sep_of hsep hdp
 have hstart : ∀ w' : World, Below w.heap.size w w' → w'.heap.size = w.heap.size → ∃ lc, Inv ops ks bxs S n₀ w (fun _ => false) (fun _ => undef) lc w' := fun w' hb hsz =>
  ⟨fun (k : Nat) => match bxs[k]? with | some b => b.blk | none => 0, Inv.start hok hb hsz _ (fun (k : Nat) (b : Bx) hk => by simp only [hk])⟩
 have ht : Turn n P ops a (fun dn u W => ∃ lc, Inv ops ks bxs S n₀ w dn u lc W) := by
  rintro dn u i o ho hd hdep a' W ⟨lc, hI⟩ hc
  have hM : Meet ops ks bxs S n₀ w a a' u lc W i := by
   have hun : ∀ j, waits ops j i = true → dn j = false := fun j hw => by
    cases hj : dn j with
    | false => rfl
    | true => have := hI.clo j i hj hw; rw [hd] at this; cases this
   have hla : ∀ b : Bx, (b.al.all fun j => waits ops i j) = true → laid b dn := fun b h j hj => by
    rw [hj] at h
    exact hdep j (by simpa using h)
   refine ⟨hc.size, fun k hk => hc.old k (fun j hj e => ?_), fun j s hw hds' => hc.val j s (hdep j hw) hds', fun j hw => hI.knd j (hdep j hw), hI.kept, hI.below, hI.oth, fun k b hk h1 h2 => ?_, fun k b hk h1 h2 => ?_, fun k b j hk ha hw => (hI.loc k b j hk ha (hdep j hw)).1, hI.locO⟩
   · unfold unwritten at hk
     rw [List.all_eq_true] at hk
     have hlt : j < ops.size := by
      apply Nat.lt_of_not_le
      intro hge
      unfold dstOf at e
      rw [Array.getElem?_eq_none hge] at e
      cases e
     have h1 := hk j (List.mem_range.2 hlt)
     rw [e] at h1
     simp only [bne_self_eq_false, Bool.false_or, Bool.or_eq_true, beq_iff_eq] at h1
     rcases h1 with rfl | h1
     · rw [hd] at hj; cases hj
     · rw [hun j h1] at hj; cases hj
   · have := (hI.box k b hk (hla b h1)).1
     rw [cont_none b (fun s hs' => hun s.1 (List.all_eq_true.1 h2 s hs'))] at this
     exact this
   · have := (hI.box k b hk (hla b h1)).1
     rw [cont_all b (fun s hs' => hdep s.1 (List.all_eq_true.1 h2 s hs'))] at this
     exact this
  by_cases h1 : ∃ (k : Nat) (b : Bx), bxs[k]? = some b ∧ b.al = some i
  · obtain ⟨k, b, hk, ha⟩ := h1
    obtain ⟨hkd, hg, hsz, hn, hop⟩ := hal k b i o hk ha ho a' u lc W hM
    refine .inl ⟨wanted_none hg, hop.mono ?_⟩
    rintro v W' ⟨rfl, rfl⟩
    exact ⟨_, hI.lay hsp hd hok.fr hdep hk ha hkd hsz hn⟩
  · by_cases h2 : ∃ (k : Nat) (b : Bx) (s : Nat × Nat × Nat), bxs[k]? = some b ∧ s ∈ b.put ∧ s.1 = i
    · obtain ⟨k, b, s, hk, hs', rfl⟩ := h2
      have hla : laid b dn := fun j hj => hdep j (hsp.pal k b s j hk hs' hj)
      obtain ⟨hc1, hc2, hc3⟩ := hI.box k b hk hla
      obtain ⟨hkd, hg, hsz, hn, hop⟩ := hput k b s o hk hs' ho a' u lc W _ hM hc1 hc2
      refine .inl ⟨wanted_none hg, hop.mono ?_⟩
      rintro v W' rfl
      exact ⟨lc, hI.fill hsp v hok hd hdep hk hs' rfl hkd hsz hn⟩
    · have hro : role bxs i = false := by
       cases hr : role bxs i with
       | false => rfl
       | true =>
        exfalso
        unfold role at hr
        rw [List.any_eq_true] at hr
        obtain ⟨b, hb, hr⟩ := hr
        obtain ⟨k, hk⟩ := List.getElem?_of_mem hb
        simp only [Bool.or_eq_true, beq_iff_eq, List.any_eq_true] at hr
        rcases hr with hr | ⟨s, hs', hr⟩
        · exact h1 ⟨k, b, hk, hr⟩
        · exact h2 ⟨k, b, s, hk, hs', hr⟩
      have hal' : ∀ (k : Nat) (b : Bx), bxs[k]? = some b → b.al ≠ some i := fun k b hk e => h1 ⟨k, b, hk, e⟩
      have hput' : ∀ (k : Nat) (b : Bx), bxs[k]? = some b → ∀ s ∈ b.put, s.1 ≠ i := fun k b hk s hs' e => h2 ⟨k, b, s, hk, hs', e⟩
      rcases hstep i o ho hro a' u lc W hM with ⟨hw, hop⟩ | ⟨hw, hv⟩
      · exact .inl ⟨hw, hop.mono fun v W' ⟨h3, h4⟩ => ⟨lc, hI.other hsp hd hok.fr hdep hal' hput' h4 h3⟩⟩
      · exact .inr ⟨hw, lc, hI.other hsp hd hok.fr hdep hal' hput' (Below.refl _ _) (skipK_holds hv)⟩
 have hfin : ∀ (dn : Nat → Bool) (u : Nat → Value) (W : World), (∀ i, i < ops.size → dn i = true) → (∃ lc, Inv ops ks bxs S n₀ w dn u lc W) → Q .normal ⟨putAll ds u a.tmps, a.defers⟩ W := by
  rintro dn u W hall ⟨lc, hI⟩
  have hlt : ∀ i s, dstOf ops i = some s → dn i = true := by
   intro i s h
   apply hall
   apply Nat.lt_of_not_le
   intro hge
   unfold dstOf at h
   rw [Array.getElem?_eq_none hge] at h
   cases h
  have hla : ∀ (k : Nat) (b : Bx), bxs[k]? = some b → laid b dn := fun k b hk j hj => hall j (hsp.alt k b j hk hj)
  have hpt : ∀ (k : Nat) (b : Bx), bxs[k]? = some b → ∀ s ∈ b.put, dn s.1 = true := fun k b hk s hs' => by
   obtain ⟨o, ho, _⟩ := waits_spec (hsp.src k b s hk hs')
   exact hall s.1 (Array.getElem?_eq_some_iff.1 ho).1
  refine hend u lc W hI.kept hI.below hI.oth (fun i s h => hI.knd i (hlt i s h)) (fun k b hk => ⟨?_, hI.locO k b hk, fun j ha => hI.loc k b j hk ha (hla k b hk j ha)⟩) (fun k k' b b' hk hk' hne => hI.apart k k' b b' hk hk' hne (hla k b hk) (hla k' b' hk'))
  have := (hI.box k b hk (hla k b hk)).1
  rw [cont_all b (hpt k b hk)] at this
  exact this
 cases dr with
 | true => exact wpIn_drawn ds _ hm hac hs (hstart _ ((Below.refl _ _).drew) rfl) ht hfin
 | false => exact wpIn_plain ds _ hac hs (hstart _ (Below.refl _ _) rfl) ht hfin
end Go.WR
namespace Go.WR
open Go.RowKit
def valOf {t16 : TypeId} : Kn t16 → Value → Value
  | .val v, _ => v
  | .any, x => x
  | .k _, x => x
def putK {t16 : TypeId} (ds : List (Nat × Nat)) (ks : List (Kn t16)) (u : Nat → Value) (t : Array Value) : Array Value := ds.foldl (fun t p => t.setIfInBounds p.2 (valOf (kn ks p.1) (u p.1))) t
theorem putK_eq {t16 : TypeId} {ds : List (Nat × Nat)} {ks : List (Kn t16)} {u : Nat → Value} {t : Array Value} {W : World} (h : ∀ p ∈ ds, KW (kn ks p.1) (u p.1) W) : putK ds ks u t = putAll ds u t := by
  induction ds generalizing t with
  | nil => rfl
  | cons p l ih =>
    have hv : valOf (kn ks p.1) (u p.1) = u p.1 := by
      have := h p (List.mem_cons_self ..)
      cases hk : kn ks p.1 with
      | any => rfl
      | k s => rfl
      | val v => rw [hk] at this; exact this.symm
    unfold putK putAll at *
    simp only [List.foldl_cons, hv]
    exact ih (fun q hq => h q (List.mem_cons_of_mem _ hq))
theorem vV {t16 : TypeId} {v x : Value} : valOf (t16 := t16) (.val v) x = v := rfl
theorem vA {t16 : TypeId} {x : Value} : valOf (t16 := t16) .any x = x := rfl
theorem vK {t16 : TypeId} {s : SK t16} {x : Value} : valOf (.k s) x = x := rfl
theorem kZ {t16 : TypeId} {k : Kn t16} {l : List (Kn t16)} : kn (k :: l) 0 = k := rfl
theorem kS {t16 : TypeId} {k : Kn t16} {l : List (Kn t16)} {i : Nat} : kn (k :: l) (i + 1) = kn l i := rfl
theorem ds_dst {ops : Array Oper} {nt : Nat} {ds : List (Nat × Nat)} (h : slotsOK ops nt ds = true) {p : Nat × Nat} (hp : p ∈ ds) : dstOf ops p.1 = some p.2 := by
  unfold slotsOK at h
  simp only [Bool.and_eq_true] at h
  have := List.all_eq_true.1 h.1.2 p hp
  simpa using this
theorem rg {n : Nat} {P : Program} {t16 : TypeId} {id : Nat} {dr : Bool} {ops : Array Oper} {Q : Exit → Act → World → Prop} {a : Act} {w : World} (n₀ : Nat) (S : List Nat) (ks : List (Kn t16)) (ds : List (Nat × Nat)) (bxs : List Bx)
    (hok : BxOK t16 bxs S n₀ w)
    (hstep : ∀ (i : Nat) (o : Oper), ops[i]? = some o → role bxs i = false → ∀ (a' : Act) (u : Nat → Value) (lc : Nat → Nat) (W : World), Meet ops ks bxs S n₀ w a a' u lc W i → StepN n P ops ks i o a' W)
    (hal : ∀ (k : Nat) (b : Bx) (i : Nat) (o : Oper), bxs[k]? = some b → b.al = some i → ops[i]? = some o → ∀ (a' : Act) (u : Nat → Value) (lc : Nat → Nat) (W : World), Meet ops ks bxs S n₀ w a a' u lc W i →
      kn ks i = .any ∧ o.guard = none ∧ (parts b.ini u).size = b.size ∧ noLimb (parts b.ini u) = true ∧ Op1 n P o a' W (fun v W' => v = b.val W.heap.size ∧ W' = W.alloc (.cells (parts b.ini u) b.T)))
    (hput : ∀ (k : Nat) (b : Bx) (s : Nat × Nat × Nat) (o : Oper), bxs[k]? = some b → s ∈ b.put → ops[s.1]? = some o → ∀ (a' : Act) (u : Nat → Value) (lc : Nat → Nat) (W : World) (c : Array Value), Meet ops ks bxs S n₀ w a a' u lc W s.1 → W.heap[lc k]? = some (.cells c b.T) → c.size = b.size →
      kn ks s.1 = .any ∧ o.guard = none ∧ s.2.1 + (u s.2.2).cells.size ≤ b.size ∧ noLimb (u s.2.2).cells = true ∧ Op1 n P o a' W (fun _ W' => W' = W.setRow (lc k) (splice c s.2.1 (u s.2.2).cells)))
    (hend : ∀ (u : Nat → Value) (lc : Nat → Nat) (W : World), Kept t16 w W → Below n₀ w W → (∀ g, g < w.heap.size → g ∉ S → W.heap[g]? = w.heap[g]?) → (∀ i s, dstOf ops i = some s → KW (kn ks i) (u i) W) →
      (∀ (k : Nat) (b : Bx), bxs[k]? = some b → W.heap[lc k]? = some (.cells (contAll b u) b.T) ∧ (b.al = none → lc k = b.blk) ∧ ∀ j, b.al = some j → u j = b.val (lc k) ∧ w.heap.size ≤ lc k) →
      (∀ (k : Nat) (k' : Nat) (b : Bx) (b' : Bx), bxs[k]? = some b → bxs[k']? = some b' → k ≠ k' → lc k ≠ lc k') → Q .normal ⟨putK ds ks u a.tmps, a.defers⟩ W)
    (hm : P.follows .mixedOrders = true := by kernel_rfl) (hac : acyc ops = true := by kernel_rfl) (hds : slotsOK ops a.tmps.size ds = true := by kernel_rfl) (hsep : sepB bxs = true := by kernel_rfl) (hdp : depB ops bxs = true := by kernel_rfl) :
    (Code.region id ops dr).wp P Q a w :=
  region_gen (n := n) (t16 := t16) n₀ S ks ds bxs hm hac hds hsep hdp hok hstep hal hput (fun u lc W h1 h2 h3 hV h5 h6 => by
    rw [← putK_eq (W := W) (ks := ks) (fun p hp => hV p.1 p.2 (ds_dst hds hp))]
    exact hend u lc W h1 h2 h3 hV h5 h6)
theorem rg0 {n : Nat} {P : Program} {t16 : TypeId} {id : Nat} {dr : Bool} {ops : Array Oper} {Q : Exit → Act → World → Prop} {a : Act} {w : World} (n₀ : Nat) (ks : List (Kn t16)) (ds : List (Nat × Nat)) (h0 : n₀ ≤ w.heap.size)
    (hstep : ∀ (i : Nat) (o : Oper), ops[i]? = some o → role ([] : List Bx) i = false → ∀ (a' : Act) (u : Nat → Value) (lc : Nat → Nat) (W : World), Meet ops ks ([] : List Bx) ([] : List Nat) n₀ w a a' u lc W i → StepN n P ops ks i o a' W)
    (hend : ∀ (u : Nat → Value) (lc : Nat → Nat) (W : World), Kept t16 w W → Below n₀ w W → (∀ g, g < w.heap.size → g ∉ ([] : List Nat) → W.heap[g]? = w.heap[g]?) → (∀ i s, dstOf ops i = some s → KW (kn ks i) (u i) W) →
      (∀ (k : Nat) (b : Bx), ([] : List Bx)[k]? = some b → W.heap[lc k]? = some (.cells (contAll b u) b.T) ∧ (b.al = none → lc k = b.blk) ∧ ∀ j, b.al = some j → u j = b.val (lc k) ∧ w.heap.size ≤ lc k) →
      (∀ (k : Nat) (k' : Nat) (b : Bx) (b' : Bx), ([] : List Bx)[k]? = some b → ([] : List Bx)[k']? = some b' → k ≠ k' → lc k ≠ lc k') → Q .normal ⟨putK ds ks u a.tmps, a.defers⟩ W)
    (hm : P.follows .mixedOrders = true := by kernel_rfl) (hac : acyc ops = true := by kernel_rfl) (hds : slotsOK ops a.tmps.size ds = true := by kernel_rfl) :
    (Code.region id ops dr).wp P Q a w :=
  rg (n := n) (t16 := t16) n₀ [] ks ds [] ⟨fun k b h => (by simp at h), fun k b h => (by simp at h), fun k k' b b' h => (by simp at h), h0⟩ hstep (fun k b i o h => (by simp at h)) (fun k b s o h => (by simp at h)) hend hm hac hds rfl rfl
theorem Meet.d {t16 : TypeId} {ops : Array Oper} {ks : List (Kn t16)} {bxs : List Bx} {S : List Nat} {n₀ : Nat} {w W : World} {a a' : Act} {u : Nat → Value} {lc : Nat → Nat} {i : Nat} (h : Meet ops ks bxs S n₀ w a a' u lc W i) (j s : Nat) (hd : dstOf ops j = some s) (hw : waits ops i j = true := by kernel_rfl) : KW (kn ks j) (a'.tmps.getD s undef) W := h.dep j s hw hd
theorem Meet.v {t16 : TypeId} {ops : Array Oper} {ks : List (Kn t16)} {bxs : List Bx} {S : List Nat} {n₀ : Nat} {w W : World} {a a' : Act} {u : Nat → Value} {lc : Nat → Nat} {i : Nat} (h : Meet ops ks bxs S n₀ w a a' u lc W i) (j s : Nat) (hd : dstOf ops j = some s) (hw : waits ops i j = true := by kernel_rfl) : a'.tmps.getD s undef = u j := h.val j s hw hd
theorem Meet.ol {t16 : TypeId} {ops : Array Oper} {ks : List (Kn t16)} {bxs : List Bx} {S : List Nat} {n₀ : Nat} {w W : World} {a a' : Act} {u : Nat → Value} {lc : Nat → Nat} {i : Nat} (h : Meet ops ks bxs S n₀ w a a' u lc W i) (k : Nat) (hk : unwritten ops i k = true := by kernel_rfl) : a'.tmps.getD k undef = a.tmps.getD k undef := h.old k hk
theorem Meet.kd {t16 : TypeId} {ops : Array Oper} {ks : List (Kn t16)} {bxs : List Bx} {S : List Nat} {n₀ : Nat} {w W : World} {a a' : Act} {u : Nat → Value} {lc : Nat → Nat} {i : Nat} (h : Meet ops ks bxs S n₀ w a a' u lc W i) (j : Nat) (hw : waits ops i j = true := by kernel_rfl) : KW (kn ks j) (u j) W := h.knd j hw
theorem Meet.wo {t16 : TypeId} {ops : Array Oper} {ks : List (Kn t16)} {bxs : List Bx} {S : List Nat} {n₀ : Nat} {w W : World} {a a' : Act} {u : Nat → Value} {lc : Nat → Nat} {i : Nat} (h : Meet ops ks bxs S n₀ w a a' u lc W i) {o : Oper} {g s : Nat} {b c : Bool} (ho : o.guard = some (g, b)) (hd : dstOf ops g = some s) (hv : a'.tmps.getD s undef = .bool c) (hz : Nat.ble (s + 1) a.tmps.size = true := by rfl) : Region.wanted o (yielded ops a'.tmps) = (c == b) := wanted_of ho hd hv (by rw [h.size]; exact Nat.le_of_ble_eq_true hz)
theorem Meet.wg {t16 : TypeId} {ops : Array Oper} {ks : List (Kn t16)} {bxs : List Bx} {S : List Nat} {n₀ : Nat} {w W : World} {a a' : Act} {u : Nat → Value} {lc : Nat → Nat} {i : Nat} (h : Meet ops ks bxs S n₀ w a a' u lc W i) {n : Nat} {P : Program} {o : Oper} {g s : Nat} {c : Bool} (hv : a'.tmps.getD s undef = .bool c) (hop : Op1 n P o a' W (fun v W' => KW (kn ks i) v W' ∧ Below W.heap.size W W')) (ho : o.guard = some (g, c) := by rfl) (hd : dstOf ops g = some s := by rfl) (hz : Nat.ble (s + 1) a.tmps.size = true := by rfl) : StepN n P ops ks i o a' W := .inl ⟨(h.wo ho hd hv hz).trans (by cases c <;> rfl), hop⟩
theorem Meet.wz {t16 : TypeId} {ops : Array Oper} {ks : List (Kn t16)} {bxs : List Bx} {S : List Nat} {n₀ : Nat} {w W : World} {a a' : Act} {u : Nat → Value} {lc : Nat → Nat} {i : Nat} (h : Meet ops ks bxs S n₀ w a a' u lc W i) {n : Nat} {P : Program} {o : Oper} {g s : Nat} {b c : Bool} (hv : a'.tmps.getD s undef = .bool c) (hk : kn ks i = skipK (kn ks i) := by rfl) (ho : o.guard = some (g, b) := by rfl) (hd : dstOf ops g = some s := by rfl) (hz : Nat.ble (s + 1) a.tmps.size = true := by rfl) (hc : (c == b) = false := by rfl) : StepN n P ops ks i o a' W := .inr ⟨(h.wo ho hd hv hz).trans hc, hk⟩
theorem Meet.o0 {t16 : TypeId} {ops : Array Oper} {ks : List (Kn t16)} {bxs : List Bx} {n₀ : Nat} {w W : World} {a a' : Act} {u : Nat → Value} {lc : Nat → Nat} {i g : Nat} {x : Obj} (h : Meet ops ks bxs [] n₀ w a a' u lc W i) (q : w.heap[g]? = some x) : W.heap[g]? = some x := (h.oth _ (Array.getElem?_eq_some_iff.1 q).1 (by simp)).trans q
theorem Meet.o1 {t16 : TypeId} {ops : Array Oper} {ks : List (Kn t16)} {bxs : List Bx} {n₀ : Nat} {w W : World} {a a' : Act} {u : Nat → Value} {lc : Nat → Nat} {i g s : Nat} {x : Obj} (h : Meet ops ks bxs [s] n₀ w a a' u lc W i) (q : w.heap[g]? = some x) (hg : g ≠ s) : W.heap[g]? = some x := (h.oth _ (Array.getElem?_eq_some_iff.1 q).1 (by simpa using hg)).trans q
theorem wn {n : Nat} {P : Program} {t16 : TypeId} {ops : Array Oper} {ks : List (Kn t16)} {i : Nat} {o : Oper} {a' : Act} {W : World} (h : Op1 n P o a' W (fun v W' => KW (kn ks i) v W' ∧ Below W.heap.size W W')) (hg : o.guard = none := by rfl) : StepN n P ops ks i o a' W := .inl ⟨wanted_none hg, h⟩
theorem kv {t16 : TypeId} {k : Kn t16} {x v : Value} {W : World} (h : KW k x W) (e : k = .val v) : x = v := by subst e; exact h
theorem fC {α β : Type _} {f : β → α → β} {a : α} {b : β} {l : List α} : (a :: l).foldl f b = l.foldl f (f b a) := List.foldl_cons ..
theorem fN {α β : Type _} {f : β → α → β} {b : β} : [].foldl f b = b := List.foldl_nil
theorem sI {α : Type _} {l : List α} {i : Nat} {a : α} : l.toArray.setIfInBounds i a = (l.set i a).toArray := List.setIfInBounds_toArray ..
theorem sZ {α : Type _} {x : α} {xs : List α} {b : α} : (x :: xs).set 0 b = b :: xs := List.set_cons_zero
theorem sS {α : Type _} {x : α} {xs : List α} {n : Nat} {b : α} : (x :: xs).set (n + 1) b = x :: xs.set n b := List.set_cons_succ
abbrev pt (B : Nat) : Value := .pointer (some ⟨B, 0, none⟩)
theorem oth0 {w W : World} {g : Nat} {x : Obj} (h : ∀ g, g < w.heap.size → g ∉ ([] : List Nat) → W.heap[g]? = w.heap[g]?) (q : w.heap[g]? = some x) : W.heap[g]? = some x := (h _ (Array.getElem?_eq_some_iff.1 q).1 (by simp)).trans q
theorem oth1 {w W : World} {g s : Nat} {x : Obj} (h : ∀ g, g < w.heap.size → g ∉ [s] → W.heap[g]? = w.heap[g]?) (q : w.heap[g]? = some x) (hg : g ≠ s) : W.heap[g]? = some x := (h _ (Array.getElem?_eq_some_iff.1 q).1 (by simpa using hg)).trans q
end Go.WR
