import Derived.Test.YtihdbjilolmfiaaGreatDoorD01
import Derived.RangeFuncNested
import Derived.RangeFuncBound
import Derived.RangeFuncCalls
import Derived.RangeFuncLeaves
import Derived.RangeFuncBox
import Derived.Shelf.Abstract
import Derived.WalkKit
import Derived.OwnWalkIn
import Derived.TacticsInMore
import Derived.LoopNIn
import Derived.LoopIn
import Derived.RegionIn
namespace Go
open Go.RowKit
theorem Boxed.below {W W' : World} {B t N : Nat} {v : Value} (h : Boxed W B t v) (hb : Below N W W') (hlt : B < N) : Boxed W' B t v := (hb.block B hlt).trans h
theorem Boxed.otherAt {W : World} {B t : Nat} {v : Value} (h : Boxed W B t v) {a : Addr} (hne : B ≠ a.block) (u : Value) : Boxed (W.setCell a u) B t v := by
 unfold Boxed at *; rw [Below.heap_setCell _ _ _ _ hne]; exact h
end Go
namespace Go.WR
open Go.RowKit
def SeqAt (F : Fence) (n : Nat) (P : Program) (g : Nat) (lb : Array Value) (encs : Nat → Array Value) (Kp : World → World → Prop) (N : Nat) (w : World) : Prop :=
 ∀ (l : Nat) (J Jx : Nat → World → Prop) (W : World), Below w.heap.size w W →
  (∀ k W1, J k W1 → k < N → YieldAt F (n - 1) P l (encs k) W1 fun e W' =>
   (e = .returned (.bool true) ∧ J (k + 1) W' ∧ Kp W1 W') ∨ (e = .returned (.bool false) ∧ Jx (k + 1) W')) →
  J 0 W →
  CallsIn F n P g (#[.func (.yield l) #[] #[]] ++ lb) W fun e W' => (∃ v, e = .returned v) ∧ (J N W' ∨ ∃ k, k ≤ N ∧ Jx k W')
def endsAt (B : Nat) (Kp : World → World → Prop) (I : Nat → World → Prop) (Ix : Code → Nat → World → Prop) (k : Nat) (W : World) : Exit → Act → World → Prop
 | .normal, _, W' => KeepsFrom B W W' ∧ Kp W W' ∧ I k W'
 | .ret, _, W' => KeepsFrom B W W' ∧ Ix .ret k W'
 | .exit id, _, W' => KeepsFrom B W W' ∧ Ix (.exit id) k W'
 | .goto t, _, W' => KeepsFrom B W W' ∧ Ix (.goto t) k W'
 | .panic _, _, _ => False
 | .outgrown, _, _ => False
def Keep1 (n₀ Bs t : Nat) (W W' : World) : Prop := Below n₀ W W' ∧ ∀ v, Boxed W Bs t v → Boxed W' Bs t v
theorem Keep1.refl (n₀ Bs t : Nat) (W : World) : Keep1 n₀ Bs t W W := ⟨Below.refl _ _, fun _ h => h⟩
theorem keep1_t {n₀ Bs t : Nat} {A B C : World} (h : Keep1 n₀ Bs t A B) (k : Keep1 n₀ Bs t B C) : Keep1 n₀ Bs t A C := ⟨h.1.trans k.1, fun v hv => k.2 v (h.2 v hv)⟩
theorem keep1_b {n₀ Bs t : Nat} {w : World} (hn : n₀ ≤ w.heap.size) (W : World) (l : Nat) (o o' : Obj) (hl : w.heap.size ≤ l) (h : W.heap[l]? = some o) (hc : o.isCells = false) (hw : o.isWalk = false) : Keep1 n₀ Bs t W (W.putObj l o') :=
 ⟨belowK_b hn W l o o' hl h hc hw, fun v hv => hv.kept (grownBy_putObj' W l o') (fun e => by cases e; rw [show W.heap[Bs]? = _ from hv] at h; cases h; cases hc)⟩
theorem Keep1.set {n₀ Bs t : Nat} {W : World} {a : Addr} (hn : n₀ ≤ a.block) (hne : Bs ≠ a.block) (v : Value) : Keep1 n₀ Bs t W (W.setCell a v) :=
 ⟨(Below.refl n₀ W).setCell hn v, fun u hu => by unfold Boxed at *; rw [Below.heap_setCell _ _ _ _ hne]; exact hu⟩
variable {F : Fence} {n : Nat} {P : Program}
theorem wpIn_range {g : Operand} {ps : Array Tmp} {assign body : Code} {Q : Exit → Act → World → Prop} {a : Act} {w : World}
 (hro : F.round = none) (h1 : 1 ≤ n) {gf : Nat} {lb : Array Value} (hg : a.eval g = .func (.func gf) #[] lb) (hFg : F.fn gf) (eg : ∀ args w, (callFunc gf args).run P w = .ok (.enter gf args) w)
 {encs : Nat → Array Value} {Kp : World → World → Prop} {N : Nat} (hseq : SeqAt F (n - 1) P gf lb encs Kp N w)
 (hKt : ∀ {A B C : World}, Kp A B → Kp B C → Kp A C) (hKb : ∀ (W : World) (l : Nat) (o o' : Obj), w.heap.size ≤ l → W.heap[l]? = some o → o.isCells = false → o.isWalk = false → Kp W (W.putObj l o')) (hps : ∀ x, (encs x).size = ps.size)
 (I : Nat → World → Prop) (Ix : Code → Nat → World → Prop) (hI : OwnFrom w.heap.size I) (hIx : ∀ c, OwnFrom w.heap.size (Ix c)) (h0 : I 0 w) (a₁ : Nat → Act)
 (hassign : ∀ (l : Nat) (x : Nat) (W : World) (K : Act → World → Prop), K (a₁ x) W →
  assign.wpIn (F.inRound l) (n - 1 - 1) P (Exit.then K (fun _ _ _ => False)) { tmps := (ps.zip (encs x)).foldl (fun t (p, v) => t.setIfInBounds p v) a.tmps, defers := [] } W)
 (hbody : ∀ (l k : Nat) (W : World), I k W → k < N → body.wpIn (F.inRound l) (n - 1 - 1) P (endsAt w.heap.size Kp I Ix (k + 1) W) (a₁ k) W)
 (hdone : ∀ (D : Nat) (W : World), w.heap.size ≤ D → I N W → W.heap[D]? = some (.deferred (some [])) → Q .normal { a with defers := { target := .collected D, args := #[] } :: a.defers } W)
 (hstop : ∀ (D : Nat) (c : Code) (k : Nat) (W : World), w.heap.size ≤ D → k ≤ N → Ix c k W → W.heap[D]? = some (.deferred (some [])) → c.wpIn F n P Q { a with defers := { target := .collected D, args := #[] } :: a.defers } W) :
 (Code.rangeFunc g ps assign body).wpIn F n P Q a w := by
 refine wpIn_rangeFunc fun fn hfn => ?_
 rw [hro]
 let rec' : LoopState → Option Code → Loop := fun st pe => { state := st, pending := pe, fn, tmps := a.tmps, params := ps, assign, body, defers := w.heap.size }
 obtain ⟨rec, hrec⟩ : ∃ rec, rec = rec' := ⟨_, rfl⟩
 obtain ⟨W1, hW1⟩ : ∃ W1, (w.alloc (.deferred (some []))).alloc (.loop (rec .ready none)) = W1 := ⟨_, rfl⟩
 have hL1 : W1.heap[w.heap.size + 1]? = some (.loop (rec .ready none)) := by
  rw [← hW1]; have := World.alloc_heap_new (w.alloc (.deferred (some []))) (.loop (rec .ready none)); rwa [World.size_alloc] at this
 have hK1 : W1.heap[w.heap.size]? = some (.deferred (some [])) := by
  rw [← hW1]; exact (Below.heap_alloc _ _ _ (by simp)).trans (World.alloc_heap_new w _)
 have hI1 : I 0 W1 := by rw [← hW1]; exact hI.alloc _ (hI.alloc _ h0)
 have hb1 : Below w.heap.size w W1 := by
  rw [← hW1]; exact ((Below.refl _ w).alloc (Nat.le_refl _) _).alloc (by simp) _
 refine ⟨w.heap.size + 1, [{ target := .collected w.heap.size, args := #[] }], W1, { target := .fn (.func gf) lb, args := #[.func (.yield (w.heap.size + 1)) #[] #[]] }, W1, gf,
  #[.func (.yield (w.heap.size + 1)) #[] #[]] ++ lb, W1, ?_, ?_, ?_, ?_, fun _ => h1, ?_⟩
 · rw [← hW1, hrec]; exact run_enterLoop_outer _ _ _ _ _
 · simp only [resolve, hg]
   simp [go_sem]
 · intro f' hf'; simp [Target.leads] at hf'; subst hf'; exact hFg
 · simp [invoke, go_sem, eg]
 · refine (hseq (w.heap.size + 1)
    (fun k W => I k W ∧ W.heap[w.heap.size + 1]? = some (.loop (rec .ready none)) ∧ W.heap[w.heap.size]? = some (.deferred (some [])))
    (fun k W => ∃ c, Ix c k W ∧ W.heap[w.heap.size + 1]? = some (.loop (rec .done (some c))) ∧ W.heap[w.heap.size]? = some (.deferred (some [])))
    W1 hb1 ?_ ⟨hI1, hL1, hK1⟩).mono ?_
   · rintro k W ⟨hi, hl, hk⟩ hlen
     have hlt : w.heap.size + 1 < W.heap.size := (Array.getElem?_eq_some_iff.1 hl).1
     have hy := run_yield (P := P) (args := encs k) hl (by rw [hrec]; exact hps k)
     rw [hrec] at hy
     refine ⟨fn, _, assign, body, hy, roundIn_of_wpIn hfn (hassign _ k W _ ⟨_, run_beginRound hl (by rw [hrec]), ?_⟩)⟩
     have hl2 : (W.putObj (w.heap.size + 1) (.loop { rec .ready none with state := .busy })).heap[w.heap.size + 1]? = some (.loop { rec .ready none with state := .busy }) := World.putObj_heap_same hlt
     have hk2 : (W.putObj (w.heap.size + 1) (.loop { rec .ready none with state := .busy })).heap[w.heap.size]? = some (.deferred (some [])) := (World.putObj_heap_other (by omega)).trans hk
     have hw2 : Kp W (W.putObj (w.heap.size + 1) (.loop { rec .ready none with state := .busy })) := hKb _ _ _ _ (by omega) hl rfl rfl
     refine wpIn_mono (hbody _ k _ (hI.putObj _ hi (by omega) hl rfl) hlen) ?_
     have fin : ∀ (jump : Option Code) (W3 : World), KeepsFrom w.heap.size (W.putObj (w.heap.size + 1) (.loop { rec .ready none with state := .busy })) W3 →
      (Instr.endRound (w.heap.size + 1) jump).run P W3 = .ok (.bool jump.isNone) (W3.putObj (w.heap.size + 1) (.loop (rec (if jump.isNone then .ready else .done) jump))) ∧
      W3.heap[w.heap.size + 1]? = some (.loop { rec .ready none with state := .busy }) ∧
      (W3.putObj (w.heap.size + 1) (.loop (rec (if jump.isNone then .ready else .done) jump))).heap[w.heap.size + 1]? = some (.loop (rec (if jump.isNone then .ready else .done) jump)) ∧
      (W3.putObj (w.heap.size + 1) (.loop (rec (if jump.isNone then .ready else .done) jump))).heap[w.heap.size]? = some (.deferred (some [])) := fun jump W3 hk3 => by
      have hl3 := hk3.same _ _ (by omega) hl2 rfl
      have := run_endRound (P := P) jump hl3
      rw [hrec] at this ⊢
      exact ⟨this, by rw [hrec] at hl3; exact hl3, World.putObj_heap_same (Array.getElem?_eq_some_iff.1 hl3).1, (World.putObj_heap_other (by omega)).trans (hk3.same _ _ (Nat.le_refl _) hk2 rfl)⟩
     rintro e a3 W3 hp
     cases e with
     | normal =>
      obtain ⟨hk3, hkp3, hi3⟩ := hp
      obtain ⟨hr, hl3, hl4, hk4⟩ := fin none W3 hk3
      exact ⟨_, _, hr, .inl ⟨rfl, ⟨hI.putObj _ hi3 (by omega) hl3 rfl, hl4, hk4⟩, hKt (hKt hw2 hkp3) (hKb _ _ _ _ (by omega) hl3 rfl rfl)⟩⟩
     | ret =>
      obtain ⟨hk3, hi3⟩ := hp
      obtain ⟨hr, hl3, hl4, hk4⟩ := fin (some .ret) W3 hk3
      exact ⟨_, _, hr, .inr ⟨rfl, .ret, (hIx _).putObj _ hi3 (by omega) hl3 rfl, hl4, hk4⟩⟩
     | exit id =>
      obtain ⟨hk3, hi3⟩ := hp
      obtain ⟨hr, hl3, hl4, hk4⟩ := fin (some (.exit id)) W3 hk3
      exact ⟨_, _, hr, .inr ⟨rfl, .exit id, (hIx _).putObj _ hi3 (by omega) hl3 rfl, hl4, hk4⟩⟩
     | goto t =>
      obtain ⟨hk3, hi3⟩ := hp
      obtain ⟨hr, hl3, hl4, hk4⟩ := fin (some (.goto t)) W3 hk3
      exact ⟨_, _, hr, .inr ⟨rfl, .goto t, (hIx _).putObj _ hi3 (by omega) hl3 rfl, hl4, hk4⟩⟩
     | panic ch => exact hp.elim
     | outgrown => exact hp.elim
   · rintro e W2 ⟨⟨v, rfl⟩, (⟨hi, hl, hk⟩ | ⟨k, hk', c, hi, hl, hk⟩)⟩
     · exact ⟨none, _, by have := run_endLoop (P := P) hl (by rw [hrec]; simp [rec']); rw [hrec] at this; exact this, hdone _ _ (Nat.le_refl _) (hI.putObj _ hi (by omega) hl rfl) ((World.putObj_heap_other (by omega)).trans hk)⟩
     · exact ⟨some c, _, by have := run_endLoop (P := P) hl (by rw [hrec]; simp [rec']); rw [hrec] at this; exact this, hstop _ c k _ (Nat.le_refl _) hk' ((hIx c).putObj _ hi (by omega) hl rfl) ((World.putObj_heap_other (by omega)).trans hk)⟩
end Go.WR
namespace Go.WR
open Go.RowKit
variable {F : Fence} {n : Nat} {P : Program}
def upd (d : Nat → Bool) (i : Nat) : Nat → Bool := fun j => if j = i then true else d j
theorem upd_same (d : Nat → Bool) (i : Nat) : upd d i i = true := by simp [upd]
theorem upd_other {d : Nat → Bool} {i j : Nat} (h : j ≠ i) : upd d i j = d j := by simp [upd, h]
theorem upd_mono {d : Nat → Bool} {i j : Nat} (h : d j = true) : upd d i j = true := by unfold upd; split <;> simp [*]
theorem all_listed {ops : Array Oper} {L : Array Bool} (hac : ∀ (i : Nat) (o : Oper), ops[i]? = some o → ∀ e ∈ o.after, Region.binds .any e = true → e.on < i) (hL : L.size = ops.size) (h : Region.ready .any ops L = []) :
 ∀ i, i < ops.size → L.getD i false = true := by
 intro i
 induction i using Nat.strongRecOn with
 | _ i ih =>
  intro hi
  have hn : i ∉ Region.ready .any ops L := by rw [h]; simp
  rw [mem_ready] at hn
  have ho : ops[i]? = some ops[i] := by simp [hi]
  cases hv : L.getD i false with
  | true => rfl
  | false =>
   exfalso
   apply hn
   refine ⟨by simpa [hL, hi] using hv, _, ho, fun e he hb => ?_⟩
   have := hac i _ ho e he hb
   exact ih e.on this (by omega)
theorem wpAnyIn_conf {ops : Array Oper} {Q : Exit → Act → World → Prop} (I : (Nat → Bool) → Act → World → Prop)
 (hac : ∀ (i : Nat) (o : Oper), ops[i]? = some o → ∀ e ∈ o.after, Region.binds .any e = true → e.on < i)
 (hstep : ∀ (d : Nat → Bool) (a : Act) (w : World), I d a w → ∀ (i : Nat) (o : Oper), ops[i]? = some o → d i = false → (∀ e ∈ o.after, Region.binds .any e = true → d e.on = true) →
  wpOpIn F n P ops Q i (I (upd d i)) a w)
 (hend : ∀ (d : Nat → Bool) (a : Act) (w : World), I d a w → (∀ i, i < ops.size → d i = true) → Q .normal a w) :
 ∀ (fuel : Nat) (L : Array Bool) (a : Act) (w : World), L.size = ops.size → (L.toList.filter (!·)).length ≤ fuel → I (fun i => L.getD i false) a w → wpAnyIn F n P .any ops Q fuel L a w := by
 have hready : ∀ (L : Array Bool) (j : Nat), L.size = ops.size → j ∈ Region.ready .any ops L → j < L.size ∧ L.getD j false = false := by
  intro L j hL hj
  obtain ⟨h0, o, ho, _⟩ := mem_ready.1 hj
  have hlt : j < L.size := by rw [hL]; exact (Array.getElem?_eq_some_iff.1 ho).1
  exact ⟨hlt, by simpa [hlt] using h0⟩
 intro fuel
 induction fuel with
 | zero =>
  intro L a w hL hf hI
  have hnone : Region.ready .any ops L = [] := by
   cases hr : Region.ready .any ops L with
   | nil => rfl
   | cons j rs =>
    exfalso
    obtain ⟨hlt, hj⟩ := hready L j hL (by rw [hr]; simp)
    have hmem : false ∈ L.toList := by
     have : L[j] = false := by simpa [hlt] using hj
     rw [← this]; exact Array.getElem_mem_toList ..
    have hz : L.toList.filter (!·) = [] := List.length_eq_zero_iff.1 (by omega)
    rw [List.filter_eq_nil_iff] at hz
    exact hz _ hmem rfl
  exact ⟨hnone, hend _ a w hI (all_listed hac hL hnone)⟩
 | succ fuel ih =>
  intro L a w hL hf hI
  refine ⟨fun hr => hend _ a w hI (all_listed hac hL hr), fun j hj => ?_⟩
  obtain ⟨hlt, hjf⟩ := hready L j hL hj
  obtain ⟨_, o, ho, hdeps⟩ := mem_ready.1 hj
  refine wpOpIn_mono (fun a' w' hI' => ih _ a' w' (by simpa using hL) ?_ ?_) (hstep _ a w hI j o ho hjf hdeps)
  · have hcount : ∀ (l : List Bool) (k : Nat), k < l.length → l[k]? = some false → ((l.set k true).filter (!·)).length + 1 = (l.filter (!·)).length := by
     intro l
     induction l with
     | nil => intro k hk; simp at hk
     | cons b l ihl =>
      intro k hk hb
      cases k with
      | zero => simp at hb; subst hb; simp
      | succ k =>
       have := ihl k (by simpa using hk) (by simpa using hb)
       cases b <;> simp_all
    have hb : L.toList[j]? = some false := by
     have : L[j] = false := by simpa [hlt] using hjf
     simp [hlt, this]
    have := hcount L.toList j (by simpa using hlt) hb
    simp only [Array.toList_setIfInBounds]
    omega
  · have e : (fun i => (L.setIfInBounds j true).getD i false) = upd (fun i => L.getD i false) j := by
     funext i
     by_cases hij : i = j
     · subst hij; simp [upd, hlt]
     · rw [upd_other hij, getD_set_ne false (Ne.symm hij)]
    rw [e]; exact hI'
def acyc (ops : Array Oper) : Bool := ops.toList.zipIdx.all fun (o, i) => o.after.all fun e => !Region.binds .any e || decide (e.on < i)
theorem acyc_spec {ops : Array Oper} (h : acyc ops = true) (i : Nat) (o : Oper) (ho : ops[i]? = some o) (e : Edge) (he : e ∈ o.after) (hb : Region.binds .any e = true) : e.on < i := by
 unfold acyc at h
 rw [List.all_eq_true] at h
 have hm : (o, i) ∈ ops.toList.zipIdx := by
  rw [List.mem_zipIdx_iff_getElem?]
  simpa using ho
 have h1 := h _ hm
 simp only [Array.all_eq_true_iff_forall_mem] at h1
 have h2 := h1 e he
 simpa [hb] using h2
theorem wpIn_region_conf {id : Nat} {ops : Array Oper} {Q : Exit → Act → World → Prop} {a : Act} {w : World} (I : (Nat → Bool) → Act → World → Prop) (hm : P.follows .mixedOrders = true)
 (hac : acyc ops = true)
 (h0 : I (fun _ => false) a w.drew)
 (hstep : ∀ (d : Nat → Bool) (a : Act) (w : World), I d a w → ∀ (i : Nat) (o : Oper), ops[i]? = some o → d i = false → (∀ e ∈ o.after, Region.binds .any e = true → d e.on = true) →
  wpOpIn F n P ops Q i (I (upd d i)) a w)
 (hend : ∀ (d : Nat → Bool) (a : Act) (w : World), I d a w → (∀ i, i < ops.size → d i = true) → Q .normal a w) : (Code.region id ops true).wpIn F n P Q a w := by
 refine wpIn_region_any hm (wpAnyIn_conf I (acyc_spec hac) hstep hend _ _ _ _ (by simp) (by simp) ?_)
 have e : (fun i => (Array.replicate ops.size false).getD i false) = fun _ => false := by
  funext i
  by_cases hi : i < ops.size <;> simp [hi]
 rw [e]; exact h0
end Go.WR
namespace Go.WR
variable {F : Fence} {n : Nat} {P : Program}
theorem opIn_of_list {ops : Array Oper} {Q : Exit → Act → World → Prop} {i : Nat} {o : Oper} {K : Act → World → Prop} {a : Act} {w : World} (ho : ops[i]? = some o)
 (h : wpListIn F n P ops (Exit.then K Q) [o] a w) : wpOpIn F n P ops Q i K a w := by
 unfold wpOpIn
 rw [ho]
 exact h
end Go.WR
namespace Go.WR
open Go.RowKit
def SeqAtK (F : Fence) (n : Nat) (P : Program) (g : Nat) (lb : Array Value) (encs : Nat → Array Value) (Kp : Nat → World → World → Prop) (N : Nat) (w : World) : Prop :=
 ∀ (l : Nat) (J Jx : Nat → World → Prop) (W : World), Below w.heap.size w W →
  (∀ k W1, J k W1 → k < N → YieldAt F (n - 1) P l (encs k) W1 fun e W' =>
   (e = .returned (.bool true) ∧ J (k + 1) W' ∧ Kp k W1 W') ∨ (e = .returned (.bool false) ∧ Jx (k + 1) W')) →
  J 0 W →
  CallsIn F n P g (#[.func (.yield l) #[] #[]] ++ lb) W fun e W' => (∃ v, e = .returned v) ∧ (J N W' ∨ ∃ k, k ≤ N ∧ Jx k W')
def endsAtK (B : Nat) (Kp : Nat → World → World → Prop) (I : Nat → World → Prop) (Ix : Code → Nat → World → Prop) (k : Nat) (W : World) : Exit → Act → World → Prop
 | .normal, _, W' => KeepsFrom B W W' ∧ Kp (k - 1) W W' ∧ I k W'
 | .ret, _, W' => KeepsFrom B W W' ∧ Ix .ret k W'
 | .exit id, _, W' => KeepsFrom B W W' ∧ Ix (.exit id) k W'
 | .goto t, _, W' => KeepsFrom B W W' ∧ Ix (.goto t) k W'
 | .panic _, _, _ => False
 | .outgrown, _, _ => False
variable {F : Fence} {n : Nat} {P : Program}
theorem wpIn_rangeK {g : Operand} {ps : Array Tmp} {assign body : Code} {Q : Exit → Act → World → Prop} {a : Act} {w : World}
 (hro : F.round = none) (h1 : 1 ≤ n) {gf : Nat} {lb : Array Value} (hg : a.eval g = .func (.func gf) #[] lb) (hFg : F.fn gf) (eg : ∀ args w, (callFunc gf args).run P w = .ok (.enter gf args) w)
 {encs : Nat → Array Value} {Kp : Nat → World → World → Prop} {N : Nat} (hseq : SeqAtK F (n - 1) P gf lb encs Kp N w)
 (hKt : ∀ (k : Nat) {A B C : World}, Kp k A B → Kp k B C → Kp k A C) (hKb : ∀ (k : Nat) (W : World) (l : Nat) (o o' : Obj), w.heap.size ≤ l → W.heap[l]? = some o → o.isCells = false → o.isWalk = false → Kp k W (W.putObj l o')) (hps : ∀ x, (encs x).size = ps.size)
 (I : Nat → World → Prop) (Ix : Code → Nat → World → Prop) (hI : OwnFrom w.heap.size I) (hIx : ∀ c, OwnFrom w.heap.size (Ix c)) (h0 : I 0 w) (a₁ : Nat → Act)
 (hassign : ∀ (l : Nat) (x : Nat) (W : World) (K : Act → World → Prop), K (a₁ x) W →
  assign.wpIn (F.inRound l) (n - 1 - 1) P (Exit.then K (fun _ _ _ => False)) { tmps := (ps.zip (encs x)).foldl (fun t (p, v) => t.setIfInBounds p v) a.tmps, defers := [] } W)
 (hbody : ∀ (l k : Nat) (W : World), I k W → k < N → body.wpIn (F.inRound l) (n - 1 - 1) P (endsAtK w.heap.size Kp I Ix (k + 1) W) (a₁ k) W)
 (hdone : ∀ (D : Nat) (W : World), w.heap.size ≤ D → I N W → W.heap[D]? = some (.deferred (some [])) → Q .normal { a with defers := { target := .collected D, args := #[] } :: a.defers } W)
 (hstop : ∀ (D : Nat) (c : Code) (k : Nat) (W : World), w.heap.size ≤ D → k ≤ N → Ix c k W → W.heap[D]? = some (.deferred (some [])) → c.wpIn F n P Q { a with defers := { target := .collected D, args := #[] } :: a.defers } W) :
 (Code.rangeFunc g ps assign body).wpIn F n P Q a w := by
 refine wpIn_rangeFunc fun fn hfn => ?_
 rw [hro]
 let rec' : LoopState → Option Code → Loop := fun st pe => { state := st, pending := pe, fn, tmps := a.tmps, params := ps, assign, body, defers := w.heap.size }
 obtain ⟨rec, hrec⟩ : ∃ rec, rec = rec' := ⟨_, rfl⟩
 obtain ⟨W1, hW1⟩ : ∃ W1, (w.alloc (.deferred (some []))).alloc (.loop (rec .ready none)) = W1 := ⟨_, rfl⟩
 have hL1 : W1.heap[w.heap.size + 1]? = some (.loop (rec .ready none)) := by
  rw [← hW1]; have := World.alloc_heap_new (w.alloc (.deferred (some []))) (.loop (rec .ready none)); rwa [World.size_alloc] at this
 have hK1 : W1.heap[w.heap.size]? = some (.deferred (some [])) := by
  rw [← hW1]; exact (Below.heap_alloc _ _ _ (by simp)).trans (World.alloc_heap_new w _)
 have hI1 : I 0 W1 := by rw [← hW1]; exact hI.alloc _ (hI.alloc _ h0)
 have hb1 : Below w.heap.size w W1 := by
  rw [← hW1]; exact ((Below.refl _ w).alloc (Nat.le_refl _) _).alloc (by simp) _
 refine ⟨w.heap.size + 1, [{ target := .collected w.heap.size, args := #[] }], W1, { target := .fn (.func gf) lb, args := #[.func (.yield (w.heap.size + 1)) #[] #[]] }, W1, gf,
  #[.func (.yield (w.heap.size + 1)) #[] #[]] ++ lb, W1, ?_, ?_, ?_, ?_, fun _ => h1, ?_⟩
 · rw [← hW1, hrec]; exact run_enterLoop_outer _ _ _ _ _
 · simp only [resolve, hg]
   simp [go_sem]
 · intro f' hf'; simp [Target.leads] at hf'; subst hf'; exact hFg
 · simp [invoke, go_sem, eg]
 · refine (hseq (w.heap.size + 1)
    (fun k W => I k W ∧ W.heap[w.heap.size + 1]? = some (.loop (rec .ready none)) ∧ W.heap[w.heap.size]? = some (.deferred (some [])))
    (fun k W => ∃ c, Ix c k W ∧ W.heap[w.heap.size + 1]? = some (.loop (rec .done (some c))) ∧ W.heap[w.heap.size]? = some (.deferred (some [])))
    W1 hb1 ?_ ⟨hI1, hL1, hK1⟩).mono ?_
   · rintro k W ⟨hi, hl, hk⟩ hlen
     have hlt : w.heap.size + 1 < W.heap.size := (Array.getElem?_eq_some_iff.1 hl).1
     have hy := run_yield (P := P) (args := encs k) hl (by rw [hrec]; exact hps k)
     rw [hrec] at hy
     refine ⟨fn, _, assign, body, hy, roundIn_of_wpIn hfn (hassign _ k W _ ⟨_, run_beginRound hl (by rw [hrec]), ?_⟩)⟩
     have hl2 : (W.putObj (w.heap.size + 1) (.loop { rec .ready none with state := .busy })).heap[w.heap.size + 1]? = some (.loop { rec .ready none with state := .busy }) := World.putObj_heap_same hlt
     have hk2 : (W.putObj (w.heap.size + 1) (.loop { rec .ready none with state := .busy })).heap[w.heap.size]? = some (.deferred (some [])) := (World.putObj_heap_other (by omega)).trans hk
     have hw2 : Kp k W (W.putObj (w.heap.size + 1) (.loop { rec .ready none with state := .busy })) := hKb k _ _ _ _ (by omega) hl rfl rfl
     refine wpIn_mono (hbody _ k _ (hI.putObj _ hi (by omega) hl rfl) hlen) ?_
     have fin : ∀ (jump : Option Code) (W3 : World), KeepsFrom w.heap.size (W.putObj (w.heap.size + 1) (.loop { rec .ready none with state := .busy })) W3 →
      (Instr.endRound (w.heap.size + 1) jump).run P W3 = .ok (.bool jump.isNone) (W3.putObj (w.heap.size + 1) (.loop (rec (if jump.isNone then .ready else .done) jump))) ∧
      W3.heap[w.heap.size + 1]? = some (.loop { rec .ready none with state := .busy }) ∧
      (W3.putObj (w.heap.size + 1) (.loop (rec (if jump.isNone then .ready else .done) jump))).heap[w.heap.size + 1]? = some (.loop (rec (if jump.isNone then .ready else .done) jump)) ∧
      (W3.putObj (w.heap.size + 1) (.loop (rec (if jump.isNone then .ready else .done) jump))).heap[w.heap.size]? = some (.deferred (some [])) := fun jump W3 hk3 => by
      have hl3 := hk3.same _ _ (by omega) hl2 rfl
      have := run_endRound (P := P) jump hl3
      rw [hrec] at this ⊢
      exact ⟨this, by rw [hrec] at hl3; exact hl3, World.putObj_heap_same (Array.getElem?_eq_some_iff.1 hl3).1, (World.putObj_heap_other (by omega)).trans (hk3.same _ _ (Nat.le_refl _) hk2 rfl)⟩
     rintro e a3 W3 hp
     cases e with
     | normal =>
      obtain ⟨hk3, hkp3, hi3⟩ := hp
      obtain ⟨hr, hl3, hl4, hk4⟩ := fin none W3 hk3
      exact ⟨_, _, hr, .inl ⟨rfl, ⟨hI.putObj _ hi3 (by omega) hl3 rfl, hl4, hk4⟩, hKt k (hKt k hw2 (by simpa using hkp3)) (hKb k _ _ _ _ (by omega) hl3 rfl rfl)⟩⟩
     | ret =>
      obtain ⟨hk3, hi3⟩ := hp
      obtain ⟨hr, hl3, hl4, hk4⟩ := fin (some .ret) W3 hk3
      exact ⟨_, _, hr, .inr ⟨rfl, .ret, (hIx _).putObj _ hi3 (by omega) hl3 rfl, hl4, hk4⟩⟩
     | exit id =>
      obtain ⟨hk3, hi3⟩ := hp
      obtain ⟨hr, hl3, hl4, hk4⟩ := fin (some (.exit id)) W3 hk3
      exact ⟨_, _, hr, .inr ⟨rfl, .exit id, (hIx _).putObj _ hi3 (by omega) hl3 rfl, hl4, hk4⟩⟩
     | goto t =>
      obtain ⟨hk3, hi3⟩ := hp
      obtain ⟨hr, hl3, hl4, hk4⟩ := fin (some (.goto t)) W3 hk3
      exact ⟨_, _, hr, .inr ⟨rfl, .goto t, (hIx _).putObj _ hi3 (by omega) hl3 rfl, hl4, hk4⟩⟩
     | panic ch => exact hp.elim
     | outgrown => exact hp.elim
   · rintro e W2 ⟨⟨v, rfl⟩, (⟨hi, hl, hk⟩ | ⟨k, hk', c, hi, hl, hk⟩)⟩
     · exact ⟨none, _, by have := run_endLoop (P := P) hl (by rw [hrec]; simp [rec']); rw [hrec] at this; exact this, hdone _ _ (Nat.le_refl _) (hI.putObj _ hi (by omega) hl rfl) ((World.putObj_heap_other (by omega)).trans hk)⟩
     · exact ⟨some c, _, by have := run_endLoop (P := P) hl (by rw [hrec]; simp [rec']); rw [hrec] at this; exact this, hstop _ c k _ (Nat.le_refl _) hk' ((hIx c).putObj _ hi (by omega) hl rfl) ((World.putObj_heap_other (by omega)).trans hk)⟩
end Go.WR
namespace Go.WR
open Go.RowKit
variable {n : Nat} {P : Program}
def Op1 (n : Nat) (P : Program) (o : Oper) (a : Act) (w : World) (R : Value → World → Prop) : Prop :=
 ∀ (K : Act → World → Prop) (Q : Exit → Act → World → Prop), (∀ v w', R v w' → K (a.put o.dst v) w') → o.wpIn Fence.wide n P a w K Q
theorem Op1.mono {o : Oper} {a : Act} {w : World} {R R' : Value → World → Prop} (h : Op1 n P o a w R) (hr : ∀ v w', R v w' → R' v w') : Op1 n P o a w R' :=
 fun K Q hK => h K Q fun v w' hv => hK v w' (hr v w' hv)
theorem Op1.of_run {o : Oper} {a : Act} {w w' : World} {v : Value} {R : Value → World → Prop} (h : (execOp a.eval o).run P w = .ok (.value v) w') (hr : R v w') : Op1 n P o a w R := by
 intro K Q hK
 refine ⟨fun _ _ => trivial, ?_⟩
 simp only [Fence.wide_round, Oper.semAt_none, h, Oper.uponIn_value]
 exact hK _ _ hr
theorem Op1.of_skip {o : Oper} {a : Act} {w w' : World} {R : Value → World → Prop} (h : (execOp a.eval o).run P w = .ok .skip w') (hr : R undef w') : Op1 n P o a w R := by
 intro K Q hK
 refine ⟨fun _ _ => trivial, ?_⟩
 simp only [Fence.wide_round, Oper.semAt_none, h, Oper.uponIn_skip]
 exact hK _ _ hr
theorem run_call {ρ : Operand → Value} {o : Oper} {w : World} {f : Nat} {fn : Func} {xs : Array Operand} {ts : Array TypeId} (ho : o.op = .call { callee := .value (.func f), args := xs, argTypes := ts })
 (hr : ρ (.func f) = .func (.func f) #[] #[]) (hf : P.funcs[f]? = some fn) (hn : (fn.name == "runtime.NumGoroutine") = false) (hb : fn.body.isNone = false) :
 (execOp ρ o).run P w = .ok (.enter f (xs.map ρ)) w := by
 unfold execOp
 simp only [ho, resolve, hr, Deferred.ofValue, invoke, callFunc, Sem.run_bind, Sem.run_pure, Result.andThen_ok, run_program, hf, hn, hb]
 simp
theorem Op1.of_call {o : Oper} {a : Act} {w : World} {f : Nat} {vs : Array Value} {R : Value → World → Prop} (h : (execOp a.eval o).run P w = .ok (.enter f vs) w)
 (hc : Calls P f vs w fun e w' => ∃ v, e = .returned v ∧ R v w') : Op1 n P o a w R := by
 intro K Q hK
 refine ⟨fun _ _ => trivial, ?_⟩
 simp only [Fence.wide_round, Oper.semAt_none, h, Oper.uponIn_enter]
 refine ⟨(fun h => by cases h), CallsIn.mono (callsIn_wide.2 hc) ?_⟩
 rintro e w' ⟨v, rfl, hv⟩
 exact hK _ _ hv
def dstOf (ops : Array Oper) (i : Nat) : Option Nat := (ops[i]?).bind (·.dst)
def slotsOK (ops : Array Oper) (nt : Nat) (ds : List (Nat × Nat)) : Bool :=
 ((List.range ops.size).all fun i => match dstOf ops i with | some s => ds.contains (i, s) && decide (s < nt) | none => true) &&
 (ds.all fun p => dstOf ops p.1 == some p.2) && decide ((ds.map (·.2)).Nodup)
def putAll (ds : List (Nat × Nat)) (u : Nat → Value) (t : Array Value) : Array Value := ds.foldl (fun t p => t.setIfInBounds p.2 (u p.1)) t
theorem putAll_other (ds : List (Nat × Nat)) (u : Nat → Value) (t : Array Value) (k : Nat) (h : ∀ p ∈ ds, p.2 ≠ k) : (putAll ds u t)[k]? = t[k]? := by
 unfold putAll
 induction ds generalizing t with
 | nil => rfl
 | cons p ds ih =>
  simp only [List.foldl_cons]
  rw [ih _ (fun q hq => h q (List.mem_cons_of_mem _ hq)), Array.getElem?_setIfInBounds_ne (h p (by simp))]
theorem putAll_at (ds : List (Nat × Nat)) (u : Nat → Value) (t : Array Value) (hnd : (ds.map (·.2)).Nodup) (p : Nat × Nat) (hp : p ∈ ds) (hk : p.2 < t.size) : (putAll ds u t)[p.2]? = some (u p.1) := by
 induction ds generalizing t with
 | nil => cases hp
 | cons q ds ih =>
  simp only [List.map_cons, List.nodup_cons] at hnd
  rcases List.mem_cons.1 hp with rfl | hp
  · show (putAll ds u (t.setIfInBounds p.2 (u p.1)))[p.2]? = _
    rw [putAll_other _ _ _ _ (fun r hr e => hnd.1 (by rw [← e]; exact List.mem_map_of_mem hr))]
    simp [hk]
  · show (putAll ds u (t.setIfInBounds q.2 (u q.1)))[p.2]? = _
    exact ih _ hnd.2 hp (by simpa using hk)
structure Meets (ops : Array Oper) (V : Nat → Value → World → Prop) (a a' : Act) (W : World) (o : Oper) : Prop where
 size : a'.tmps.size = a.tmps.size
 old : ∀ k, (∀ i, dstOf ops i ≠ some k) → a'.tmps.getD k undef = a.tmps.getD k undef
 dep : ∀ e ∈ o.after, Region.binds .any e = true → ∀ s, dstOf ops e.on = some s → V e.on (a'.tmps.getD s undef) W
theorem wanted_of {ops : Array Oper} {o : Oper} {t : Array Value} {g s : Nat} {b c : Bool} (ho : o.guard = some (g, b)) (hd : dstOf ops g = some s) (hv : t.getD s undef = .bool c) (hs : s < t.size) :
 Region.wanted o (yielded ops t) = (c == b) := by
 unfold dstOf at hd
 have e : t[s]? = some (.bool c) := by
  rw [Array.getD_eq_getD_getElem?] at hv
  simp [hs] at hv ⊢; exact hv
 simp only [Region.wanted, ho, yielded, hd, Option.bind_some, e]
 cases b <;> cases c <;> rfl
theorem wanted_none {ops : Array Oper} {o : Oper} {t : Array Value} (ho : o.guard = none) : Region.wanted o (yielded ops t) = true := by simp [Region.wanted, ho]
end Go.WR
namespace Go.WR
theorem lu {dn : Nat → Bool} {i j : Nat} {b : Bool} (h0 : upd dn j i = b) (h : decide (i = j) = false := by rfl) : dn i = b := by
  have hn := of_decide_eq_false h
  simpa [upd, hn] using h0
theorem lf {dn : Nat → Bool} {i j : Nat} {b : Bool} {p : Prop} (f : dn i = b → p) (h : decide (i = j) = false := by rfl) : upd dn j i = b → p := fun h0 => f (by
  have hn := of_decide_eq_false h
  simpa [upd, hn] using h0)
end Go.WR
