import Derived.Test.YtbaiohjladddlaaDoorF2
/- A region that draws its order, by what has been done: the law for regions that lay boxes and fill them. -/
namespace Go.WR
open Go.RowKit
variable {n : Nat} {P : Program}

def updV (u : Nat → Value) (i : Nat) (v : Value) : Nat → Value := fun j => if j = i then v else u j
theorem updV_same (u : Nat → Value) (i : Nat) (v : Value) : updV u i v i = v := if_pos rfl
theorem updV_other {u : Nat → Value} {i j : Nat} {v : Value} (h : j ≠ i) : updV u i v j = u j := if_neg h

structure MeetsU (ops : Array Oper) (dn : Nat → Bool) (u : Nat → Value) (a a' : Act) : Prop where
  size : a'.tmps.size = a.tmps.size
  old : ∀ k, (∀ i, dstOf ops i ≠ some k) → a'.tmps.getD k undef = a.tmps.getD k undef
  slots : ∀ i s, dn i = true → dstOf ops i = some s → a'.tmps.getD s undef = u i

theorem wpIn_region_state {id : Nat} {ops : Array Oper} {Q : Exit → Act → World → Prop} {a : Act} {w : World} (ds : List (Nat × Nat)) (J : (Nat → Bool) → (Nat → Value) → World → Prop)
    (hm : P.follows .mixedOrders = true) (hac : acyc ops = true) (hds : slotsOK ops a.tmps.size ds = true)
    (h0 : J (fun _ => false) (fun _ => undef) w.drew)
    (hstep : ∀ (dn : Nat → Bool) (u : Nat → Value) (i : Nat) (o : Oper), ops[i]? = some o → dn i = false → (∀ e ∈ o.after, Region.binds .any e = true → dn e.on = true) → ∀ (a' : Act) (W : World), J dn u W → MeetsU ops dn u a a' →
      (Region.wanted o (yielded ops a'.tmps) = true ∧ Op1 n P o a' W (fun v W' => J (upd dn i) (updV u i v) W')) ∨
      (Region.wanted o (yielded ops a'.tmps) = false ∧ J (upd dn i) (updV u i undef) W))
    (hend : ∀ (dn : Nat → Bool) (u : Nat → Value) (W : World), (∀ i, i < ops.size → dn i = true) → J dn u W → Q .normal ⟨putAll ds u a.tmps, a.defers⟩ W) :
    (Code.region id ops true).wpIn Fence.wide n P Q a w := by
  simp only [slotsOK, Bool.and_eq_true, List.all_eq_true, decide_eq_true_eq] at hds
  obtain ⟨⟨hd1, hd2⟩, hd3⟩ := hds
  have hd1' : ∀ i s, dstOf ops i = some s → (i, s) ∈ ds ∧ s < a.tmps.size := by
    intro i s h
    have hi : i < ops.size := by
      apply Nat.lt_of_not_le
      intro hge
      unfold dstOf at h
      rw [Array.getElem?_eq_none hge] at h
      cases h
    have := hd1 i (List.mem_range.2 hi)
    rw [h] at this
    simpa using this
  have hd2' : ∀ p ∈ ds, dstOf ops p.1 = some p.2 := fun p hp => by simpa using hd2 p hp
  have huniq : ∀ i j s, dstOf ops i = some s → dstOf ops j = some s → i = j := by
    intro i j s hi hj
    have h1 := (hd1' i s hi).1
    have h2 := (hd1' j s hj).1
    have : ∀ (l : List (Nat × Nat)), (l.map (·.2)).Nodup → (i, s) ∈ l → (j, s) ∈ l → i = j := by
      intro l
      induction l with
      | nil => intro _ h; cases h
      | cons q l ih =>
        intro hn h h'
        simp only [List.map_cons, List.nodup_cons] at hn
        rcases List.mem_cons.1 h with rfl | h <;> rcases List.mem_cons.1 h' with h' | h'
        · simp only [Prod.mk.injEq] at h'; exact h'.1.symm
        · exact absurd (List.mem_map_of_mem (f := (·.2)) h') hn.1
        · rw [← h'] at hn; exact absurd (List.mem_map_of_mem (f := (·.2)) h) hn.1
        · exact ih hn.2 h h'
    exact this ds hd3 h1 h2
  refine wpIn_region_conf (fun dn a' W => ∃ u : Nat → Value, a'.defers = a.defers ∧ a'.tmps.size = a.tmps.size ∧ (∀ k, (∀ i, dn i = true → dstOf ops i ≠ some k) → a'.tmps.getD k undef = a.tmps.getD k undef) ∧
    (∀ i s, dn i = true → dstOf ops i = some s → a'.tmps.getD s undef = u i) ∧ J dn u W) hm hac ⟨_, rfl, rfl, fun _ _ => rfl, (fun _ _ h => by cases h), h0⟩ ?_ ?_
  · rintro dn a' W ⟨u, hdf, hsz, hold, hV, hI⟩ i o ho hd hdep
    have hmeet : MeetsU ops dn u a a' := ⟨hsz, fun k hk => hold k (fun i _ => hk i), hV⟩
    have hdo : dstOf ops i = o.dst := by unfold dstOf; rw [ho]; rfl
    have hfin : ∀ (v : Value) (W' : World), J (upd dn i) (updV u i v) W' →
        (∃ u : Nat → Value, (a'.put o.dst v).defers = a.defers ∧ (a'.put o.dst v).tmps.size = a.tmps.size ∧ (∀ k, (∀ i', upd dn i i' = true → dstOf ops i' ≠ some k) → (a'.put o.dst v).tmps.getD k undef = a.tmps.getD k undef) ∧
        (∀ i' s, upd dn i i' = true → dstOf ops i' = some s → (a'.put o.dst v).tmps.getD s undef = u i') ∧ J (upd dn i) u W') := by
      intro v W' hI'
      cases hdst : o.dst with
      | none =>
        refine ⟨_, hdf, hsz, fun k hk => hold k (fun i' h' => hk i' (upd_mono h')), fun i' s h' hs => ?_, hI'⟩
        by_cases e : i' = i
        · subst e; rw [hdo, hdst] at hs; cases hs
        · rw [upd_other e] at h'; rw [updV_other e]; exact hV i' s h' hs
      | some d =>
        rw [hdst] at hdo
        have hdlt : d < a'.tmps.size := by rw [hsz]; exact (hd1' i d hdo).2
        refine ⟨_, hdf, by simpa [Act.put] using hsz, fun k hk => ?_, fun i' s h' hs => ?_, hI'⟩
        · have hne : d ≠ k := fun e => hk i (upd_same _ _) (by rw [hdo, e])
          have := hold k (fun i' h' => hk i' (upd_mono h'))
          simp only [Act.put]
          rw [← this]
          simp only [Array.getD_eq_getD_getElem?]
          rw [Array.getElem?_setIfInBounds_ne hne]
        · by_cases e : i' = i
          · subst e
            rw [hdo] at hs; cases hs
            rw [updV_same]
            simp only [Act.put, Array.getD_eq_getD_getElem?]
            simp [hdlt]
          · rw [upd_other e] at h'
            have hne : d ≠ s := fun e' => e (huniq i' i s hs (by rw [hdo, e']))
            rw [updV_other e]
            simp only [Act.put, Array.getD_eq_getD_getElem?]
            rw [Array.getElem?_setIfInBounds_ne hne]
            have := hV i' s h' hs
            simpa only [Array.getD_eq_getD_getElem?] using this
    unfold wpOpIn
    rw [ho]
    rcases hstep dn u i o ho hd hdep a' W hI hmeet with ⟨hw, hop⟩ | ⟨hw, hv⟩
    · simp only [hw, if_true]
      exact hop _ _ fun v W' h1 => hfin v W' h1
    · simp only [hw]
      exact ⟨fun _ _ => trivial, hfin undef W hv⟩
  · rintro dn a' W ⟨u, hdf, hsz, hold, hV, hI⟩ hall
    have hall' : ∀ i s, dstOf ops i = some s → dn i = true := by
      intro i s h
      apply hall
      apply Nat.lt_of_not_le
      intro hge
      unfold dstOf at h
      rw [Array.getElem?_eq_none hge] at h
      cases h
    have := hend dn u W hall hI
    have e : a' = ⟨putAll ds u a.tmps, a.defers⟩ := by
      cases a' with
      | mk t d =>
        simp only at hdf hsz hold ⊢
        subst hdf
        congr 1
        refine Array.ext_getElem? fun k => ?_
        by_cases hk : ∃ i, dstOf ops i = some k
        · obtain ⟨i, hi⟩ := hk
          obtain ⟨hm1, hm2⟩ := hd1' i k hi
          rw [putAll_at ds _ _ hd3 (i, k) hm1 hm2]
          have h1 := hV i k (hall' i k hi) hi
          have : k < t.size := by rw [hsz]; exact hm2
          simp only [Array.getD_eq_getD_getElem?] at h1
          simp [this] at h1 ⊢
          exact h1
        · have hk' : ∀ i, dstOf ops i ≠ some k := fun i hi => hk ⟨i, hi⟩
          rw [putAll_other _ _ _ _ (fun p hp e => hk' p.1 (by rw [← e]; exact hd2' p hp))]
          have h1 := hold k (fun i _ => hk' i)
          by_cases hlt : k < t.size
          · have hlt' : k < a.tmps.size := by rw [← hsz]; exact hlt
            simp only [Array.getD_eq_getD_getElem?] at h1
            simp [hlt, hlt'] at h1 ⊢
            exact h1
          · rw [Array.getElem?_eq_none (by omega), Array.getElem?_eq_none (by omega)]
    rw [e]; exact this

end Go.WR
namespace Go.Proofs.YtbaiohjladddlaaDoor
open Go.RowKit Go.WM Go.WR
attribute [local go_sem] Oper.semAt_some
variable {n : Nat}

theorem opStoreBox {o : Oper} {a : Act} {w : World} {R : Value → World → Prop} {x y : Operand} {B : Nat} {b b0 : Bool} {p p0 : Option Addr} {l c l0 c0 : Nat} (ho : o.op = .store 24 x y) (hx : a.eval x = .pointer (some ⟨B, 0, none⟩)) (hy : a.eval y = .agg #[.bool b, .slice p l c])
    (hb : w.heap[B]? = some (.cells #[.bool b0, .slice p0 l0 c0] 24)) (hr : R undef (put2 w B (.bool b) (.slice p l c))) : Op1 n Tryd.prog o a w R := by
  refine Op1.of_skip ?_ hr
  have e0 := cell_of hb 0 rfl
  have e1 := cell_of hb 1 rfl
  have f0 := frozen_of hb 0
  have f1 := frozen_of hb 1
  have f2 := frozen_of (show (w.setCell ⟨B, 0, none⟩ (.bool b)).heap[B]? = some (.cells #[.bool b, .slice p0 l0 c0] 24) by simp [World.setCell, Array.getElem?_modify, hb]) 1
  unfold execOp
  rw [ho]
  simp only [hx, hy]
  simp [go_sem, e0, e1, put2, f0, f1, f2]

/-- a box to be filled: the operations that lay it, make its number and fill it -/
structure BoxOp (ops : Array Oper) (ks : List Kd) (t : Nat × Nat × Nat) : Prop where
  al : ∃ o, ops[t.1]? = some o ∧ o.op = .alloc 24 ∧ o.guard = none
  st : ∃ o sa sn, ops[t.2.2]? = some o ∧ o.op = .store 24 (.tmp sa) (.tmp sn) ∧ o.guard = none ∧ o.dst = none ∧ dstOf ops t.1 = some sa ∧ dstOf ops t.2.1 = some sn ∧ (∃ e ∈ o.after, Region.binds .any e = true ∧ e.on = t.1) ∧ (∃ e ∈ o.after, Region.binds .any e = true ∧ e.on = t.2.1)
  nu : ∃ z, kd ks t.2.1 = .num z
  any : kd ks t.1 = .any ∧ kd ks t.2.2 = .any

def Boxes (st : List (Nat × Nat × Nat)) (n₀ : Nat) (dn : Nat → Bool) (u : Nat → Value) (W : World) : Prop :=
  ∀ t ∈ st, dn t.1 = true → ∃ B, u t.1 = .pointer (some ⟨B, 0, none⟩) ∧ n₀ ≤ B ∧ (if dn t.2.2 = true then ∃ b p l c, u t.2.1 = .agg #[.bool b, .slice p l c] ∧ W.heap[B]? = some (.cells #[.bool b, .slice p l c] 24) else W.heap[B]? = some (.cells #[.bool false, .slice none 0 0] 24))

theorem KV.put2 {k : Kd} {v : Value} {W : World} {B : Nat} {x : Bool} {p : Option Addr} {l c : Nat} (hnb : ∀ m, k ≠ .box m) (hb : W.heap[B]? = some (.cells #[.bool x, .slice p l c] 24)) (a b : Value) (h : KV k v W) : KV k v (put2 W B a b) := by
  have hs : (YtbaiohjladddlaaDoor.put2 W B a b).heap.size = W.heap.size := (put2_only W B a b).size
  cases k with
  | any => trivial
  | val u => exact h
  | num z => show Wn _ _ _ _; rw [hs]; exact Wn.put2 hb a b h
  | box m => exact absurd rfl (hnb m)
  | pair z er => obtain ⟨x, h1, h2⟩ := h; exact ⟨x, h1, by rw [hs]; exact Wn.put2 hb a b h2⟩
  | trip y z er => obtain ⟨x, x', h1, h2, h3⟩ := h; exact ⟨x, x', h1, by rw [hs]; exact Wn.put2 hb a b h2, by rw [hs]; exact Wn.put2 hb a b h3⟩
  | row B n => exact let ⟨zs, h1, h2⟩ := h; ⟨zs, h1.put2 hb (by decide) a b, h2⟩
  | big B z => exact let ⟨sv, zs, h0, h1, h2⟩ := h; ⟨sv, zs, h0, h1.put2 hb (by decide) a b, h2⟩

def noBox : Kd → Bool
  | .box _ => false
  | _ => true
theorem kd_nobox {ks : List Kd} (h : ks.all noBox = true) : ∀ i m, kd ks i ≠ .box m := by
  intro i m e
  unfold kd at e
  cases hk : ks[i]? with
  | none => rw [hk] at e; cases e
  | some k =>
    rw [hk] at e
    have : k = .box m := e
    subst this
    have := (List.all_eq_true.1 h) _ (List.mem_of_getElem? hk)
    cases this

/-- the law where the region lays boxes and fills them -/
theorem region_boxes {id : Nat} {ops : Array Oper} {Q : Exit → Act → World → Prop} {a : Act} {w : World} (ks : List Kd) (ds : List (Nat × Nat)) (st : List (Nat × Nat × Nat))
    (hm : Tryd.prog.follows .mixedOrders = true) (hac : acyc ops = true) (hds : slotsOK ops a.tmps.size ds = true)
    (hbx : ∀ t ∈ st, BoxOp ops ks t) (hnb : ∀ i m, kd ks i ≠ .box m)
    (hsep : ∀ t ∈ st, ∀ t' ∈ st, t = t' ∨ (t.1 ≠ t'.1 ∧ t.2.2 ≠ t'.2.2))
    (hstep : ∀ (i : Nat) (o : Oper), ops[i]? = some o → (∀ t ∈ st, i ≠ t.1 ∧ i ≠ t.2.2) → ∀ (a' : Act) (W : World), Below w.heap.size w W → MeetsK ops ks ds a a' W o → StepK n ops ks i o a' W)
    (hend : ∀ (u : Nat → Value) (W : World), Below w.heap.size w W → (∀ i s, dstOf ops i = some s → KV (kd ks i) (u i) W) →
      (∀ t ∈ st, ∃ B, u t.1 = .pointer (some ⟨B, 0, none⟩) ∧ w.heap.size ≤ B ∧ ∃ b p l c, u t.2.1 = .agg #[.bool b, .slice p l c] ∧ W.heap[B]? = some (.cells #[.bool b, .slice p l c] 24)) → Q .normal ⟨putAll ds u a.tmps, a.defers⟩ W) :
    (Code.region id ops true).wp Tryd.prog Q a w := by
  refine (wpIn_wide (n := n)).1 ?_
  have hds' := hds
  simp only [slotsOK, Bool.and_eq_true, List.all_eq_true, decide_eq_true_eq] at hds'
  have halst : ∀ t ∈ st, ∀ t' ∈ st, t.2.2 ≠ t'.1 := by
    intro t ht t' ht' e
    obtain ⟨o, h1, h2, _⟩ := (hbx t' ht').al
    obtain ⟨o', _, _, h3, h4, _⟩ := (hbx t ht).st
    rw [e, h1] at h3; cases h3
    rw [h2] at h4; cases h4
  have hnumal : ∀ t ∈ st, ∀ t' ∈ st, t.2.1 ≠ t'.1 ∧ t.2.1 ≠ t'.2.2 := by
    intro t ht t' ht'
    obtain ⟨z, hz⟩ := (hbx t ht).nu
    refine ⟨fun e => ?_, fun e => ?_⟩
    · rw [e, (hbx t' ht').any.1] at hz; cases hz
    · rw [e, (hbx t' ht').any.2] at hz; cases hz
  refine wpIn_region_state ds (fun dn u W => Below w.heap.size w W ∧ (∀ i, dn i = true → KV (kd ks i) (u i) W) ∧ Boxes st w.heap.size dn u W ∧ (∀ t ∈ st, ∀ t' ∈ st, t ≠ t' → dn t.1 = true → dn t'.1 = true → u t.1 ≠ u t'.1) ∧ (∀ t ∈ st, dn t.2.2 = true → dn t.1 = true ∧ dn t.2.1 = true)) hm hac hds
    ⟨(Below.refl _ _).drew, (fun _ h => by cases h), (fun _ _ h => by cases h), (fun _ _ _ _ _ h => by cases h), (fun _ _ h => by cases h)⟩ ?_ ?_
  · rintro dn u i o ho hd hdep a' W ⟨hB, hK, hX, hD, hS⟩ hM
    have hbd : ∀ t ∈ st, ∀ B, u t.1 = .pointer (some ⟨B, 0, none⟩) → dn t.1 = true → B < W.heap.size := by
      intro t ht B e hdt
      obtain ⟨B', e', _, h3⟩ := hX t ht hdt
      rw [e'] at e
      simp only [Value.pointer.injEq, Option.some.injEq, Addr.mk.injEq, and_true] at e
      subst e
      split at h3
      · obtain ⟨b, p, l, c, _, h4⟩ := h3; exact (Array.getElem?_eq_some_iff.1 h4).1
      · exact (Array.getElem?_eq_some_iff.1 h3).1
    by_cases hal : ∃ t ∈ st, i = t.1
    · -- a box is laid
      obtain ⟨t, ht, rfl⟩ := hal
      obtain ⟨o', h1, h2, h3⟩ := (hbx t ht).al
      rw [ho] at h1; cases h1
      refine .inl ⟨wanted_none h3, opAlloc h2 ?_⟩
      have hb : Below W.heap.size W (W.alloc (.cells #[.bool false, .slice none 0 0] 24)) := (Below.refl _ _).alloc (Nat.le_refl _) _
      refine ⟨hB.trans (hb.mono hB.size), fun j hj => ?_, fun t' ht' hj => ?_, fun t' ht' t'' ht'' hne g1 g2 => ?_, fun t' ht' hj => ?_⟩
      · by_cases e : j = t.1
        · subst e; rw [(hbx t ht).any.1]; trivial
        · rw [upd_other e] at hj; rw [updV_other e]; exact (hK j hj).later hb
      · by_cases e : t'.1 = t.1
        · have e' : t' = t := (hsep t' ht' t ht).resolve_right fun h => h.1 e
          subst e'
          rw [updV_same, upd_other (halst t' ht' t' ht')]
          have hdf : dn t'.2.2 ≠ true := fun hh => by rw [(hS t' ht' hh).1] at hd; cases hd
          refine ⟨_, rfl, hB.size, ?_⟩
          rw [if_neg hdf]
          exact alloc_new _ _ rfl
        · rw [upd_other e] at hj
          obtain ⟨B, g1, g2, g3⟩ := hX t' ht' hj
          have hlt := hbd t' ht' B g1 hj
          rw [updV_other e, upd_other (halst t' ht' t ht)]
          refine ⟨B, g1, g2, ?_⟩
          rw [hb.block B hlt, updV_other (hnumal t' ht' t ht).1]
          exact g3
      · by_cases e1 : t'.1 = t.1
        · have e2 : t''.1 ≠ t.1 := fun e2 => hne ((hsep t' ht' t'' ht'').resolve_right fun h => h.1 (e1.trans e2.symm))
          rw [upd_other e2] at g2
          rw [e1, updV_same, updV_other e2]
          intro e
          exact absurd (hbd t'' ht'' _ e.symm g2) (Nat.lt_irrefl _)
        · rw [upd_other e1] at g1
          rw [updV_other e1]
          by_cases e2 : t''.1 = t.1
          · rw [e2, updV_same]
            intro e
            exact absurd (hbd t' ht' _ e g1) (Nat.lt_irrefl _)
          · rw [upd_other e2] at g2; rw [updV_other e2]; exact hD t' ht' t'' ht'' hne g1 g2
      · rw [upd_other (halst t' ht' t ht)] at hj
        exact ⟨upd_mono (hS t' ht' hj).1, upd_mono (hS t' ht' hj).2⟩
    · by_cases hst : ∃ t ∈ st, i = t.2.2
      · -- a box is filled
        obtain ⟨t, ht, rfl⟩ := hst
        obtain ⟨o', sa, sn, h1, h2, h3, h4, h5, h6, ⟨e1, m1, k1, j1⟩, ⟨e2, m2, k2, j2⟩⟩ := (hbx t ht).st
        rw [ho] at h1; cases h1
        have da : dn t.1 = true := by rw [← j1]; exact hdep e1 m1 k1
        have dnn : dn t.2.1 = true := by rw [← j2]; exact hdep e2 m2 k2
        obtain ⟨B, g1, g2, g3⟩ := hX t ht da
        have hlt := hbd t ht B g1 da
        rw [if_neg (by rw [hd]; decide)] at g3
        obtain ⟨z, hz⟩ := (hbx t ht).nu
        have hn := hK _ dnn
        rw [hz] at hn
        obtain ⟨b, p, l, c, ev⟩ := Wn.form hn
        refine .inl ⟨wanted_none h3, opStoreBox h2 (x := .tmp sa) (y := .tmp sn) (b := b) (p := p) (l := l) (c := c) ((hM.slots _ _ da h5).trans g1) ((hM.slots _ _ dnn h6).trans ev) g3 ?_⟩
        have ho2 := put2_only W B (.bool b) (.slice p l c)
        have hb : Below w.heap.size W (put2 W B (.bool b) (.slice p l c)) := ho2.below g2
        refine ⟨hB.trans hb, fun j hj => ?_, fun t' ht' hj => ?_, fun t' ht' t'' ht'' hne g4 g5 => ?_, fun t' ht' hj => ?_⟩
        · by_cases e : j = t.2.2
          · subst e; rw [(hbx t ht).any.2]; trivial
          · rw [upd_other e] at hj; rw [updV_other e]; exact (hK j hj).put2 (hnb j) g3 _ _
        · have ea : t'.1 ≠ t.2.2 := fun e => halst t ht t' ht' e.symm
          rw [upd_other ea] at hj
          rw [updV_other ea, updV_other (hnumal t' ht' t ht).2]
          by_cases e : t' = t
          · subst e
            refine ⟨B, g1, g2, ?_⟩
            rw [upd_same, if_pos rfl]
            exact ⟨b, p, l, c, ev, put2_heap g3 _ _⟩
          · have es : t'.2.2 ≠ t.2.2 := ((hsep t' ht' t ht).resolve_left e).2
            rw [upd_other es]
            obtain ⟨B', q1, q2, q3⟩ := hX t' ht' hj
            have hBB : B' ≠ B := fun eb => by
              have := hD t' ht' t ht e hj da
              rw [q1, g1, eb] at this
              exact this rfl
            exact ⟨B', q1, q2, by rw [ho2.block B' hBB]; exact q3⟩
        · have ea : t'.1 ≠ t.2.2 := fun e => halst t ht t' ht' e.symm
          have eb : t''.1 ≠ t.2.2 := fun e => halst t ht t'' ht'' e.symm
          rw [upd_other ea] at g4; rw [upd_other eb] at g5
          rw [updV_other ea, updV_other eb]
          exact hD t' ht' t'' ht'' hne g4 g5
        · by_cases e : t'.2.2 = t.2.2
          · have e' : t' = t := (hsep t' ht' t ht).resolve_right fun h => h.2 e
            subst e'
            exact ⟨upd_mono da, upd_mono dnn⟩
          · rw [upd_other e] at hj
            exact ⟨upd_mono (hS t' ht' hj).1, upd_mono (hS t' ht' hj).2⟩
      · -- another operation
        have hi : ∀ t ∈ st, i ≠ t.1 ∧ i ≠ t.2.2 := fun t ht => ⟨fun e => hal ⟨t, ht, e⟩, fun e => hst ⟨t, ht, e⟩⟩
        have hgen : ∀ (v : Value) (W' : World), Below W.heap.size W W' → KV (kd ks i) v W' →
            (Below w.heap.size w W' ∧ (∀ j, upd dn i j = true → KV (kd ks j) (updV u i v j) W') ∧ Boxes st w.heap.size (upd dn i) (updV u i v) W' ∧ (∀ t ∈ st, ∀ t' ∈ st, t ≠ t' → upd dn i t.1 = true → upd dn i t'.1 = true → updV u i v t.1 ≠ updV u i v t'.1) ∧ (∀ t ∈ st, upd dn i t.2.2 = true → upd dn i t.1 = true ∧ upd dn i t.2.1 = true)) := by
          intro v W' hb hv
          refine ⟨hB.trans (hb.mono hB.size), fun j hj => ?_, fun t ht hj => ?_, fun t ht t' ht' hne h1 h2 => ?_, fun t ht hj => ?_⟩
          · by_cases e : j = i
            · subst e; rw [updV_same]; exact hv
            · rw [upd_other e] at hj; rw [updV_other e]; exact (hK j hj).later hb
          · have e1 : t.1 ≠ i := fun e => (hi t ht).1 e.symm
            have e2 : t.2.2 ≠ i := fun e => (hi t ht).2 e.symm
            rw [upd_other e1] at hj
            obtain ⟨B, h1, h2, h3⟩ := hX t ht hj
            have hlt := hbd t ht B h1 hj
            rw [updV_other e1, upd_other e2]
            refine ⟨B, h1, h2, ?_⟩
            rw [hb.block B hlt]
            by_cases hdt : dn t.2.2 = true
            · have e3 : t.2.1 ≠ i := fun e => by have := (hS t ht hdt).2; rw [e, hd] at this; cases this
              rw [updV_other e3]; exact h3
            · rw [if_neg hdt] at h3 ⊢; exact h3
          · have e1 : t.1 ≠ i := fun e => (hi t ht).1 e.symm
            have e2 : t'.1 ≠ i := fun e => (hi t' ht').1 e.symm
            rw [upd_other e1] at h1; rw [upd_other e2] at h2
            rw [updV_other e1, updV_other e2]
            exact hD t ht t' ht' hne h1 h2
          · rw [upd_other (fun e => (hi t ht).2 e.symm)] at hj
            exact ⟨upd_mono (hS t ht hj).1, upd_mono (hS t ht hj).2⟩
        have hM' : MeetsK ops ks ds a a' W o := ⟨hM.size, fun k hk => hM.old k (fun j hj => by
          have hi : j < ops.size := by
            apply Nat.lt_of_not_le
            intro hge
            unfold dstOf at hj
            rw [Array.getElem?_eq_none hge] at hj
            cases hj
          have h1 := hds'.1.1 j (List.mem_range.2 hi)
          rw [hj] at h1
          have h2 : (j, k) ∈ ds := by simp at h1; exact h1.1
          rw [List.all_eq_true] at hk
          have := hk _ h2
          simp at this), fun e he hb s hs => by rw [hM.slots _ _ (hdep e he hb) hs]; exact hK _ (hdep e he hb)⟩
        rcases hstep i o ho hi a' W hB hM' with ⟨h1, h2⟩ | ⟨h1, h2⟩
        · exact .inl ⟨h1, h2.mono fun v W' ⟨h3, h4⟩ => hgen v W' h4 h3⟩
        · exact .inr ⟨h1, hgen undef W (Below.refl _ _) (by rw [h2]; trivial)⟩
  · rintro dn u W hall ⟨hB, hK, hX, hD, hS⟩
    have hlt : ∀ i s, dstOf ops i = some s → dn i = true := by
      intro i s h
      apply hall
      apply Nat.lt_of_not_le
      intro hge
      unfold dstOf at h
      rw [Array.getElem?_eq_none hge] at h
      cases h
    refine hend u W hB (fun i s hs => hK i (hlt i s hs)) fun t ht => ?_
    obtain ⟨o, h1, _⟩ := (hbx t ht).al
    obtain ⟨o', _, _, h2, _⟩ := (hbx t ht).st
    obtain ⟨B, g1, g2, g3⟩ := hX t ht (hall _ (Array.getElem?_eq_some_iff.1 h1).1)
    rw [if_pos (hall _ (Array.getElem?_eq_some_iff.1 h2).1)] at g3
    exact ⟨B, g1, g2, g3⟩

end Go.Proofs.YtbaiohjladddlaaDoor
