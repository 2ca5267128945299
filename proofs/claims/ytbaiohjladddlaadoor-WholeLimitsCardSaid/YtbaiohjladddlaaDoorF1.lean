import Derived.Test.YtbaiohjladddlaaDoorR1
/- A region that draws its order and ends in operations that wait for all others. -/
namespace Go.WR
open Go.RowKit
variable {n : Nat} {P : Program}

/-- the tail waits for all that stands ahead -/
def tailOK (ops : Array Oper) (m : Nat) : Bool :=
  (List.range ops.size).all fun i => decide (i < m) || match ops[i]? with
    | some o => (List.range i).all fun j => o.after.any fun e => Region.binds .any e && decide (e.on = j)
    | none => true

theorem wpListIn_op {ops : Array Oper} {Q : Exit → Act → World → Prop} {i : Nat} {o : Oper} {rest : List Oper} {a : Act} {w : World} (ho : ops[i]? = some o) (h : wpListIn Fence.wide n P ops Q (o :: rest) a w) : wpOpIn Fence.wide n P ops Q i (wpListIn Fence.wide n P ops Q rest) a w := by
  unfold wpOpIn
  rw [ho]
  exact h

/-- the law where the region ends in operations that wait for all others: these are walked in their order -/
theorem wpIn_region_front {id : Nat} {ops : Array Oper} {Q : Exit → Act → World → Prop} {a : Act} {w : World} (m : Nat) (ds : List (Nat × Nat)) (Inv : World → Prop) (V : Nat → Value → World → Prop)
    (hm : P.follows .mixedOrders = true) (hac : acyc ops = true) (hds : slotsOK (ops.extract 0 m) a.tmps.size ds = true) (htail : tailOK ops m = true) (hsz : m ≤ ops.size)
    (h0 : Inv w.drew)
    (hstep : ∀ (i : Nat) (o : Oper), i < m → ops[i]? = some o → ∀ (a' : Act) (W : World), Inv W → Meets (ops.extract 0 m) V a a' W o →
      (Region.wanted o (yielded ops a'.tmps) = true ∧ Op1 n P o a' W (fun v W' => Inv W' ∧ V i v W' ∧ ∀ j u, V j u W → V j u W')) ∨
      (Region.wanted o (yielded ops a'.tmps) = false ∧ V i undef W))
    (hend : ∀ (u : Nat → Value) (W : World), Inv W → (∀ i s, dstOf (ops.extract 0 m) i = some s → V i (u i) W) → wpListIn Fence.wide n P ops Q (ops.toList.drop m) ⟨putAll ds u a.tmps, a.defers⟩ W) :
    (Code.region id ops true).wpIn Fence.wide n P Q a w := by
  simp only [slotsOK, Bool.and_eq_true, List.all_eq_true, decide_eq_true_eq] at hds
  obtain ⟨⟨hd1, hd2⟩, hd3⟩ := hds
  have hex : ∀ i, i < m → (ops.extract 0 m)[i]? = ops[i]? := by
    intro i hi
    rw [Array.getElem?_extract]
    simp only [Nat.zero_add]
    rw [if_pos (by omega)]
  have hexn : ∀ i, m ≤ i → dstOf (ops.extract 0 m) i = none := by
    intro i hi
    unfold dstOf
    rw [Array.getElem?_eq_none (by rw [Array.size_extract]; omega)]
    rfl
  have hd1' : ∀ i s, dstOf (ops.extract 0 m) i = some s → (i, s) ∈ ds ∧ s < a.tmps.size := by
    intro i s h
    have hi : i < (ops.extract 0 m).size := by
      apply Nat.lt_of_not_le
      intro hge
      unfold dstOf at h
      rw [Array.getElem?_eq_none hge] at h
      cases h
    have := hd1 i (List.mem_range.2 hi)
    rw [h] at this
    simpa using this
  have hd2' : ∀ p ∈ ds, dstOf (ops.extract 0 m) p.1 = some p.2 := fun p hp => by simpa using hd2 p hp
  have huniq : ∀ i j s, dstOf (ops.extract 0 m) i = some s → dstOf (ops.extract 0 m) j = some s → i = j := by
    intro i j s hi hj
    have h1 := (hd1' i s hi).1
    have h2 := (hd1' j s hj).1
    have : ∀ (l : List (Nat × Nat)), (l.map (·.2)).Nodup → (i, s) ∈ l → (j, s) ∈ l → i = j := by
      intro l
      induction l with
      | nil => intro _ h; cases h
      | cons q l ih =>
        intro hn h h'
        simp only [List.map_cons, List.nodup_cons] at hn
        rcases List.mem_cons.1 h with rfl | h <;> rcases List.mem_cons.1 h' with h' | h'
        · simp only [Prod.mk.injEq] at h'; exact h'.1.symm
        · exact absurd (List.mem_map_of_mem (f := (·.2)) h') hn.1
        · rw [← h'] at hn; exact absurd (List.mem_map_of_mem (f := (·.2)) h) hn.1
        · exact ih hn.2 h h'
    exact this ds hd3 h1 h2
  have hwait : ∀ i o, m ≤ i → ops[i]? = some o → ∀ j, j < i → ∃ e ∈ o.after, Region.binds .any e = true ∧ e.on = j := by
    intro i o hi ho j hj
    unfold tailOK at htail
    rw [List.all_eq_true] at htail
    have hlt := (Array.getElem?_eq_some_iff.1 ho).1
    have h1 := htail i (List.mem_range.2 hlt)
    rw [Bool.or_eq_true, decide_eq_true_eq] at h1
    rcases h1 with h1 | h1
    · omega
    · rw [ho] at h1
      simp only [List.all_eq_true] at h1
      have h2 := h1 j (List.mem_range.2 hj)
      simp only [Array.any_eq_true, Bool.and_eq_true, decide_eq_true_eq] at h2
      obtain ⟨x, hx, hb, hon⟩ := h2
      exact ⟨_, Array.getElem_mem hx, hb, hon⟩
  let front : (Nat → Bool) → Act → World → Prop := fun dn a' W => (∀ i, m ≤ i → dn i = false) ∧ a'.defers = a.defers ∧ a'.tmps.size = a.tmps.size ∧ (∀ k, (∀ i, dn i = true → dstOf (ops.extract 0 m) i ≠ some k) → a'.tmps.getD k undef = a.tmps.getD k undef) ∧
    (∀ i s, dn i = true → dstOf (ops.extract 0 m) i = some s → V i (a'.tmps.getD s undef) W) ∧ Inv W
  have hfrontEnd : ∀ dn a' W, front dn a' W → (∀ i, i < m → dn i = true) → wpListIn Fence.wide n P ops Q (ops.toList.drop m) a' W := by
    rintro dn a' W ⟨_, hdf, hsz', hold, hV, hI⟩ hall
    have hall' : ∀ i s, dstOf (ops.extract 0 m) i = some s → dn i = true := by
      intro i s h
      apply hall
      apply Nat.lt_of_not_le
      intro hge
      rw [hexn i hge] at h
      cases h
    have := hend (fun i => match dstOf (ops.extract 0 m) i with | some s => a'.tmps.getD s undef | none => undef) W hI (fun i s hs => by
      simp only [hs]; exact hV i s (hall' i s hs) hs)
    have e : a' = ⟨putAll ds (fun i => match dstOf (ops.extract 0 m) i with | some s => a'.tmps.getD s undef | none => undef) a.tmps, a.defers⟩ := by
      cases a' with
      | mk t d =>
        simp only at hdf hsz' hold ⊢
        subst hdf
        congr 1
        refine Array.ext_getElem? fun k => ?_
        by_cases hk : ∃ i, dstOf (ops.extract 0 m) i = some k
        · obtain ⟨i, hi⟩ := hk
          obtain ⟨hm1, hm2⟩ := hd1' i k hi
          rw [putAll_at ds _ _ hd3 (i, k) hm1 hm2]
          simp only [hi]
          have : k < t.size := by rw [hsz']; exact hm2
          simp [this]
        · have hk' : ∀ i, dstOf (ops.extract 0 m) i ≠ some k := fun i hi => hk ⟨i, hi⟩
          rw [putAll_other _ _ _ _ (fun p hp e => hk' p.1 (by rw [← e]; exact hd2' p hp))]
          have h1 := hold k (fun i _ => hk' i)
          by_cases hlt : k < t.size
          · have hlt' : k < a.tmps.size := by rw [← hsz']; exact hlt
            simp only [Array.getD_eq_getD_getElem?] at h1
            simp [hlt, hlt'] at h1 ⊢
            exact h1
          · rw [Array.getElem?_eq_none (by omega), Array.getElem?_eq_none (by omega)]
    rw [e]; exact this
  refine wpIn_region_conf (fun dn a' W => front dn a' W ∨ ∃ t, m ≤ t ∧ (∀ i, dn i = true ↔ i < t) ∧ wpListIn Fence.wide n P ops Q (ops.toList.drop t) a' W) hm hac
    (.inl ⟨fun _ _ => rfl, rfl, rfl, fun _ _ => rfl, (fun _ _ h => by cases h), h0⟩) ?_ ?_
  · intro dn a' W hI i o ho hd hdep
    have htailStep : ∀ t, m ≤ t → (∀ k, dn k = true ↔ k < t) → wpListIn Fence.wide n P ops Q (ops.toList.drop t) a' W → m ≤ i → wpOpIn Fence.wide n P ops Q i (fun a'' W' => front (upd dn i) a'' W' ∨ ∃ t, m ≤ t ∧ (∀ k, upd dn i k = true ↔ k < t) ∧ wpListIn Fence.wide n P ops Q (ops.toList.drop t) a'' W') a' W := by
      intro t ht hdn hl hi
      have hit : i = t := by
        rcases Nat.lt_trichotomy i t with h | h | h
        · have := (hdn i).2 h; rw [hd] at this; cases this
        · exact h
        · obtain ⟨e, he, hb, hon⟩ := hwait i o hi ho t h
          have h1 := hdep e he hb
          rw [hon] at h1
          have := (hdn t).1 h1
          omega
      subst hit
      have hlt := (Array.getElem?_eq_some_iff.1 ho).1
      have hcons : ops.toList.drop i = o :: ops.toList.drop (i + 1) := by
        rw [List.drop_eq_getElem_cons (by simpa using hlt)]
        congr 1
        have := (Array.getElem?_eq_some_iff.1 ho).2
        simpa using this
      rw [hcons] at hl
      refine wpOpIn_mono (fun a'' W' h => .inr ⟨i + 1, by omega, fun k => ?_, h⟩) (wpListIn_op ho hl)
      by_cases e : k = i
      · subst e; simp [upd_same]
      · rw [upd_other e, hdn k]; omega
    rcases hI with hF | ⟨t, ht, hdn, hl⟩
    · by_cases hi : i < m
      · obtain ⟨hT, hdf, hsz', hold, hV, hI⟩ := hF
        have hmeet : Meets (ops.extract 0 m) V a a' W o := ⟨hsz', fun k hk => hold k (fun i _ => hk i), fun e he hb s hs => hV _ _ (hdep e he hb) hs⟩
        have hdo : dstOf (ops.extract 0 m) i = o.dst := by unfold dstOf; rw [hex i hi, ho]; rfl
        have hfin : ∀ (v : Value) (W' : World), Inv W' → V i v W' → (∀ j u, V j u W → V j u W') → front (upd dn i) (a'.put o.dst v) W' := by
          intro v W' hI' hv hst
          have hT' : ∀ k, m ≤ k → upd dn i k = false := fun k hk => by rw [upd_other (by omega)]; exact hT k hk
          cases hdst : o.dst with
          | none =>
            refine ⟨hT', hdf, hsz', fun k hk => hold k (fun i' h' => hk i' (upd_mono h')), fun i' s h' hs => ?_, hI'⟩
            by_cases e : i' = i
            · subst e; rw [hdo, hdst] at hs; cases hs
            · rw [upd_other e] at h'; exact hst _ _ (hV i' s h' hs)
          | some d =>
            rw [hdst] at hdo
            have hdlt : d < a'.tmps.size := by rw [hsz']; exact (hd1' i d hdo).2
            refine ⟨hT', hdf, by simpa [Act.put] using hsz', fun k hk => ?_, fun i' s h' hs => ?_, hI'⟩
            · have hne : d ≠ k := fun e => hk i (upd_same _ _) (by rw [hdo, e])
              have := hold k (fun i' h' => hk i' (upd_mono h'))
              simp only [Act.put]
              rw [← this]
              simp only [Array.getD_eq_getD_getElem?]
              rw [Array.getElem?_setIfInBounds_ne hne]
            · by_cases e : i' = i
              · subst e
                rw [hdo] at hs; cases hs
                simp only [Act.put, Array.getD_eq_getD_getElem?]
                simp [hdlt]
                exact hv
              · rw [upd_other e] at h'
                have hne : d ≠ s := fun e' => e (huniq i' i s hs (by rw [hdo, e']))
                simp only [Act.put, Array.getD_eq_getD_getElem?]
                rw [Array.getElem?_setIfInBounds_ne hne]
                have := hst _ _ (hV i' s h' hs)
                simpa only [Array.getD_eq_getD_getElem?] using this
        unfold wpOpIn
        rw [ho]
        rcases hstep i o hi ho a' W hI hmeet with ⟨hw, hop⟩ | ⟨hw, hv⟩
        · simp only [hw, if_true]
          exact hop _ _ fun v W' ⟨h1, h2, h3⟩ => .inl (hfin v W' h1 h2 h3)
        · simp only [hw]
          exact ⟨fun _ _ => trivial, .inl (hfin undef W hI hv (fun _ _ h => h))⟩
      · have hi' : m ≤ i := by omega
        have hall : ∀ j, j < i → dn j = true := fun j hj => by
          obtain ⟨e, he, hb, hon⟩ := hwait i o hi' ho j hj
          have := hdep e he hb
          rw [hon] at this; exact this
        have him : i = m := by
          rcases Nat.lt_or_ge m i with h | h
          · have h1 := hall m h
            rw [hF.1 m (Nat.le_refl _)] at h1; cases h1
          · omega
        refine htailStep m (Nat.le_refl _) (fun k => ⟨fun h => ?_, fun h => hall k (by omega)⟩) (hfrontEnd dn a' W hF (fun j hj => hall j (by omega))) hi'
        apply Nat.lt_of_not_le
        intro hge
        rw [hF.1 k hge] at h; cases h
    · have hi : m ≤ i := by
        apply Nat.le_of_not_lt
        intro h
        have := (hdn i).2 (by omega)
        rw [hd] at this; cases this
      exact htailStep t ht hdn hl hi
  · intro dn a' W hI hall
    rcases hI with hF | ⟨t, ht, hdn, hl⟩
    · rcases Nat.lt_or_ge m ops.size with h | h
      · have h1 := hall m h
        rw [hF.1 m (Nat.le_refl _)] at h1; cases h1
      · have := hfrontEnd dn a' W hF (fun i hi => hall i (by omega))
        rw [List.drop_eq_nil_of_le (by simpa using h)] at this
        exact this
    · have hts : ops.size ≤ t := by
        apply Nat.le_of_not_lt
        intro h
        have := (hdn t).1 (hall t h)
        omega
      rw [List.drop_eq_nil_of_le (by simpa using hts)] at hl
      exact hl

end Go.WR
