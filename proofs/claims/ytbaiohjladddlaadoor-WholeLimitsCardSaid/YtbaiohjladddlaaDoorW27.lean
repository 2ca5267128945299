import Derived.Test.YtbaiohjladddlaaDoorW26
/- whole: Int, where the number has at most four limbs. -/
namespace Go.Proofs.YtbaiohjladddlaaDoor
open Go.RowKit Go.WM Go.WR
attribute [local go_sem] Oper.semAt_some

theorem neg_back {z m : Int} (hz : z < 0) (e : m = z.natAbs) (h : m ≤ 9223372036854775808) : -9223372036854775808 ≤ z ∧ z < 9223372036854775808 ∧ wrap64 (IntKind.u64.wrap (-m)) = z ∧ (0 : Int) = 0 := by
  refine ⟨by omega, by omega, ?_, rfl⟩
  have e1 : IntKind.u64.wrap (-m) = 18446744073709551616 - m := by rw [IntKind.wrap_u64]; omega
  rw [e1]
  unfold wrap64
  omega

set_option maxRecDepth 100000 in
set_option maxHeartbeats 2000000 in
theorem Int_short (va : Value) (z : Int) (w : World) (hA : Wn w.heap.size w va z) (hsmall : (z.natAbs : Int) < 18446744073709551616) : Calls Tryd.prog 35 #[va] w (IntPost z w) := by
  obtain ⟨zs, hr, hR, hc, hlen, hok⟩ := hA.raw
  obtain ⟨sv, rfl, hL⟩ := hr
  obtain ⟨p, l, c, rfl⟩ := hL.form
  have hl := hL.cells.1
  have h4 : l ≤ 4 := by
    have := hR.len_le_iff 4
    have e : (65536 : Int) ^ 4 = 18446744073709551616 := by decide
    rw [e] at this
    omega
  obtain ⟨ng, hng⟩ : ∃ ng, ng = decide (z < 0) := ⟨_, rfl⟩
  rw [← hng] at hok ⊢
  have HNG := Lib.hid hng
  have HOK := Lib.hid hok
  have HL := Lib.hid hl
  clear hok hl hng
  obtain ⟨w1, hw1⟩ : ∃ w1, w1 = w.alloc (.cells #[.bool ng, .slice p l c] 24) := ⟨_, rfl⟩
  have hB1 : Below w.heap.size w w1 := by rw [hw1]; exact (Below.refl _ w).alloc (Nat.le_refl _) _
  have hs1 : w1.heap.size = w.heap.size + 1 := by rw [hw1]; simp
  have q0 : w1.heap[w.heap.size]? = some (.cells #[.bool ng, .slice p l c] 24) := by rw [hw1]; exact alloc_new _ _ rfl
  have HW := Lib.hid hw1
  clear hw1
  refine (callsIn_wide (n := 9)).1 ?_
  refine callsIn_of_wp_marks Tryd.func35 rfl trivial ?_ rfl
  simp only [Tryd.ntmps35, List.size_toArray, List.length_cons, List.length_nil, Nat.reduceAdd, Nat.reduceSub, Array.replicate_succ, Array.replicate_zero, List.push_toArray, List.append_toArray, List.nil_append, List.cons_append]
  gi_wp2_with (first | (refine ⟨trivial, ?_⟩; gi_at_call 15; rw [← HW.out]; refine ((callsIn_wide (n := 8)).2 (Valid_any (.agg #[.bool ng, .slice p l c]) ng zs w1 ⟨_, rfl, (hL.below hB1).mono hB1.size⟩ (by omega))).mono ?_; rintro e w2 ⟨rfl, hb2⟩; rw [HOK.out]; have p0 := (hb2.block _ (show w.heap.size < w1.heap.size by omega)).trans q0; have c0 := cell_of p0 0 rfl; have c1 := cell_of p0 1 rfl; have hs2 : w.heap.size + 1 ≤ w2.heap.size := (by have := hb2.size; omega); have hB2 := hB1.trans (hb2.mono hB1.size); have d1 := cell_of (alloc_old w2 (.cells #[.int .u64 0] 82) p0) 1 rfl; clear hs1 q0 hb2 hsmall hc) | (refine ⟨trivial, ?_⟩; gi_at_call 65; refine ((callsIn_wide (n := 8)).2 (down_any _ _ _ _)).mono ?_; rintro e w' ⟨rfl, rfl⟩))
  have bU := (Boxed.new w2 82 (.int .u64 0)).alloc (.cells #[.slice p l c] 22)
  have bA := Boxed.new (w2.alloc (.cells #[.int .u64 0] 82)) 22 (.slice p l c)
  rw [World.size_alloc] at bA
  have hBW : Below w.heap.size w ((w2.alloc (.cells #[.int .u64 0] 82)).alloc (.cells #[.slice p l c] 22)) := (hB2.alloc hB2.size _).alloc (by simp; omega) _
  have p1 := alloc_old _ (.cells #[.slice p l c] 22) (alloc_old w2 (.cells #[.int .u64 0] 82) p0)
  have hz : ((w2.alloc (.cells #[.int .u64 0] 82)).alloc (.cells #[.slice p l c] 22)).heap.size = w2.heap.size + 2 := by simp
  clear d1 c0 c1 p0
  generalize (w2.alloc (.cells #[.int .u64 0] 82)).alloc (.cells #[.slice p l c] 22) = W0 at *
  refine' wpIn_range (n := 9) (gf := 86) (lb := #[.pointer (some ⟨w2.heap.size + 1, 0, none⟩)]) (N := zs.length) rfl (by omega) rfl trivial (enters_of Tryd.func86 (by kernel_rfl) rfl)
    (down_seq Fence.wide 8 trivial rfl (by omega) _ w.heap.size _ zs (by omega) W0 (by omega) bA (hL.below hBW)) keep1_t (keep1_b (by omega)) (fun _ => rfl)
    (fun k W => Boxed W w2.heap.size 82 (.int .u64 (val (zs.drop (l - k)))) ∧ W.heap[w.heap.size]? = some (.cells #[.bool ng, .slice p l c] 24) ∧ Below w.heap.size w W)
    (fun c _ W => False)
    ?hI ?hIx ?h0 _ ?assign ?body ?done ?stop
  case hI =>
    rintro k W W' row ⟨bU, hp, hB⟩ hg hr
    exact ⟨bU.kept hg (fun e => by obtain ⟨_, o, ho, hc⟩ := hr _ e.symm; rw [show W.heap[_]? = _ from bU] at ho; cases ho; cases hc), (hg.block _ (Array.getElem?_eq_some_iff.1 hp).1 (fun e => by obtain ⟨h, _⟩ := hr _ e.symm; omega)).trans hp, hB.grown hg (by have := hB.size; omega) (fun k e => by have := (hr k e).1; omega)⟩
  case hIx => exact fun c => ownFrom_pure _ _
  case h0 => exact ⟨by have := HL.out; rw [Nat.sub_zero, List.drop_eq_nil_of_le (by omega)]; exact bU, p1, hBW⟩
  case assign =>
    intro l' x W K hK
    simp only [downs]
    gi_wp2
    exact hK
  case body =>
    rintro l' k W ⟨bU, hp, hB⟩ hk
    have hlen' := HL.out
    obtain ⟨m, hm⟩ : ∃ m : Nat, m = zs.length - 1 - k := ⟨_, rfl⟩
    rw [← hm]
    have hd := val_drop (l := zs) (k := m) (by omega)
    rw [show m + 1 = l - k by omega] at hd
    have hu1 := val_lt (hR.lm.drop (l - k))
    have hu0 := val_nonneg (hR.lm.drop (l - k))
    have hp3 := pow_le_pow' (show (zs.drop (l - k)).length ≤ 3 by rw [List.length_drop]; omega)
    rw [show (65536 : Int) ^ 3 = 281474976710656 by decide] at hp3
    obtain ⟨x0, x1⟩ := hR.lm.getD m
    have hm' : m = l - (k + 1) := by omega
    have HD := Lib.hid hd
    have HM := Lib.hid hm'
    clear hlen' hm hd hm'
    generalize val (zs.drop (l - k)) = u at *
    generalize zs[m]?.getD 0 = x at *
    have hu2 : u < 281474976710656 := by omega
    have hor := WB.or_16 (k := .u64) (r := u) (x := x) rfl hu0 x0 x1 (show _ < (18446744073709551616 : Int) by omega)
    have hcU := bU.cell
    have hfU := bU.frozen
    clear hu1 hp3
    gi_wp2
    refine ⟨(KeepsOthers.setCell _ _ _).from _, Keep1.set (by show w.heap.size ≤ w2.heap.size; omega) (by show w2.heap.size + 1 ≠ w2.heap.size; omega) _, ?_, (Below.heap_setCell _ _ _ _ (by show w.heap.size ≠ w2.heap.size; omega)).trans hp, hB.setCell (p := ⟨w2.heap.size, 0, none⟩) (by show w.heap.size ≤ w2.heap.size; omega) _⟩
    rw [← HM.out, HD.out, show x + 65536 * u = u * 65536 + x by omega]
    exact bU.set _
  case done =>
    rintro D W hD ⟨bU, hp, hB⟩ hK
    have hv : val (zs.drop (l - zs.length)) = z.natAbs := by have := HL.out; rw [show l - zs.length = 0 by omega, List.drop_zero]; exact hR.eq
    rw [hv] at bU
    obtain ⟨m, hm⟩ : ∃ m : Int, m = z.natAbs := ⟨_, rfl⟩
    rw [← hm] at bU
    have hcU := bU.cell
    have e0 := cell_of hp 0 rfl
    have hm0 : 0 ≤ m := by omega
    have hfin : ∀ (k er : Int), ((-9223372036854775808 ≤ z ∧ z < 9223372036854775808 ∧ k = z ∧ er = 0) ∨ (¬ (-9223372036854775808 ≤ z ∧ z < 9223372036854775808) ∧ k = 0 ∧ er = 3)) → IntPost z w (.returned (.tuple #[.int .i64 k, .int .i64 er])) (W.putObj D (.deferred none)) := fun k er h => ⟨k, er, rfl, h, hB.trans (belowK_b (w := w) (Nat.le_refl _) W D _ _ (by have := hB.size; omega) hK rfl rfl)⟩
    have HF := Lib.hid hfin
    have HMZ := Lib.hid hm
    clear hfin hv hm
    gi_wp2
    · have h1 : ng = true := by assumption
      have h2 : m ≤ 9223372036854775808 := by assumption
      refine ⟨by simp, .inl ⟨_, _, rfl, run_takeDeferred (b := D) hK, ?_⟩⟩
      refine ⟨.tuple #[.int .i64 (wrap64 (IntKind.u64.wrap (-m))), .int .i64 0], by simp [results, Tryd.f35, go_sem], HF.out _ _ (.inl ?_)⟩
      have hz : z < 0 := of_decide_eq_true (by rw [← HNG.out]; exact h1)
      have e := HMZ.out
      exact neg_back hz e h2
    · have h1 : ng = true := by assumption
      have h2 : 9223372036854775808 < m := by assumption
      refine ⟨by simp, .inl ⟨_, _, rfl, run_takeDeferred (b := D) hK, ?_⟩⟩
      refine ⟨.tuple #[.int .i64 0, .int .i64 3], by simp [results, Tryd.f35, go_sem], HF.out _ _ (.inr ?_)⟩
      have hz : z < 0 := of_decide_eq_true (by rw [← HNG.out]; exact h1)
      have e := HMZ.out
      exact ⟨by omega, rfl, rfl⟩
    · have h1 : ¬ ng = true := by assumption
      have h2 : m < 9223372036854775808 := by assumption
      refine ⟨by simp, .inl ⟨_, _, rfl, run_takeDeferred (b := D) hK, ?_⟩⟩
      refine ⟨.tuple #[.int .i64 m, .int .i64 0], by simp [results, Tryd.f35, go_sem], HF.out _ _ (.inl ?_)⟩
      have hz : ¬ z < 0 := fun h => h1 (by rw [HNG.out]; exact decide_eq_true h)
      have e := HMZ.out
      exact ⟨by omega, by omega, by omega, rfl⟩
    · have h1 : ¬ ng = true := by assumption
      have h2 : 9223372036854775808 ≤ m := by assumption
      refine ⟨by simp, .inl ⟨_, _, rfl, run_takeDeferred (b := D) hK, ?_⟩⟩
      refine ⟨.tuple #[.int .i64 0, .int .i64 3], by simp [results, Tryd.f35, go_sem], HF.out _ _ (.inr ?_)⟩
      have hz : ¬ z < 0 := fun h => h1 (by rw [HNG.out]; exact decide_eq_true h)
      have e := HMZ.out
      exact ⟨by omega, rfl, rfl⟩
  case stop =>
    rintro D c k W hD hk h
    exact h.elim

theorem Int_ok (va : Value) (z : Int) (w : World) (hA : Wn w.heap.size w va z) : Calls Tryd.prog 35 #[va] w (IntPost z w) := by
  by_cases h : (z.natAbs : Int) < 18446744073709551616
  · exact Int_short va z w hA h
  · exact Int_long va z w hA h

end Go.Proofs.YtbaiohjladddlaaDoor
