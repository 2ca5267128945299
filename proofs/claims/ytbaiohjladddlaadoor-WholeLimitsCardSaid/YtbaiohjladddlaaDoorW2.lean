import Derived.Test.YtbaiohjladddlaaDoorW1
/- whole: compare. -/
namespace Go.Proofs.YtbaiohjladddlaaDoor
open Go.RowKit Go.WM Go.WR

attribute [local go_sem] Oper.semAt_some

theorem Lims.cells {n₀ : Nat} {w : World} {p : Option Addr} {len c : Nat} {zs : List Int} (h : Lims n₀ w (.slice p len c) zs) :
    len = zs.length ∧ (0 < len → ∃ b off, p = some ⟨b, off, none⟩ ∧ b < n₀ ∧ len ≤ c ∧ ∀ j, j < len → w.cell? ⟨b, off + j, none⟩ = some (.int .u16 (zs[j]?.getD 0))) := by
  rcases h with ⟨e, rfl⟩ | ⟨b, off, cap, e, hl, hb, hc⟩
  · cases e; exact ⟨rfl, fun h => absurd h (by omega)⟩
  · cases e; exact ⟨rfl, fun _ => ⟨b, off, rfl, hb, hl, hc⟩⟩

theorem Lims.form {n₀ : Nat} {w : World} {v : Value} {zs : List Int} (h : Lims n₀ w v zs) : ∃ p len c, v = .slice p len c := by
  rcases h with ⟨e, rfl⟩ | ⟨b, off, cap, e, hl, hb, hc⟩ <;> exact ⟨_, _, _, e⟩

/-- how far from the end two lists agree -/
def agree (za zb : List Int) (k : Nat) : Prop := za.drop (za.length - k) = zb.drop (zb.length - k)

set_option maxRecDepth 100000 in
set_option maxHeartbeats 1000000 in
theorem compare_same (pa pb : Option Addr) (ca cb len : Nat) (za zb : List Int) (w : World) (hbig : len ≤ 9223372036854775807)
    (hLa : Lm za) (hLb : Lm zb) (hA : Lims w.heap.size w (.slice pa len ca) za) (hB : Lims w.heap.size w (.slice pb len cb) zb) :
    Calls Tryd.prog 64 #[.slice pa len ca, .slice pb len cb] w fun e w' => e = .returned (.int .i64 (cmpI (val za) (val zb))) ∧ Below w.heap.size w w' := by
  have HA := Lib.hid hA.cells.1
  have HB := Lib.hid hB.cells.1
  refine (callsIn_wide (n := 9)).1 ?_
  refine callsIn_of_wp_marks Tryd.func64 rfl trivial ?_ rfl
  simp only [Tryd.ntmps64, List.size_toArray, List.length_cons, List.length_nil, Nat.reduceAdd, Nat.reduceSub, Array.replicate_succ, Array.replicate_zero, List.push_toArray, List.append_toArray, List.nil_append, List.cons_append]
  gi_wp2_with (refine ⟨trivial, ?_⟩; gi_at_call 65; refine ((callsIn_wide (n := 8)).2 (down_any _ _ _ _)).mono ?_; rintro e w' ⟨rfl, rfl⟩)
  have bB := (Boxed.new w 22 (.slice pb len cb))
  have bR := Boxed.new (w.alloc (.cells #[.slice pb len cb] 22)) 3 (.int .i64 0)
  have bA := Boxed.new ((w.alloc (.cells #[.slice pb len cb] 22)).alloc (.cells #[.int .i64 0] 3)) 22 (.slice pa len ca)
  rw [World.size_alloc] at bR
  rw [World.size_alloc, World.size_alloc] at bA
  have hW : Below w.heap.size w (((w.alloc (.cells #[.slice pb len cb] 22)).alloc (.cells #[.int .i64 0] 3)).alloc (.cells #[.slice pa len ca] 22)) :=
    (((Below.refl _ w).alloc (Nat.le_refl _) _).alloc (by simp) _).alloc (by simp; omega) _
  have hz : (((w.alloc (.cells #[.slice pb len cb] 22)).alloc (.cells #[.int .i64 0] 3)).alloc (.cells #[.slice pa len ca] 22)).heap.size = w.heap.size + 3 := by simp
  replace bB := (bB.alloc (.cells #[.int .i64 0] 3)).alloc (.cells #[.slice pa len ca] 22)
  replace bR := bR.alloc (.cells #[.slice pa len ca] 22)
  generalize ((w.alloc (.cells #[.slice pb len cb] 22)).alloc (.cells #[.int .i64 0] 3)).alloc (.cells #[.slice pa len ca] 22) = W0 at *
  refine' wpIn_range (n := 9) (gf := 86) (lb := #[.pointer (some ⟨w.heap.size + 1 + 1, 0, none⟩)]) (N := za.length) rfl (by omega) rfl trivial (enters_of Tryd.func86 (by kernel_rfl) rfl)
    (down_seq Fence.wide 8 trivial rfl (by omega) _ w.heap.size _ za (by rw [← HA.out]; exact hbig) W0 (by omega) bA (hA.below hW)) keep1_t (keep1_b (by omega)) (fun _ => rfl)
    (fun k W => agree za zb k ∧ Boxed W w.heap.size 22 (.slice pb len cb) ∧ Boxed W (w.heap.size + 1) 3 (.int .i64 0) ∧ Below w.heap.size w W)
    (fun c _ W => c = .ret ∧ Boxed W (w.heap.size + 1) 3 (.int .i64 (cmpI (val za) (val zb))) ∧ Below w.heap.size w W)
    ?hI ?hIx ?h0 _ ?assign ?body ?done ?stop
  case hI => exact OwnFrom.and (ownFrom_pure _ _) (OwnFrom.and (Own.from (boxed_own _ _ _) _) (OwnFrom.and (Own.from (boxed_own _ _ _) _) (ownFrom_below (Nat.le_refl _) (by omega))))
  case hIx => exact fun c => OwnFrom.and (ownFrom_pure _ _) (OwnFrom.and (Own.from (boxed_own _ _ _) _) (ownFrom_below (Nat.le_refl _) (by omega)))
  case h0 => exact ⟨by simp [agree], bB, bR, hW⟩
  case assign =>
    intro l x W K hK
    simp only [downs]
    gi_wp2
    exact hK
  case body =>
    rintro l k W ⟨hag, hBB, hBR, hBW⟩ hk
    have hlen := HA.out
    have hlenb := HB.out
    obtain ⟨m, hm⟩ : ∃ m : Nat, m = za.length - 1 - k := ⟨_, rfl⟩
    have hx : 0 < len := by omega
    obtain ⟨b, off, rfl, hbn, hcap, hcb⟩ := hB.cells.2 hx
    have hml : m < len := by omega
    have hcm : W.cell? ⟨b, off + m, none⟩ = some (.int .u16 (zb[m]?.getD 0)) := (hBW.cell (p := ⟨b, off + m, none⟩) hbn).trans (hcb m hml)
    have hcB := hBB.cell
    have hcR := hBR.cell
    have hfR := hBR.frozen
    rw [← hm]
    have HM := Lib.hid hm; clear hm
    have HLA := Lib.hid hlen; clear hlen
    have HLB := Lib.hid hlenb; clear hlenb
    have d1 : za.length - k = m + 1 := by have := HM.out; omega
    have d2 : zb.length - k = m + 1 := by have := HM.out; have := HLA.out; have := HLB.out; omega
    have d3 : za.length - (k + 1) = m := by omega
    have d4 : zb.length - (k + 1) = m := by omega
    have HAG : Hid (za.drop (m + 1) = zb.drop (m + 1)) := by unfold agree at hag; rw [d1, d2] at hag; exact hag
    have D3 := Lib.hid d3
    have D4 := Lib.hid d4
    clear d1 d2 d3 d4 hag
    by_cases he : za[m]?.getD 0 = zb[m]?.getD 0
    · gi_wp2
      refine ⟨KeepsFrom.refl _ _, Keep1.refl _ _ _ _, ?_, hBB, hBR, hBW⟩
      unfold agree; rw [D3.out, D4.out]
      exact drop_step (by rw [← HLA.out, ← HLB.out]) (by rw [← HLA.out]; omega) HAG.out he
    · have hcmp := cmp_at hLa hLb (by rw [← HLA.out, ← HLB.out]) (by rw [← HLA.out]; omega) HAG.out he
      have HCMP := Lib.hid hcmp; clear hcmp
      gi_wp2_with (refine ⟨trivial, ?_⟩; gi_at_call 63; refine (CallsIn.inRound l ((callsIn_wide (n := 6)).2 (sign_any _ _))).mono ?_; rintro e w' ⟨rfl, rfl⟩)
      · have hlt : za[m]?.getD 0 < zb[m]?.getD 0 := by assumption
        exact ⟨(KeepsOthers.setCell _ _ _).from _, rfl, by rw [HCMP.out, if_pos hlt]; exact hBR.set _, hBW.setCell (p := ⟨w.heap.size + 1, 0, none⟩) (by simp) _⟩
      · have hge : zb[m]?.getD 0 ≤ za[m]?.getD 0 := by assumption
        exact ⟨(KeepsOthers.setCell _ _ _).from _, rfl, by rw [HCMP.out, if_neg (by omega)]; exact hBR.set _, hBW.setCell (p := ⟨w.heap.size + 1, 0, none⟩) (by simp) _⟩
  case done =>
    rintro D W hD ⟨hag, hBB, hBR, hBW⟩ hK
    have hcR := hBR.cell
    have hfR := hBR.frozen
    have e : val za = val zb := by
      unfold agree at hag
      rw [show za.length - za.length = 0 by omega, show zb.length - za.length = 0 by have := HA.out; have := HB.out; omega] at hag
      rw [show za = zb from hag]
    have E := Lib.hid e; clear e hag
    gi_wp2
    have hK' := (KeepsOthers.setCell W ⟨w.heap.size + 1, 0, none⟩ (.int .i64 0)).same D _ hK rfl
    refine ⟨by simp, .inl ⟨_, _, rfl, run_takeDeferred hK', ?_⟩⟩
    have hc5 := cell_kept (World.cell?_setCell_same' W ⟨w.heap.size + 1, 0, none⟩ (.int .i64 0) (by rw [hcR]; rfl)) (grownBy_putObj' _ D (.deferred none)) (fun r e => by cases e; exact ⟨_, hK', rfl⟩)
    refine ⟨.int .i64 0, by simp [results, Tryd.f64, go_sem, hc5], by rw [E.out, cmpI_self], (hBW.setCell (p := ⟨w.heap.size + 1, 0, none⟩) (by simp) _).trans (belowK_b (w := w) (Nat.le_refl _) _ D _ _ (by omega) hK' rfl rfl)⟩
  case stop =>
    rintro D c k W hD hk ⟨rfl, hBR, hBW⟩ hK
    have hcR := hBR.cell
    gi_wp2
    refine ⟨by simp, .inl ⟨_, _, rfl, run_takeDeferred hK, ?_⟩⟩
    have hc5 := cell_kept hcR (grownBy_putObj' _ D (.deferred none)) (fun r e => by cases e; exact ⟨_, hK, rfl⟩)
    refine ⟨_, by simp [results, Tryd.f64, go_sem, hc5], rfl, hBW.trans (belowK_b (w := w) (Nat.le_refl _) _ D _ _ (by omega) hK rfl rfl)⟩

set_option maxHeartbeats 400000 in
theorem compare_diff (pa pb : Option Addr) (ca cb la lb : Nat) (w : World) (hba : la ≤ 9223372036854775807) (hbb : lb ≤ 9223372036854775807) (hne : la ≠ lb) :
    Calls Tryd.prog 64 #[.slice pa la ca, .slice pb lb cb] w fun e w' => e = .returned (.int .i64 (if la < lb then -1 else 1)) ∧ Below w.heap.size w w' := by
  have h1 : (la == lb) = false := by simpa using hne
  have h2 : (la != lb) = true := by simpa using hne
  clear hne
  have hW : ∀ v, Below w.heap.size w ((w.alloc (.cells #[.slice pb lb cb] 22)).alloc (.cells #[v] 3)) :=
    fun v => ((Below.refl _ w).alloc (Nat.le_refl _) _).alloc (by simp) _
  by_cases hlt : la < lb
  · have h3 : decide (la < lb) = true := by simpa using hlt
    go_enter Tryd.func64, Tryd.ntmps64
    go_wp2_with (go_at_call 63; refine (sign_any _ _).mono ?_; rintro e w' ⟨rfl, rfl⟩)
    exact bodyPost_ret (v := .int .i64 (-1)) (by simp [results, Tryd.results64, go_sem]) rfl ⟨rfl, hW _⟩
  · have h3 : decide (la < lb) = false := by simpa using hlt
    go_enter Tryd.func64, Tryd.ntmps64
    go_wp2_with (go_at_call 63; refine (sign_any _ _).mono ?_; rintro e w' ⟨rfl, rfl⟩)
    exact bodyPost_ret (v := .int .i64 1) (by simp [results, Tryd.results64, go_sem]) rfl ⟨rfl, hW _⟩

/-- compare(a, b), of two numbers without leading zeros -/
theorem compare_any (va vb : Value) (za zb : List Int) (n m : Int) (w : World) (ha : Rep za n) (hb : Rep zb m) (hba : za.length ≤ 9223372036854775807) (hbb : zb.length ≤ 9223372036854775807)
    (hA : Lims w.heap.size w va za) (hB : Lims w.heap.size w vb zb) :
    Calls Tryd.prog 64 #[va, vb] w fun e w' => e = .returned (.int .i64 (cmpI n m)) ∧ Below w.heap.size w w' := by
  obtain ⟨pa, la, ca, rfl⟩ := hA.form
  obtain ⟨pb, lb, cb, rfl⟩ := hB.form
  obtain rfl := hA.cells.1
  obtain rfl := hB.cells.1
  by_cases hl : za.length = zb.length
  · rw [← hl] at hB ⊢
    have := compare_same pa pb ca cb za.length za zb w hba ha.lm hb.lm hA hB
    rw [ha.eq, hb.eq] at this
    exact this
  · rw [cmp_len ha hb hl]
    exact compare_diff pa pb ca cb za.length zb.length w hba hbb hl
end Go.Proofs.YtbaiohjladddlaaDoor
