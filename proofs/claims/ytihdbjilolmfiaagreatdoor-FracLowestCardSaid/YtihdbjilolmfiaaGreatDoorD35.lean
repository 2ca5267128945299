import Derived.Test.YtihdbjilolmfiaaGreatDoorD31
import Derived.Test.YtihdbjilolmfiaaGreatDoorD01
set_option maxRecDepth 100000
set_option maxHeartbeats 4000000
namespace Go.Proofs.YtihdbjilolmfiaaGreatDoor
open Go.RowKit Go.WM Go.WR
attribute [local go_sem] Oper.semAt_some
theorem short_any (g N most : Nat) (p1 p2 : Nat → Option Addr) (l1 k1 l2 k2 : Nat → Nat) (w : World) (hg : g < w.heap.size) (hN : N ≤ 4294967296) (_ : most ≤ 4294967296) (hl : ∀ j, j < N → l1 j ≤ 140737488355328 ∧ l2 j ≤ 140737488355328)
 (h1 : ∀ j, j < N → w.cell? ⟨g, j * 4 + 1, none⟩ = some (.slice (p1 j) (l1 j) (k1 j))) (h2 : ∀ j, j < N → w.cell? ⟨g, j * 4 + 3, none⟩ = some (.slice (p2 j) (l2 j) (k2 j))) (ok : Bool)
 (hok : ok = true ↔ ∀ j, j < N → l1 j ≤ most ∧ l2 j ≤ most) :
 Calls Tryz.prog 15 #[.int .i64 most, .slice (some ⟨g, 0, none⟩) N N] w (Ret (.val (.bool ok)) w) := by
 have HOKK := Lib.hid hok
 clear hok
 go_enter Tryz.func15, Tryz.ntmps15
 go_wp2
 go_loopw [5] (fun kv wr => ∃ k : Nat, k ≤ N ∧ kv = .int .i64 k ∧ Below w.heap.size w wr ∧ ∀ j, j < k → l1 j ≤ most ∧ l2 j ≤ most) (fun kv _ => N - (intOf kv).toNat)
 case atStart => exact ⟨0, Nat.zero_le _, rfl, Below.refl _ _, fun j hj => absurd hj (by omega)⟩
 case round =>
  obtain ⟨k, hk, rfl, hB, hall⟩ := hrel
  by_cases hlt : k < N
  · have c1 := (hB.cell (p := ⟨g, k * 4 + 1, none⟩) hg).trans (h1 k hlt)
    have c2 := (hB.cell (p := ⟨g, k * 4 + 3, none⟩) hg).trans (h2 k hlt)
    have hlk := hl k hlt
    have HALL := Lib.hid hall
    clear hall
    generalize hnk : l1 k = nk at *
    generalize hsk : l2 k = sk at *
    generalize p1 k = a1 at *
    generalize p2 k = a2 at *
    generalize k1 k = b1 at *
    generalize k2 k = b2 at *
    have HNK := Lib.hid hnk
    have HSK := Lib.hid hsk
    clear hnk hsk
    by_cases hm : nk ≤ most
    · by_cases hm2 : sk ≤ most
      · go_wp2
        go_roundw
        case rel => exact ⟨k + 1, by omega, rfl, hB, fun j hj => by
         rcases (show j < k ∨ j = k by omega) with h | rfl
         · exact HALL.out j h
         · rw [HNK.out, HSK.out]; exact ⟨hm, hm2⟩⟩
        case measure => simp [intOf]; omega
      · go_wp2
        go_ret
        refine ⟨_, rfl, ?_, hB⟩
        cases ok with
        | false => rfl
        | true => have := (HOKK.out.1 rfl k hlt).2; rw [HSK.out] at this; exact absurd this hm2
    · go_wp2
      go_ret
      refine ⟨_, rfl, ?_, hB⟩
      cases ok with
      | false => rfl
      | true => have := (HOKK.out.1 rfl k hlt).1; rw [HNK.out] at this; exact absurd this hm
  · obtain rfl : k = N := by omega
    have HALL := Lib.hid hall
    clear hall
    go_wp2
    go_ret
    exact ⟨_, rfl, by rw [HOKK.out.2 HALL.out]; rfl, hB⟩
theorem short_one {g : Nat} {b1 b2 : Bool} {p1 p2 : Option Addr} {l1 k1 l2 k2 most : Nat} {ok : Bool} {w : World} (hm : most ≤ 4294967296) (hl : l1 ≤ 140737488355328 ∧ l2 ≤ 140737488355328) (hq : w.heap[g]? = some (.cells #[.bool b1, .slice p1 l1 k1, .bool b2, .slice p2 l2 k2] 26)) (hok : ok = true ↔ l1 ≤ most ∧ l2 ≤ most) :
 Calls Tryz.prog 15 #[.int .i64 most, .slice (some ⟨g, 0, none⟩) 1 1] w (Ret (.val (.bool ok)) w) :=
 short_any g 1 most (fun _ => p1) (fun _ => p2) (fun _ => l1) (fun _ => k1) (fun _ => l2) (fun _ => k2) w (Array.getElem?_eq_some_iff.1 hq).1 (by omega) hm (fun _ _ => hl)
  (fun j hj => by obtain rfl : j = 0 := by omega
                  exact cell_of hq 1 rfl)
  (fun j hj => by obtain rfl : j = 0 := by omega
                  exact cell_of hq 3 rfl) ok (hok.trans ⟨fun h _ _ => h, fun h => h 0 (by omega)⟩)
theorem usable_any (g N : Nat) (n1 n2 : Nat → Bool) (s1 s2 : Nat → Value) (Z1 Z2 : Nat → List Int) (w : World) (hg : g < w.heap.size) (hN : N ≤ 4294967296) (hlm : ∀ j, j < N → Lm (Z1 j) ∧ Lm (Z2 j)) (hlen : ∀ j, j < N → (Z1 j).length ≤ 140737488355328 ∧ (Z2 j).length ≤ 140737488355328)
 (h0 : ∀ j, j < N → w.cell? ⟨g, j * 4, none⟩ = some (.bool (n1 j))) (h1 : ∀ j, j < N → w.cell? ⟨g, j * 4 + 1, none⟩ = some (s1 j)) (h2 : ∀ j, j < N → w.cell? ⟨g, j * 4 + 2, none⟩ = some (.bool (n2 j))) (h3 : ∀ j, j < N → w.cell? ⟨g, j * 4 + 3, none⟩ = some (s2 j))
 (hv : ∀ j, j < N → Is (frw (n1 j) (Z1 j) (n2 j) (Z2 j)) (.agg #[.bool (n1 j), s1 j, .bool (n2 j), s2 j]) w) (ok : Bool)
 (hok : ok = true ↔ ∀ j, j < N → ((Z1 j).length ≤ 40 ∧ (Z2 j).length ≤ 40) ∧ okF (n1 j) (Z1 j) (n2 j) (Z2 j) = true) :
 Calls Tryz.prog 31 #[.slice (some ⟨g, 0, none⟩) N N] w (Ret (.val (.bool ok)) w) := by
 have HOKK := Lib.hid hok
 clear hok
 go_enter Tryz.func31, Tryz.ntmps31
 go_wp2
 go_loopw [3] (fun kv wr => ∃ k : Nat, k ≤ N ∧ kv = .int .i64 k ∧ Below w.heap.size w wr ∧ ∀ j, j < k → ((Z1 j).length ≤ 40 ∧ (Z2 j).length ≤ 40) ∧ okF (n1 j) (Z1 j) (n2 j) (Z2 j) = true) (fun kv _ => N - (intOf kv).toNat)
 case atStart => exact ⟨0, Nat.zero_le _, rfl, Below.refl _ _, fun j hj => absurd hj (by omega)⟩
 case round =>
  obtain ⟨k, hk, rfl, hB, hall⟩ := hrel
  by_cases hlt : k < N
  · have d0 := (hB.cell (p := ⟨g, k * 4, none⟩) hg).trans (h0 k hlt)
    have d1 := (hB.cell (p := ⟨g, k * 4 + 1, none⟩) hg).trans (h1 k hlt)
    have d2 := (hB.cell (p := ⟨g, k * 4 + 2, none⟩) hg).trans (h2 k hlt)
    have d3 := (hB.cell (p := ⟨g, k * 4 + 3, none⟩) hg).trans (h3 k hlt)
    have hvk := (hv k hlt).kept (kept_below hB 48)
    have hlk := hlen k hlt
    have hmk := hlm k hlt
    have HALL := Lib.hid hall
    clear hall
    generalize hnk : n1 k = nk at *
    generalize hsk : s1 k = sk at *
    generalize hnl : n2 k = nl at *
    generalize hsl : s2 k = sl at *
    generalize hzk : Z1 k = zk at *
    generalize hzl : Z2 k = zl at *
    have HNK := Lib.hid hnk
    have HNL := Lib.hid hnl
    have HZK := Lib.hid hzk
    have HZL := Lib.hid hzl
    clear hnk hsk hnl hsl hzk hzl
    obtain ⟨q1, m1, c1, q2, m2, c2, e, hL1, hL2⟩ := id hvk
    cases e
    have e1 := hL1.cells.1
    have e2 := hL2.cells.1
    have f1 : m1 ≤ 140737488355328 := by omega
    have f2 : m2 ≤ 140737488355328 := by omega
    have E1 := Lib.hid e1
    have E2 := Lib.hid e2
    obtain ⟨w1, hw1⟩ : ∃ x, x = wr.alloc (.cells #[.bool nk, .slice q1 m1 c1, .bool nl, .slice q2 m2 c2] 26) := ⟨_, rfl⟩
    have r0 : w1.heap[wr.heap.size]? = some (.cells #[.bool nk, .slice q1 m1 c1, .bool nl, .slice q2 m2 c2] 26) := by rw [hw1]; exact alloc_new _ _ rfl
    have hB1 : Below wr.heap.size wr w1 := by rw [hw1]; exact (Below.refl _ wr).alloc (Nat.le_refl _) _
    have hs1 : w1.heap.size = wr.heap.size + 1 := by rw [hw1]; simp
    have HW := Lib.hid hw1
    have hgr : g < wr.heap.size := by have := hB.size; omega
    by_cases hm : m1 ≤ 40 ∧ m2 ≤ 40
    · have hsh : Calls Tryz.prog 15 #[.int .i64 (40 : Nat), .slice (some ⟨wr.heap.size, 0, none⟩) 1 1] w1 (Ret (.val (.bool true)) w1) := short_one (by omega) ⟨f1, f2⟩ r0 ⟨fun _ => hm, fun _ => rfl⟩
      have HM := Lib.hid hm
      clear e1 e2 hw1 hm
      by_cases ho : okF nk zk nl zl = true
      · have HO := Lib.hid ho
        clear ho
        go_wp2_with (first | (go_at_call 15; rw [← HW.out]; refine hsh.mono ?_; rintro e w2 ⟨_, rfl, rfl, hb2⟩; have t0 := (hB1.trans (hb2.mono (by omega))).cell (p := ⟨g, k * 4, none⟩) hgr; rw [d0] at t0; have t1 := (hB1.trans (hb2.mono (by omega))).cell (p := ⟨g, k * 4 + 1, none⟩) hgr; rw [d1] at t1; have t2 := (hB1.trans (hb2.mono (by omega))).cell (p := ⟨g, k * 4 + 2, none⟩) hgr; rw [d2] at t2; have t3 := (hB1.trans (hb2.mono (by omega))).cell (p := ⟨g, k * 4 + 3, none⟩) hgr; rw [d3] at t3; have hbb := hB1.trans (hb2.mono (by omega))) | (go_at_call 44; refine (c44r hmk.1 hmk.2 (hvk.kept (kept_below hbb 48))).mono ?_; rintro e w3 ⟨_, rfl, rfl, hb3⟩; rw [HO.out]))
        go_roundw
        case rel => exact ⟨k + 1, by omega, rfl, hB.trans ((hbb.trans (hb3.mono hbb.size)).mono hB.size), fun j hj => by
         rcases (show j < k ∨ j = k by omega) with h | rfl
         · exact HALL.out j h
         · rw [HNK.out, HNL.out, HZK.out, HZL.out]; exact ⟨by have := E1.out; have := E2.out; have := HM.out; omega, HO.out⟩⟩
        case measure => simp [intOf]; omega
      · have HO := Lib.hid (Bool.eq_false_iff.2 ho)
        clear ho
        go_wp2_with (first | (go_at_call 15; rw [← HW.out]; refine hsh.mono ?_; rintro e w2 ⟨_, rfl, rfl, hb2⟩; have t0 := (hB1.trans (hb2.mono (by omega))).cell (p := ⟨g, k * 4, none⟩) hgr; rw [d0] at t0; have t1 := (hB1.trans (hb2.mono (by omega))).cell (p := ⟨g, k * 4 + 1, none⟩) hgr; rw [d1] at t1; have t2 := (hB1.trans (hb2.mono (by omega))).cell (p := ⟨g, k * 4 + 2, none⟩) hgr; rw [d2] at t2; have t3 := (hB1.trans (hb2.mono (by omega))).cell (p := ⟨g, k * 4 + 3, none⟩) hgr; rw [d3] at t3; have hbb := hB1.trans (hb2.mono (by omega))) | (go_at_call 44; refine (c44r hmk.1 hmk.2 (hvk.kept (kept_below hbb 48))).mono ?_; rintro e w3 ⟨_, rfl, rfl, hb3⟩; rw [HO.out]))
        go_ret
        refine ⟨_, rfl, ?_, hB.trans ((hbb.trans (hb3.mono hbb.size)).mono hB.size)⟩
        cases ok with
        | false => rfl
        | true => have := (HOKK.out.1 rfl k hlt).2; rw [HNK.out, HZK.out, HNL.out, HZL.out, HO.out] at this; cases this
    · have hsh : Calls Tryz.prog 15 #[.int .i64 (40 : Nat), .slice (some ⟨wr.heap.size, 0, none⟩) 1 1] w1 (Ret (.val (.bool false)) w1) := short_one (by omega) ⟨f1, f2⟩ r0 ⟨fun h => by (cases h), fun h => absurd h hm⟩
      have HM := Lib.hid hm
      clear e1 e2 hw1 hm
      go_wp2_with (go_at_call 15; rw [← HW.out]; refine hsh.mono ?_; rintro e w2 ⟨_, rfl, rfl, hb2⟩; have hbb := hB1.trans (hb2.mono (by omega)))
      go_ret
      refine ⟨_, rfl, ?_, hB.trans (hbb.mono hB.size)⟩
      cases ok with
      | false => rfl
      | true => have := (HOKK.out.1 rfl k hlt).1; rw [HZK.out, HZL.out, ← E1.out, ← E2.out] at this; exact absurd this HM.out
  · obtain rfl : k = N := by omega
    have HALL := Lib.hid hall
    clear hall
    go_wp2
    go_ret
    exact ⟨_, rfl, by rw [HOKK.out.2 HALL.out]; rfl, hB⟩
end Go.Proofs.YtihdbjilolmfiaaGreatDoor
namespace Go.Proofs.YtihdbjilolmfiaaGreatDoor
open Go.RowKit Go.WM Go.WR
def RawL (z1 z2 : List Int) : Prop := Lm z1 ∧ Lm z2 ∧ z1.length ≤ 140737488355328 ∧ z2.length ≤ 140737488355328
def Us (n1 : Bool) (z1 : List Int) (n2 : Bool) (z2 : List Int) : Prop := (z1.length ≤ 40 ∧ z2.length ≤ 40) ∧ okF n1 z1 n2 z2 = true
instance (n1 : Bool) (z1 : List Int) (n2 : Bool) (z2 : List Int) : Decidable (Us n1 z1 n2 z2) := by unfold Us; infer_instance
def pk3 {α : Type} (x y z : α) (j : Nat) : α := bif j == 0 then x else bif j == 1 then y else z
theorem usable3 {g : Nat} {x0 x1 x2 x3 y0 y1 y2 y3 t0 t1 t2 t3 : Value} {a1 a2 b1 b2 c1 c2 : Bool} {A1 A2 B1 B2 C1 C2 : List Int} {ok : Bool} {w : World} (hq : w.heap[g]? = some (.cells #[x0, x1, x2, x3, y0, y1, y2, y3, t0, t1, t2, t3] 26))
 (hx : Is (frw a1 A1 a2 A2) (.agg #[x0, x1, x2, x3]) w) (hy : Is (frw b1 B1 b2 B2) (.agg #[y0, y1, y2, y3]) w) (ht : Is (frw c1 C1 c2 C2) (.agg #[t0, t1, t2, t3]) w) (rx : RawL A1 A2) (ry : RawL B1 B2) (rt : RawL C1 C2)
 (hok : ok = true ↔ Us a1 A1 a2 A2 ∧ Us b1 B1 b2 B2 ∧ Us c1 C1 c2 C2) : Calls Tryz.prog 31 #[.slice (some ⟨g, 0, none⟩) 3 3] w (Ret (.val (.bool ok)) w) := by
 have three : ∀ j, j < 3 → j = 0 ∨ j = 1 ∨ j = 2 := fun j hj => by omega
 obtain ⟨p1, p2, p3, p4, p5, p6, e, _⟩ := id hx
 cases e
 obtain ⟨q1, q2, q3, q4, q5, q6, e, _⟩ := id hy
 cases e
 obtain ⟨r1, r2, r3, r4, r5, r6, e, _⟩ := id ht
 cases e
 refine usable_any g 3 (pk3 a1 b1 c1) (pk3 a2 b2 c2) (pk3 (.slice p1 p2 p3) (.slice q1 q2 q3) (.slice r1 r2 r3)) (pk3 (.slice p4 p5 p6) (.slice q4 q5 q6) (.slice r4 r5 r6)) (pk3 A1 B1 C1) (pk3 A2 B2 C2) w (Array.getElem?_eq_some_iff.1 hq).1 (by omega) ?_ ?_ ?_ ?_ ?_ ?_ ?_ ok ?_
 · intro j hj
   rcases three j hj with rfl | rfl | rfl
   · exact ⟨rx.1, rx.2.1⟩
   · exact ⟨ry.1, ry.2.1⟩
   · exact ⟨rt.1, rt.2.1⟩
 · intro j hj
   rcases three j hj with rfl | rfl | rfl
   · exact rx.2.2
   · exact ry.2.2
   · exact rt.2.2
 · intro j hj
   rcases three j hj with rfl | rfl | rfl
   · exact cell_of hq 0 rfl
   · exact cell_of hq 4 rfl
   · exact cell_of hq 8 rfl
 · intro j hj
   rcases three j hj with rfl | rfl | rfl
   · exact cell_of hq 1 rfl
   · exact cell_of hq 5 rfl
   · exact cell_of hq 9 rfl
 · intro j hj
   rcases three j hj with rfl | rfl | rfl
   · exact cell_of hq 2 rfl
   · exact cell_of hq 6 rfl
   · exact cell_of hq 10 rfl
 · intro j hj
   rcases three j hj with rfl | rfl | rfl
   · exact cell_of hq 3 rfl
   · exact cell_of hq 7 rfl
   · exact cell_of hq 11 rfl
 · intro j hj
   rcases three j hj with rfl | rfl | rfl
   · exact hx
   · exact hy
   · exact ht
 · refine hok.trans ⟨fun h j hj => ?_, fun h => ⟨h 0 (by omega), h 1 (by omega), h 2 (by omega)⟩⟩
   rcases three j hj with rfl | rfl | rfl
   · exact h.1
   · exact h.2.1
   · exact h.2.2
theorem usable2 {g : Nat} {x0 x1 x2 x3 y0 y1 y2 y3 : Value} {a1 a2 b1 b2 : Bool} {A1 A2 B1 B2 : List Int} {ok : Bool} {w : World} (hq : w.heap[g]? = some (.cells #[x0, x1, x2, x3, y0, y1, y2, y3] 26))
 (hx : Is (frw a1 A1 a2 A2) (.agg #[x0, x1, x2, x3]) w) (hy : Is (frw b1 B1 b2 B2) (.agg #[y0, y1, y2, y3]) w) (rx : RawL A1 A2) (ry : RawL B1 B2)
 (hok : ok = true ↔ Us a1 A1 a2 A2 ∧ Us b1 B1 b2 B2) : Calls Tryz.prog 31 #[.slice (some ⟨g, 0, none⟩) 2 2] w (Ret (.val (.bool ok)) w) := by
 have two : ∀ j, j < 2 → j = 0 ∨ j = 1 := fun j hj => by omega
 obtain ⟨p1, p2, p3, p4, p5, p6, e, _⟩ := id hx
 cases e
 obtain ⟨q1, q2, q3, q4, q5, q6, e, _⟩ := id hy
 cases e
 refine usable_any g 2 (pk3 a1 b1 b1) (pk3 a2 b2 b2) (pk3 (.slice p1 p2 p3) (.slice q1 q2 q3) .nilIface) (pk3 (.slice p4 p5 p6) (.slice q4 q5 q6) .nilIface) (pk3 A1 B1 []) (pk3 A2 B2 []) w (Array.getElem?_eq_some_iff.1 hq).1 (by omega) ?_ ?_ ?_ ?_ ?_ ?_ ?_ ok ?_
 · intro j hj
   rcases two j hj with rfl | rfl
   · exact ⟨rx.1, rx.2.1⟩
   · exact ⟨ry.1, ry.2.1⟩
 · intro j hj
   rcases two j hj with rfl | rfl
   · exact rx.2.2
   · exact ry.2.2
 · intro j hj
   rcases two j hj with rfl | rfl
   · exact cell_of hq 0 rfl
   · exact cell_of hq 4 rfl
 · intro j hj
   rcases two j hj with rfl | rfl
   · exact cell_of hq 1 rfl
   · exact cell_of hq 5 rfl
 · intro j hj
   rcases two j hj with rfl | rfl
   · exact cell_of hq 2 rfl
   · exact cell_of hq 6 rfl
 · intro j hj
   rcases two j hj with rfl | rfl
   · exact cell_of hq 3 rfl
   · exact cell_of hq 7 rfl
 · intro j hj
   rcases two j hj with rfl | rfl
   · exact hx
   · exact hy
 · refine hok.trans ⟨fun h j hj => ?_, fun h => ⟨h 0 (by omega), h 1 (by omega)⟩⟩
   rcases two j hj with rfl | rfl
   · exact h.1
   · exact h.2
theorem usable1 {g : Nat} {x0 x1 x2 x3 : Value} {a1 a2 : Bool} {A1 A2 : List Int} {ok : Bool} {w : World} (hq : w.heap[g]? = some (.cells #[x0, x1, x2, x3] 26))
 (hx : Is (frw a1 A1 a2 A2) (.agg #[x0, x1, x2, x3]) w) (rx : RawL A1 A2)
 (hok : ok = true ↔ Us a1 A1 a2 A2) : Calls Tryz.prog 31 #[.slice (some ⟨g, 0, none⟩) 1 1] w (Ret (.val (.bool ok)) w) := by
 have one : ∀ j, j < 1 → j = 0 := fun j hj => by omega
 obtain ⟨p1, p2, p3, p4, p5, p6, e, _⟩ := id hx
 cases e
 refine usable_any g 1 (fun _ => a1) (fun _ => a2) (fun _ => (.slice p1 p2 p3)) (fun _ => (.slice p4 p5 p6)) (fun _ => A1) (fun _ => A2) w (Array.getElem?_eq_some_iff.1 hq).1 (by omega) (fun _ _ => ⟨rx.1, rx.2.1⟩) (fun _ _ => rx.2.2) ?_ ?_ ?_ ?_ (fun _ _ => hx) ok (hok.trans ⟨fun h _ _ => h, fun h => h 0 (by omega)⟩)
 · intro j hj; obtain rfl := one j hj; exact cell_of hq 0 rfl
 · intro j hj; obtain rfl := one j hj; exact cell_of hq 1 rfl
 · intro j hj; obtain rfl := one j hj; exact cell_of hq 2 rfl
 · intro j hj; obtain rfl := one j hj; exact cell_of hq 3 rfl
theorem us_frq {n1 n2 : Bool} {z1 z2 : List Int} {v : Value} {W : World} (hi : Is (frw n1 z1 n2 z2) v W) (hu : Us n1 z1 n2 z2) (r : RawL z1 z2) : ∃ q : Rat, Is (frq q) v W ∧ Fz 40 q := by
 obtain ⟨q, h, r1, r2⟩ := frq_raw hi hu.2 r.1 r.2.1
 exact ⟨q, h, Fz.of r1 r2 hu.1.1 hu.1.2⟩
end Go.Proofs.YtihdbjilolmfiaaGreatDoor
