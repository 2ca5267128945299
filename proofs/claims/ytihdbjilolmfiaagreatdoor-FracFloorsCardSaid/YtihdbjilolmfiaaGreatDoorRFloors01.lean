import Derived.Test.YtihdbjilolmfiaaGreatDoorE01
import Derived.Test.YtihdbjilolmfiaaGreatDoorE02
import Derived.Test.YtihdbjilolmfiaaGreatDoorE03
import Derived.Test.YtihdbjilolmfiaaGreatDoorE04
import Derived.Test.YtihdbjilolmfiaaGreatDoorE05
import Derived.Test.YtihdbjilolmfiaaGreatDoorE06
import Derived.Test.YtihdbjilolmfiaaGreatDoorE07
import Derived.Test.YtihdbjilolmfiaaGreatDoorE08
import Derived.Test.YtihdbjilolmfiaaGreatDoorE09
import Derived.Test.YtihdbjilolmfiaaGreatDoorE10
import Derived.Test.YtihdbjilolmfiaaGreatDoorE11
import Derived.Test.YtihdbjilolmfiaaGreatDoorE12
import Derived.Test.YtihdbjilolmfiaaGreatDoorE13
import Derived.Test.YtihdbjilolmfiaaGreatDoorE14
import Derived.Test.YtihdbjilolmfiaaGreatDoorE15
import Derived.Test.YtihdbjilolmfiaaGreatDoorE16
import Derived.Test.YtihdbjilolmfiaaGreatDoorE17
import Derived.Test.YtihdbjilolmfiaaGreatDoorE18
import Derived.Test.YtihdbjilolmfiaaGreatDoorE19
import Derived.Test.YtihdbjilolmfiaaGreatDoorE20
import Derived.Test.YtihdbjilolmfiaaGreatDoorE21
import Derived.Test.YtihdbjilolmfiaaGreatDoorE22
import Derived.Test.YtihdbjilolmfiaaGreatDoorE23
import Derived.Test.YtihdbjilolmfiaaGreatDoorE24
import Derived.Test.YtihdbjilolmfiaaGreatDoorE25
import Derived.Test.YtihdbjilolmfiaaGreatDoorE26
import Derived.Test.YtihdbjilolmfiaaGreatDoorE27
import Derived.Test.YtihdbjilolmfiaaGreatDoorE28
import Derived.Test.YtihdbjilolmfiaaGreatDoorE29
import Derived.Test.YtihdbjilolmfiaaGreatDoorE30
import Derived.Test.YtihdbjilolmfiaaGreatDoorE31
import Derived.Test.YtihdbjilolmfiaaGreatDoorE32
import Derived.Test.YtihdbjilolmfiaaGreatDoorE33
import Derived.Test.YtihdbjilolmfiaaGreatDoorE34
import Derived.Test.YtihdbjilolmfiaaGreatDoorE35
import Derived.Test.YtihdbjilolmfiaaGreatDoorE36
namespace Go.Proofs.YtihdbjilolmfiaaGreatDoor
open Go.RowKit Go.WM Go.WR
attribute [local go_sem] Oper.semAt_some
variable {n : Nat} {o : Oper} {a : Act} {w : World}
theorem kCall0 {k : Kd} {f : Nat} {ts : Array TypeId} (ho : o.op = .call { callee := .value (.func f), args := #[], argTypes := ts }) (hf : MayCall f) (hc : Calls Tryz.prog f #[] w (Ret k w)) : Op1 n Tryz.prog o a w (fun v W' => KW k v W' ∧ Below w.heap.size w W') := kCall ho hf (by simp) hc
theorem kBuild24s {k : Kd} {y : Nat} {p : Option Addr} {l c : Nat} (ho : o.op = .build 24 #[(1, .tmp y)]) (hy : a.tmps.getD y undef = .slice p l c) (h : KW k (.agg #[.bool false, .slice p l c]) w) : Op1 n Tryz.prog o a w (fun v W' => KW k v W' ∧ Below w.heap.size w W') := by
 refine Op1.of_run (v := .agg #[.bool false, .slice p l c]) ?_ ⟨h, Below.refl _ _⟩
 unfold execOp
 rw [ho]
 simp only [Array.getD_eq_getD_getElem?] at hy
 simp [go_sem, hy]
end Go.Proofs.YtihdbjilolmfiaaGreatDoor
namespace Go.Proofs.YtihdbjilolmfiaaGreatDoor
open Go.RowKit Go.WM Go.WR
attribute [local go_sem] Oper.semAt_some
theorem may16 : MayCall 16 := ⟨_, Tryz.func16, by kernel_rfl, by kernel_rfl⟩
theorem may31 : MayCall 31 := ⟨_, Tryz.func31, by kernel_rfl, by kernel_rfl⟩
theorem may35 : MayCall 35 := ⟨_, Tryz.func35, by kernel_rfl, by kernel_rfl⟩
theorem may39 : MayCall 39 := ⟨_, Tryz.func39, by kernel_rfl, by kernel_rfl⟩
theorem may41 : MayCall 41 := ⟨_, Tryz.func41, by kernel_rfl, by kernel_rfl⟩
theorem may50 : MayCall 50 := ⟨_, Tryz.func50, by kernel_rfl, by kernel_rfl⟩
theorem may93 : MayCall 93 := ⟨_, Tryz.func93, by kernel_rfl, by kernel_rfl⟩
set_option maxRecDepth 100000 in
set_option maxHeartbeats 1000000 in
theorem equal16_any (va vb : Value) (A B : List Int) (w : World) (hla : A.length ≤ 140737488355328) (_ : B.length ≤ 140737488355328) (hA : Lims w.heap.size w va A) (hB : Lims w.heap.size w vb B) :
 Calls Tryz.prog 98 #[va, vb] w fun e w' => e = .returned (.bool (decide (A = B))) ∧ Below w.heap.size w w' := by
 obtain ⟨pa, la, ca, rfl⟩ := hA.form
 obtain ⟨pb, lb, cb, rfl⟩ := hB.form
 obtain ⟨hl, hcA⟩ := hA.cells
 obtain ⟨hl2, hcB⟩ := hB.cells
 have hla' : la ≤ 140737488355328 := by omega
 by_cases hne : la = lb
 · subst hne
   have HLA := Lib.hid hl
   have HLB := Lib.hid hl2
   clear hl hl2
   go_enter Tryz.func98, Tryz.ntmps98
   go_wp2
   go_loopw [13] (fun kv wr => ∃ k : Nat, k ≤ la ∧ kv = .int .i64 k ∧ Below w.heap.size w wr ∧ ∀ j, j < k → A[j]?.getD 0 = B[j]?.getD 0) (fun kv _ => la - (intOf kv).toNat)
   case atStart => exact ⟨0, Nat.zero_le _, rfl, Below.refl _ _, fun j hj => absurd hj (by omega)⟩
   case round =>
    obtain ⟨k, hk, rfl, hBw, hag⟩ := hrel
    by_cases hlt : k < la
    · obtain ⟨ba, oa, rfl, hba, hca, hcc⟩ := hcA (by omega)
      obtain ⟨bb, ob, rfl, hbb, hcb, hdd⟩ := hcB (by omega)
      have c0 := (hBw.cell (p := ⟨ba, oa + k, none⟩) hba).trans (hcc k hlt)
      have c1 := (hBw.cell (p := ⟨bb, ob + k, none⟩) hbb).trans (hdd k hlt)
      by_cases he : A[k]?.getD 0 = B[k]?.getD 0
      · have hag2 : ∀ j, j < k + 1 → A[j]?.getD 0 = B[j]?.getD 0 := fun j hj => by rcases (show j < k ∨ j = k by omega) with h | rfl; exact hag j h; exact he
        have HAG := Lib.hid hag2
        rw [he] at c0
        clear hag he hag2
        go_wp2
        go_quiet (fail)
        go_wp2
        go_roundw
        case rel => exact ⟨k + 1, by omega, rfl, below_drewN hBw nq, HAG.out⟩
        case measure => simp [intOf]; omega
      · have hneq : A ≠ B := fun e => he (by rw [e])
        have HNE := Lib.hid hneq
        clear hneq hag
        go_wp2
        go_quiet (fail)
        go_wp2
        go_ret
        exact ⟨congrArg (fun b => Ending.returned (Value.bool b)) (decide_eq_false HNE.out).symm, below_drewN hBw nq⟩
    · obtain rfl : k = la := by omega
      have heq : A = B := List.ext_getElem? fun j => by
       rcases (show j < k ∨ k ≤ j by omega) with h | h
       · have := hag j h
         have e1 := HLA.out
         have e2 := HLB.out
         rw [List.getElem?_eq_getElem (by omega), List.getElem?_eq_getElem (by omega)] at this ⊢
         exact congrArg some this
       · have e1 := HLA.out
         have e2 := HLB.out
         rw [List.getElem?_eq_none (by omega), List.getElem?_eq_none (by omega)]
      have HEQ := Lib.hid heq
      clear heq hag
      go_wp2
      go_ret
      exact ⟨congrArg (fun b => Ending.returned (Value.bool b)) (decide_eq_true HEQ.out).symm, hBw⟩
 · have hneq : A ≠ B := fun e => hne (by rw [hl, hl2, e])
   rw [decide_eq_false hneq]
   have hne' : ¬ ((la : Int) = lb) := by omega
   clear hl hl2 hneq
   go_enter Tryz.func98, Tryz.ntmps98
   go_wp2
   go_ret
   exact ⟨rfl, Below.refl _ _⟩
set_option maxRecDepth 100000 in
set_option maxHeartbeats 1000000 in
theorem Same_any (va vb : Value) (na nb : Bool) (A B : List Int) (w : World) (hla : A.length ≤ 140737488355328) (hlb : B.length ≤ 140737488355328) (hA : Wr w.heap.size w va na A) (hB : Wr w.heap.size w vb nb B) :
 Calls Tryz.prog 50 #[va, vb] w fun e w' => e = .returned (.bool (na == nb && decide (A = B))) ∧ Below w.heap.size w w' := by
 obtain ⟨sa, rfl, hLa⟩ := hA
 obtain ⟨sb, rfl, hLb⟩ := hB
 have hB2 : Below w.heap.size w ((w.alloc (.cells #[.bool na, sa] 24)).alloc (.cells #[.bool nb, sb] 24)) := ((Below.refl _ w).alloc (Nat.le_refl _) _).alloc (by simp) _
 go_enter Tryz.func50, Tryz.ntmps50
 by_cases hn : na = nb
 · subst hn
   go_wp2_with (go_at_call 98; refine (equal16_any sa sb A B _ hla hlb ((hLa.below hB2).mono hB2.size) ((hLb.below hB2).mono hB2.size)).mono ?_; rintro e w1 ⟨rfl, hb1⟩)
   go_ret
   exact ⟨by simp, hB2.trans (hb1.mono hB2.size)⟩
 · have hf : (na == nb) = false := by simpa using hn
   go_wp2
   go_ret
   exact ⟨by simp [hn], hB2⟩
def IntPost (z : Int) (w : World) (e : Ending) (w' : World) : Prop :=
 ∃ k er : Int, e = .returned (.tuple #[.int .i64 k, .int .i64 er]) ∧ ((-9223372036854775808 ≤ z ∧ z < 9223372036854775808 ∧ k = z ∧ er = 0) ∨ (¬ (-9223372036854775808 ≤ z ∧ z < 9223372036854775808) ∧ k = 0 ∧ er = 3)) ∧ Below w.heap.size w w'
set_option maxRecDepth 100000 in
set_option maxHeartbeats 2000000 in
theorem Int_long (va : Value) (z : Int) (w : World) (hA : Wn w.heap.size w va z) (hbig : ¬ (z.natAbs : Int) < 18446744073709551616) : Calls Tryz.prog 93 #[va] w (IntPost z w) := by
 obtain ⟨zs, hr, hR, hc, hlen, hok⟩ := hA.raw
 obtain ⟨sv, rfl, hL⟩ := hr
 obtain ⟨p, l, c, rfl⟩ := hL.form
 have hl := hL.cells.1
 have h4 : 4 < l := by
  have := hR.len_le_iff 4
  have e : (65536 : Int) ^ 4 = 18446744073709551616 := by decide
  rw [e] at this
  omega
 generalize decide (z < 0) = ng at *
 have HOK := Lib.hid hok
 have HL := Lib.hid hl
 clear hok hl
 obtain ⟨w1, hw1⟩ : ∃ w1, w1 = w.alloc (.cells #[.bool ng, .slice p l c] 24) := ⟨_, rfl⟩
 have hB1 : Below w.heap.size w w1 := by rw [hw1]; exact (Below.refl _ w).alloc (Nat.le_refl _) _
 have hs1 : w1.heap.size = w.heap.size + 1 := by rw [hw1]; simp
 have q0 : w1.heap[w.heap.size]? = some (.cells #[.bool ng, .slice p l c] 24) := by rw [hw1]; exact alloc_new _ _ rfl
 have HW := Lib.hid hw1
 clear hw1
 go_enter Tryz.func93, Tryz.ntmps93
 go_wp2_with (go_at_call 43; rw [← HW.out]; refine (Valid_any (.agg #[.bool ng, .slice p l c]) ng zs w1 ⟨_, rfl, (hL.below hB1).mono hB1.size⟩ (by omega)).mono ?_; rintro e w2 ⟨rfl, hb2⟩; rw [HOK.out]; have p0 := (hb2.block _ (show w.heap.size < w1.heap.size by omega)).trans q0; have c0 := cell_of p0 0 rfl; have c1 := cell_of p0 1 rfl)
 exact bodyPost_ret (v := .tuple #[.int .i64 0, .int .i64 3]) (by simp [results, Tryz.results93, go_sem]) rfl ⟨0, 3, rfl, .inr ⟨by omega, rfl, rfl⟩, hB1.trans (hb2.mono hB1.size)⟩
end Go.Proofs.YtihdbjilolmfiaaGreatDoor
