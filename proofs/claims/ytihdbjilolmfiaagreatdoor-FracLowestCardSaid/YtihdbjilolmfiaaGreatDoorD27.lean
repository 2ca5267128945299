import Derived.Test.YtihdbjilolmfiaaGreatDoorD26
import Derived.Test.YtihdbjilolmfiaaGreatDoorD01
import Derived.Laws.EntriesVeiled
namespace Go.Proofs.YtihdbjilolmfiaaGreatDoor
open Go.RowKit Go.WM Go.WR
attribute [local go_sem] Oper.semAt_some
theorem c131 {B : Nat} {b : Bool} {w : World} (hc : w.cell? ⟨B, 0, none⟩ = some (.bool b)) :
 Calls Tryz.prog 131 #[.pointer (some ⟨B, 0, none⟩)] w fun e w' => e = .returned (.bool b) ∧ w = w' := by
 go_enter Tryz.func131, Tryz.ntmps131
 go_wp2
 go_ret
 exact ⟨rfl, rfl⟩
theorem c132 {B : Nat} {b : Bool} {w : World} (hc : w.cell? ⟨B, 0, none⟩ = some (.bool b)) :
 Calls Tryz.prog 132 #[.pointer (some ⟨B, 0, none⟩)] w fun e w' => e = .returned (.bool (!b)) ∧ w = w' := by
 go_enter Tryz.func132, Tryz.ntmps132
 go_wp2
 go_ret
 exact ⟨rfl, rfl⟩
theorem c133 {w : World} :
 Calls Tryz.prog 133 #[] w fun e w' => e = .returned (.bool false) ∧ w = w' := by
 go_enter Tryz.func133, Tryz.ntmps133
 go_wp2
 go_ret
 exact ⟨rfl, rfl⟩
theorem c134 {w : World} :
 Calls Tryz.prog 134 #[] w fun e w' => e = .returned (.bool true) ∧ w = w' := by
 go_enter Tryz.func134, Tryz.ntmps134
 go_wp2
 go_ret
 exact ⟨rfl, rfl⟩
theorem c135 {H B : Nat} {h : Int} {b : Bool} {w : World} (hh : w.cell? ⟨H, 0, none⟩ = some (.int .i64 h)) (hc : w.cell? ⟨B, 0, none⟩ = some (.bool b)) :
 Calls Tryz.prog 135 #[.pointer (some ⟨H, 0, none⟩), .pointer (some ⟨B, 0, none⟩)] w fun e w' => e = .returned (.bool (decide (0 < h) || (decide (h = 0) && !b))) ∧ w = w' := by
 by_cases h1 : 0 < h
 · rw [decide_eq_true h1, Bool.true_or]
   go_enter Tryz.func135, Tryz.ntmps135
   go_wp2
   go_ret
   exact ⟨rfl, rfl⟩
 · by_cases h2 : h = 0
   · subst h2
     go_enter Tryz.func135, Tryz.ntmps135
     go_wp2
     go_ret
     exact ⟨rfl, rfl⟩
   · rw [decide_eq_false h1, decide_eq_false h2, Bool.false_or, Bool.false_and]
     go_enter Tryz.func135, Tryz.ntmps135
     go_wp2
     go_ret
     exact ⟨rfl, rfl⟩
theorem c136 {H B : Nat} {h : Int} {b : Bool} {w : World} (hh : w.cell? ⟨H, 0, none⟩ = some (.int .i64 h)) (hc : w.cell? ⟨B, 0, none⟩ = some (.bool b)) :
 Calls Tryz.prog 136 #[.pointer (some ⟨H, 0, none⟩), .pointer (some ⟨B, 0, none⟩)] w fun e w' => e = .returned (.bool (decide (0 < h) || (decide (h = 0) && b))) ∧ w = w' := by
 by_cases h1 : 0 < h
 · rw [decide_eq_true h1, Bool.true_or]
   go_enter Tryz.func136, Tryz.ntmps136
   go_wp2
   go_ret
   exact ⟨rfl, rfl⟩
 · by_cases h2 : h = 0
   · subst h2
     go_enter Tryz.func136, Tryz.ntmps136
     go_wp2
     go_ret
     exact ⟨rfl, rfl⟩
   · rw [decide_eq_false h1, decide_eq_false h2, Bool.false_or, Bool.false_and]
     go_enter Tryz.func136, Tryz.ntmps136
     go_wp2
     go_ret
     exact ⟨rfl, rfl⟩
def upsRow (N : Nat) : Array Value := #[.nilFunc, .func (.func 131) #[] #[.pointer (some ⟨N, 0, none⟩)], .func (.func 132) #[] #[.pointer (some ⟨N, 0, none⟩)], .func (.func 133) #[] #[], .func (.func 134) #[] #[],
 .func (.func 135) #[] #[.pointer (some ⟨N + 1, 0, none⟩), .pointer (some ⟨N, 0, none⟩)], .func (.func 136) #[] #[.pointer (some ⟨N + 1, 0, none⟩), .pointer (some ⟨N + 1 + 1, 0, none⟩)]]
def upsW (n : Bool) (h : Int) (o : Bool) (w : World) : World :=
 (((w.alloc (.cells #[.bool n] 4)).alloc (.cells #[.int .i64 h] 3)).alloc (.cells #[.bool o] 4)).alloc (.cells (upsRow w.heap.size) 78)
theorem c71 {n o : Bool} {h : Int} {w : World} :
 Calls Tryz.prog 71 #[.bool n, .int .i64 h, .bool o] w fun e w' => e = .returned (.agg (upsRow w.heap.size)) ∧ upsW n h o w = w' := by
 go_enter Tryz.func71, Tryz.ntmps71
 go_wp2
 have hb : ((((w.alloc (.cells #[.bool n] 4)).alloc (.cells #[.int .i64 h] 3)).alloc (.cells #[.bool o] 4)).alloc (.cells (upsRow w.heap.size) 78)).heap[w.heap.size + 1 + 1 + 1]? = some (.cells (upsRow w.heap.size) 78) :=
  alloc_new _ _ (by simp only [World.size_alloc])
 have cr0 := cell_of hb 0 rfl
 have cr1 := cell_of hb 1 rfl
 have cr2 := cell_of hb 2 rfl
 have cr3 := cell_of hb 3 rfl
 have cr4 := cell_of hb 4 rfl
 have cr5 := cell_of hb 5 rfl
 have cr6 := cell_of hb 6 rfl
 unfold upsRow at cr0 cr1 cr2 cr3 cr4 cr5 cr6
 exact bodyPost_ret (v := .agg (upsRow w.heap.size)) (by simp [results, Tryz.results71, go_sem, cr0, cr1, cr2, cr3, cr4, cr5, cr6, upsRow]) rfl ⟨rfl, rfl⟩
variable {n : Nat} {o : Oper} {a : Act} {w : World} in
theorem kLss5 {x y : Operand} {p q : Int} {t : Bool} (ho : o.op = .binOp .lss 5 x y 5) (hx : a.eval x = .int .u8 p) (hy : a.eval y = .int .u8 q) (ht : decide (p < q) = t) : Op1 n Tryz.prog o a w (fun v W' => KW (t16 := 48) (.val (.bool t)) v W' ∧ Below w.heap.size w W') := by
 refine Op1.of_run (v := .bool (decide (p < q))) ?_ ⟨congrArg Value.bool ht, Below.refl _ _⟩
 unfold execOp
 rw [ho]
 simp only [hx, hy]
 simp [go_sem]
variable {n : Nat} {o : Oper} {a : Act} {w : World} in
theorem kGtr5 {x y : Operand} {p q : Int} {t : Bool} (ho : o.op = .binOp .gtr 5 x y 5) (hx : a.eval x = .int .u8 p) (hy : a.eval y = .int .u8 q) (ht : decide (q < p) = t) : Op1 n Tryz.prog o a w (fun v W' => KW (t16 := 48) (.val (.bool t)) v W' ∧ Below w.heap.size w W') := by
 refine Op1.of_run (v := .bool (decide (q < p))) ?_ ⟨congrArg Value.bool ht, Below.refl _ _⟩
 unfold execOp
 rw [ho]
 simp only [hx, hy]
 simp [go_sem]
end Go.Proofs.YtihdbjilolmfiaaGreatDoor
namespace Go.Proofs.YtihdbjilolmfiaaGreatDoor
open Go.RowKit Go.WM Go.WR
attribute [local go_sem] Oper.semAt_some
end Go.Proofs.YtihdbjilolmfiaaGreatDoor
