import Derived.Test.YtihdbjilolmfiaaGreatDoorE01
import Derived.Test.YtihdbjilolmfiaaGreatDoorE02
import Derived.Test.YtihdbjilolmfiaaGreatDoorE03
import Derived.Test.YtihdbjilolmfiaaGreatDoorE04
import Derived.Test.YtihdbjilolmfiaaGreatDoorE05
import Derived.Test.YtihdbjilolmfiaaGreatDoorE06
import Derived.Test.YtihdbjilolmfiaaGreatDoorE07
import Derived.Test.YtihdbjilolmfiaaGreatDoorE08
import Derived.Test.YtihdbjilolmfiaaGreatDoorE09
import Derived.Test.YtihdbjilolmfiaaGreatDoorE10
import Derived.Test.YtihdbjilolmfiaaGreatDoorE11
import Derived.Test.YtihdbjilolmfiaaGreatDoorE12
import Derived.Test.YtihdbjilolmfiaaGreatDoorE13
import Derived.Test.YtihdbjilolmfiaaGreatDoorE14
import Derived.Test.YtihdbjilolmfiaaGreatDoorE15
import Derived.Test.YtihdbjilolmfiaaGreatDoorE16
import Derived.Test.YtihdbjilolmfiaaGreatDoorE17
import Derived.Test.YtihdbjilolmfiaaGreatDoorE18
import Derived.Test.YtihdbjilolmfiaaGreatDoorE19
import Derived.Test.YtihdbjilolmfiaaGreatDoorE20
import Derived.Test.YtihdbjilolmfiaaGreatDoorE21
import Derived.Test.YtihdbjilolmfiaaGreatDoorE22
import Derived.Test.YtihdbjilolmfiaaGreatDoorE23
import Derived.Test.YtihdbjilolmfiaaGreatDoorE24
import Derived.Test.YtihdbjilolmfiaaGreatDoorE25
import Derived.Test.YtihdbjilolmfiaaGreatDoorE26
import Derived.Test.YtihdbjilolmfiaaGreatDoorE27
import Derived.Test.YtihdbjilolmfiaaGreatDoorE28
import Derived.Test.YtihdbjilolmfiaaGreatDoorE29
import Derived.Test.YtihdbjilolmfiaaGreatDoorE30
import Derived.Test.YtihdbjilolmfiaaGreatDoorE31
import Derived.Test.YtihdbjilolmfiaaGreatDoorE32
import Derived.Test.YtihdbjilolmfiaaGreatDoorE33
import Derived.Test.YtihdbjilolmfiaaGreatDoorE34
import Derived.Test.YtihdbjilolmfiaaGreatDoorE35
import Derived.Test.YtihdbjilolmfiaaGreatDoorE36
namespace Go.Proofs.YtihdbjilolmfiaaGreatDoor
open Go.RowKit Go.WM Go.WR
attribute [local go_sem] Oper.semAt_some
variable {n : Nat} {o : Oper} {a : Act} {w : World}
theorem kCall0 {k : Kd} {f : Nat} {ts : Array TypeId} (ho : o.op = .call { callee := .value (.func f), args := #[], argTypes := ts }) (hf : MayCall f) (hc : Calls Tryz.prog f #[] w (Ret k w)) : Op1 n Tryz.prog o a w (fun v W' => KW k v W' ∧ Below w.heap.size w W') := kCall ho hf (by simp) hc
theorem kNeq3 {x y : Operand} {p q : Int} {t : Bool} (ho : o.op = .binOp .neq 3 x y 3) (hx : a.eval x = .int .i64 p) (hy : a.eval y = .int .i64 q) (ht : decide (p ≠ q) = t) : Op1 n Tryz.prog o a w (fun v W' => KW (t16 := 48) (.val (.bool t)) v W' ∧ Below w.heap.size w W') := by
 refine Op1.of_run (v := .bool (p != q)) ?_ ⟨congrArg Value.bool (by rw [← ht]; by_cases h : p = q <;> simp [h]), Below.refl _ _⟩
 unfold execOp
 rw [ho]
 simp only [hx, hy]
 simp [go_sem]
theorem kNeg3 {x : Operand} {p q : Int} (ho : o.op = .unOp .neg 3 x) (hx : a.eval x = .int .i64 p) (h : IntKind.i64.wrap (-p) = q) : Op1 n Tryz.prog o a w (fun v W' => KW (t16 := 48) (.val (.int .i64 q)) v W' ∧ Below w.heap.size w W') := by
 refine Op1.of_run (v := .int .i64 q) ?_ ⟨rfl, Below.refl _ _⟩
 unfold execOp
 rw [ho]
 simp only [hx, Op.unary, Sem.run_bind, Sem.run_pure]
 simp [go_sem, h]
end Go.Proofs.YtihdbjilolmfiaaGreatDoor
namespace Go.Proofs.YtihdbjilolmfiaaGreatDoor
open Go.RowKit Go.WM Go.WR
attribute [local go_sem] Oper.semAt_some
theorem may16 : MayCall 16 := ⟨_, Tryz.func16, by kernel_rfl, by kernel_rfl⟩
theorem may29 : MayCall 29 := ⟨_, Tryz.func29, by kernel_rfl, by kernel_rfl⟩
theorem may31 : MayCall 31 := ⟨_, Tryz.func31, by kernel_rfl, by kernel_rfl⟩
theorem may34 : MayCall 34 := ⟨_, Tryz.func34, by kernel_rfl, by kernel_rfl⟩
theorem may35 : MayCall 35 := ⟨_, Tryz.func35, by kernel_rfl, by kernel_rfl⟩
theorem may36 : MayCall 36 := ⟨_, Tryz.func36, by kernel_rfl, by kernel_rfl⟩
theorem may37 : MayCall 37 := ⟨_, Tryz.func37, by kernel_rfl, by kernel_rfl⟩
theorem may57 : MayCall 57 := ⟨_, Tryz.func57, by kernel_rfl, by kernel_rfl⟩
theorem may90 : MayCall 90 := ⟨_, Tryz.func90, by kernel_rfl, by kernel_rfl⟩
end Go.Proofs.YtihdbjilolmfiaaGreatDoor
