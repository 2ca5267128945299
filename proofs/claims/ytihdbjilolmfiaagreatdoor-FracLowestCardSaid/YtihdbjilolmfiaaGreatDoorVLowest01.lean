import Derived.Test.YtihdbjilolmfiaaGreatDoorD01
import Derived.Test.YtihdbjilolmfiaaGreatDoorD02
import Derived.Test.YtihdbjilolmfiaaGreatDoorD03
import Derived.Test.YtihdbjilolmfiaaGreatDoorD04
import Derived.Test.YtihdbjilolmfiaaGreatDoorD05
import Derived.Test.YtihdbjilolmfiaaGreatDoorD06
import Derived.Test.YtihdbjilolmfiaaGreatDoorD07
import Derived.Test.YtihdbjilolmfiaaGreatDoorD08
import Derived.Test.YtihdbjilolmfiaaGreatDoorD09
import Derived.Test.YtihdbjilolmfiaaGreatDoorD10
import Derived.Test.YtihdbjilolmfiaaGreatDoorD11
import Derived.Test.YtihdbjilolmfiaaGreatDoorD12
import Derived.Test.YtihdbjilolmfiaaGreatDoorD13
import Derived.Test.YtihdbjilolmfiaaGreatDoorD14
import Derived.Test.YtihdbjilolmfiaaGreatDoorD15
import Derived.Test.YtihdbjilolmfiaaGreatDoorD16
import Derived.Test.YtihdbjilolmfiaaGreatDoorD17
import Derived.Test.YtihdbjilolmfiaaGreatDoorD18
import Derived.Test.YtihdbjilolmfiaaGreatDoorD19
import Derived.Test.YtihdbjilolmfiaaGreatDoorD20
import Derived.Test.YtihdbjilolmfiaaGreatDoorD21
import Derived.Test.YtihdbjilolmfiaaGreatDoorD22
import Derived.Test.YtihdbjilolmfiaaGreatDoorD23
import Derived.Test.YtihdbjilolmfiaaGreatDoorD24
import Derived.Test.YtihdbjilolmfiaaGreatDoorD25
import Derived.Test.YtihdbjilolmfiaaGreatDoorD26
import Derived.Test.YtihdbjilolmfiaaGreatDoorD27
import Derived.Test.YtihdbjilolmfiaaGreatDoorD28
import Derived.Test.YtihdbjilolmfiaaGreatDoorD29
import Derived.Test.YtihdbjilolmfiaaGreatDoorD30
import Derived.Test.YtihdbjilolmfiaaGreatDoorD31
import Derived.Test.YtihdbjilolmfiaaGreatDoorD32
import Derived.Test.YtihdbjilolmfiaaGreatDoorD33
import Derived.Test.YtihdbjilolmfiaaGreatDoorD34
import Derived.Test.YtihdbjilolmfiaaGreatDoorD35
import Derived.Test.YtihdbjilolmfiaaGreatDoorD36
namespace Go.Proofs.YtihdbjilolmfiaaGreatDoor
open Go.RowKit Go.WM Go.WR
attribute [local go_sem] Oper.semAt_some
variable {n : Nat} {o : Oper} {a : Act} {w : World}
theorem kCall0 {k : Kd} {f : Nat} {ts : Array TypeId} (ho : o.op = .call { callee := .value (.func f), args := #[], argTypes := ts }) (hf : MayCall f) (hc : Calls Tryz.prog f #[] w (Ret k w)) : Op1 n Tryz.prog o a w (fun v W' => KW k v W' ∧ Below w.heap.size w W') := kCall ho hf (by simp) hc
end Go.Proofs.YtihdbjilolmfiaaGreatDoor
namespace Go.Proofs.YtihdbjilolmfiaaGreatDoor
open Go.RowKit Go.WM Go.WR
attribute [local go_sem] Oper.semAt_some
theorem may16 : MayCall 16 := ⟨_, Tryz.func16, by kernel_rfl, by kernel_rfl⟩
theorem may29 : MayCall 29 := ⟨_, Tryz.func29, by kernel_rfl, by kernel_rfl⟩
theorem may31 : MayCall 31 := ⟨_, Tryz.func31, by kernel_rfl, by kernel_rfl⟩
theorem may32 : MayCall 32 := ⟨_, Tryz.func32, by kernel_rfl, by kernel_rfl⟩
theorem may34 : MayCall 34 := ⟨_, Tryz.func34, by kernel_rfl, by kernel_rfl⟩
theorem may35 : MayCall 35 := ⟨_, Tryz.func35, by kernel_rfl, by kernel_rfl⟩
theorem may36 : MayCall 36 := ⟨_, Tryz.func36, by kernel_rfl, by kernel_rfl⟩
theorem may37 : MayCall 37 := ⟨_, Tryz.func37, by kernel_rfl, by kernel_rfl⟩
theorem may38 : MayCall 38 := ⟨_, Tryz.func38, by kernel_rfl, by kernel_rfl⟩
theorem may40 : MayCall 40 := ⟨_, Tryz.func40, by kernel_rfl, by kernel_rfl⟩
theorem may45 : MayCall 45 := ⟨_, Tryz.func45, by kernel_rfl, by kernel_rfl⟩
theorem may50 : MayCall 50 := ⟨_, Tryz.func50, by kernel_rfl, by kernel_rfl⟩
theorem may57 : MayCall 57 := ⟨_, Tryz.func57, by kernel_rfl, by kernel_rfl⟩
theorem may90 : MayCall 90 := ⟨_, Tryz.func90, by kernel_rfl, by kernel_rfl⟩
end Go.Proofs.YtihdbjilolmfiaaGreatDoor
