import Derived.Test.YtihdbjilolmfiaaGreatDoorE14
import Derived.Test.YtihdbjilolmfiaaGreatDoorE16
import Derived.Test.YtihdbjilolmfiaaGreatDoorE17
import Derived.Test.YtihdbjilolmfiaaGreatDoorE12
import Derived.Test.YtihdbjilolmfiaaGreatDoorE01
namespace Go.Proofs.YtihdbjilolmfiaaGreatDoor
open Go.RowKit Go.WM Go.WR
attribute [local go_sem] Oper.semAt_some
theorem sz24 : (Tryz.prog.info? 24).map (·.size) = some 2 := by kernel_rfl
theorem sz26 : (Tryz.prog.info? 26).map (·.size) = some 4 := by kernel_rfl
theorem sz73 : (Tryz.prog.info? 73).map (·.size) = some 4 := by kernel_rfl
theorem may17 : MayCall 17 := ⟨_, Tryz.func17, by kernel_rfl, by kernel_rfl⟩
theorem may22 : MayCall 22 := ⟨_, Tryz.func22, by kernel_rfl, by kernel_rfl⟩
theorem may23 : MayCall 23 := ⟨_, Tryz.func23, by kernel_rfl, by kernel_rfl⟩
theorem may27 : MayCall 27 := ⟨_, Tryz.func27, by kernel_rfl, by kernel_rfl⟩
theorem may33 : MayCall 33 := ⟨_, Tryz.func33, by kernel_rfl, by kernel_rfl⟩
theorem may42 : MayCall 42 := ⟨_, Tryz.func42, by kernel_rfl, by kernel_rfl⟩
theorem may43 : MayCall 43 := ⟨_, Tryz.func43, by kernel_rfl, by kernel_rfl⟩
theorem may44 : MayCall 44 := ⟨_, Tryz.func44, by kernel_rfl, by kernel_rfl⟩
theorem may46 : MayCall 46 := ⟨_, Tryz.func46, by kernel_rfl, by kernel_rfl⟩
theorem may47 : MayCall 47 := ⟨_, Tryz.func47, by kernel_rfl, by kernel_rfl⟩
theorem may48 : MayCall 48 := ⟨_, Tryz.func48, by kernel_rfl, by kernel_rfl⟩
theorem may49 : MayCall 49 := ⟨_, Tryz.func49, by kernel_rfl, by kernel_rfl⟩
theorem may51 : MayCall 51 := ⟨_, Tryz.func51, by kernel_rfl, by kernel_rfl⟩
theorem may52 : MayCall 52 := ⟨_, Tryz.func52, by kernel_rfl, by kernel_rfl⟩
theorem may53 : MayCall 53 := ⟨_, Tryz.func53, by kernel_rfl, by kernel_rfl⟩
theorem may55 : MayCall 55 := ⟨_, Tryz.func55, by kernel_rfl, by kernel_rfl⟩
theorem may63 : MayCall 63 := ⟨_, Tryz.func63, by kernel_rfl, by kernel_rfl⟩
theorem may64 : MayCall 64 := ⟨_, Tryz.func64, by kernel_rfl, by kernel_rfl⟩
theorem may65 : MayCall 65 := ⟨_, Tryz.func65, by kernel_rfl, by kernel_rfl⟩
theorem may66 : MayCall 66 := ⟨_, Tryz.func66, by kernel_rfl, by kernel_rfl⟩
theorem may67 : MayCall 67 := ⟨_, Tryz.func67, by kernel_rfl, by kernel_rfl⟩
theorem may68 : MayCall 68 := ⟨_, Tryz.func68, by kernel_rfl, by kernel_rfl⟩
theorem may69 : MayCall 69 := ⟨_, Tryz.func69, by kernel_rfl, by kernel_rfl⟩
theorem may70 : MayCall 70 := ⟨_, Tryz.func70, by kernel_rfl, by kernel_rfl⟩
theorem may72 : MayCall 72 := ⟨_, Tryz.func72, by kernel_rfl, by kernel_rfl⟩
theorem may73 : MayCall 73 := ⟨_, Tryz.func73, by kernel_rfl, by kernel_rfl⟩
theorem may74 : MayCall 74 := ⟨_, Tryz.func74, by kernel_rfl, by kernel_rfl⟩
theorem may75 : MayCall 75 := ⟨_, Tryz.func75, by kernel_rfl, by kernel_rfl⟩
theorem may79 : MayCall 79 := ⟨_, Tryz.func79, by kernel_rfl, by kernel_rfl⟩
theorem may82 : MayCall 82 := ⟨_, Tryz.func82, by kernel_rfl, by kernel_rfl⟩
theorem may84 : MayCall 84 := ⟨_, Tryz.func84, by kernel_rfl, by kernel_rfl⟩
theorem may85 : MayCall 85 := ⟨_, Tryz.func85, by kernel_rfl, by kernel_rfl⟩
theorem may86 : MayCall 86 := ⟨_, Tryz.func86, by kernel_rfl, by kernel_rfl⟩
theorem may87 : MayCall 87 := ⟨_, Tryz.func87, by kernel_rfl, by kernel_rfl⟩
theorem may89 : MayCall 89 := ⟨_, Tryz.func89, by kernel_rfl, by kernel_rfl⟩
theorem may91 : MayCall 91 := ⟨_, Tryz.func91, by kernel_rfl, by kernel_rfl⟩
theorem may92 : MayCall 92 := ⟨_, Tryz.func92, by kernel_rfl, by kernel_rfl⟩
theorem may94 : MayCall 94 := ⟨_, Tryz.func94, by kernel_rfl, by kernel_rfl⟩
theorem may99 : MayCall 99 := ⟨_, Tryz.func99, by kernel_rfl, by kernel_rfl⟩
theorem may101 : MayCall 101 := ⟨_, Tryz.func101, by kernel_rfl, by kernel_rfl⟩
theorem may102 : MayCall 102 := ⟨_, Tryz.func102, by kernel_rfl, by kernel_rfl⟩
theorem may112 : MayCall 112 := ⟨_, Tryz.func112, by kernel_rfl, by kernel_rfl⟩
theorem may138 : MayCall 138 := ⟨_, Tryz.func138, by kernel_rfl, by kernel_rfl⟩
theorem may139 : MayCall 139 := ⟨_, Tryz.func139, by kernel_rfl, by kernel_rfl⟩
theorem may148 : MayCall 148 := ⟨_, Tryz.func148, by kernel_rfl, by kernel_rfl⟩
theorem wo_is {B : Nat} {W : World} {v : Value} {z : Int} (h : Wo B W v z) : Is (num z) v W := h.num
theorem fit_ret {z : Int} {w : World} {e : Ending} {w' : World} (hz : z.natAbs < Cap) (h : FitPost w.heap.size z w e w') : Ret (.k (tup2 (.k (num z)) (.val (.int .i64 0)))) w e w' := by
 obtain ⟨b, p, l, c, er, rfl, hf, hb⟩ := h
 rcases hf with ⟨_, rfl, hO⟩ | ⟨h2, _⟩
 · exact ⟨_, rfl, ⟨_, _, rfl, (wo_is hO), rfl⟩, hb⟩
 · omega
theorem c53 {x y z : Int} {va vb : Value} {w : World} (hx : x + y = z) (hz : z.natAbs < Cap) (ha : Is (num x) va w) (hb : Is (num y) vb w) : Calls Tryz.prog 53 #[va, vb] w (Ret (.k (tup2 (.k (num z)) (.val (.int .i64 0)))) w) :=
 by subst hx; exact (Add_ok va vb x y w ha hb).mono fun _ _ h => fit_ret hz h
theorem c49 {x y z : Int} {va vb : Value} {w : World} (hx : x * y = z) (hz : z.natAbs < Cap) (ha : Is (num x) va w) (hb : Is (num y) vb w) : Calls Tryz.prog 49 #[va, vb] w (Ret (.k (tup2 (.k (num z)) (.val (.int .i64 0)))) w) :=
 by subst hx; exact (Mul_ok va vb x y w ha hb).mono fun _ _ h => fit_ret hz h
theorem c138 {x y z : Int} {va vb : Value} {w : World} (hx : ((Int.gcd x y : Nat) : Int) = z) (ha : Is (num x) va w) (hb : Is (num y) vb w) : Calls Tryz.prog 138 #[va, vb] w (Ret (.k (tup2 (.k (num z)) (.val (.int .i64 0)))) w) := by
 subst hx
 refine (Gcd_ok va vb x y w ha hb).mono ?_
 rintro e w' ⟨b2, p, l, c, rfl, hO, hb⟩
 exact ⟨_, rfl, ⟨_, _, rfl, (wo_is hO), rfl⟩, hb⟩
theorem c68 {x y q r : Int} {va vb : Value} {w : World} (hy : y ≠ 0) (hf : Floor x y q r) (ha : Is (num x) va w) (hb : Is (num y) vb w) : Calls Tryz.prog 68 #[va, vb] w (Ret (.k (tup3 (.k (num q)) (.k (num r)) (.val (.int .i64 0)))) w) := by
 refine (DivMod_ok va vb x y w ha hb hy).mono ?_
 rintro e w' ⟨b1, b2, p1, l1, c1, p2, l2, c2, q', r', rfl, hf', hq, hr, hb2⟩
 obtain ⟨rfl, rfl⟩ := hf.unique hy hf'
 exact ⟨_, rfl, ⟨_, _, _, rfl, (wo_is hq), (wo_is hr), rfl⟩, hb2⟩
end Go.Proofs.YtihdbjilolmfiaaGreatDoor
