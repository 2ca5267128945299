import Derived.Test.YtihdbjilolmfiaaGreatDoorVLowest03
namespace Go.Proofs.YtihdbjilolmfiaaGreatDoor
open Go.RowKit Go.WM Go.WR
attribute [local go_sem] Oper.semAt_some
theorem c50 {x y : Int} {t : Bool} {v0 v1 : Value} {w : World} (ht : decide (x = y) = t) (h0 : Is (num x) v0 w) (h1 : Is (num y) v1 w) : Calls Tryz.prog 50 #[v0, v1] w (Ret (.val (.bool t)) w) := by
 obtain ⟨A, ha, hRa, _, hla, _⟩ := Wn.raw h0
 obtain ⟨B, hb, hRb, _, hlb, _⟩ := Wn.raw h1
 refine (Same_any v0 v1 _ _ A B w (by omega) (by omega) ha hb).mono ?_
 rintro e w' ⟨rfl, hb⟩
 exact ⟨_, rfl, by rw [same_num hRa hRb, ht]; rfl, hb⟩
end Go.Proofs.YtihdbjilolmfiaaGreatDoor
