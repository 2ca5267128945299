import Derived.Test.YtbaiohjladddlaaDoorW23
/- whole: Gcd's measure: what a slice of limbs reads as. -/
namespace Go.Proofs.YtbaiohjladddlaaDoor
open Go.RowKit Go.WM Go.WR

/-- what a slice of limbs reads as, at a world -/
def readN (W : World) : Value → Nat
  | .slice (some a) len _ => (val ((List.range len).map fun j => intOf ((W.cell? ⟨a.block, a.off + j, none⟩).getD (.int .u16 0)))).toNat
  | _ => 0

theorem readN_eq {n₀ : Nat} {W : World} {v : Value} {zs : List Int} (h : Lims n₀ W v zs) : readN W v = (val zs).toNat := by
  rcases h with ⟨rfl, rfl⟩ | ⟨b, off, cap, rfl, hl, hb, hc⟩
  · rfl
  · have e : ((List.range zs.length).map fun j => intOf ((W.cell? ⟨b, off + j, none⟩).getD (.int .u16 0))) = zs := by
      refine List.ext_getElem (by simp) fun j h1 h2 => ?_
      have := hc j h2
      simp only [List.getElem_map, List.getElem_range, this, Option.getD_some]
      rw [List.getElem?_eq_getElem h2]
      rfl
    simp only [readN, e]

end Go.Proofs.YtbaiohjladddlaaDoor
