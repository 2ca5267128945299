import Derived.Test.YtihdbjilolmfiaaGreatDoorD10
import Derived.Test.YtihdbjilolmfiaaGreatDoorD01
namespace Go.Proofs.YtihdbjilolmfiaaGreatDoor
open Go.RowKit Go.WM Go.WR
attribute [local go_sem] Oper.semAt_some
end Go.Proofs.YtihdbjilolmfiaaGreatDoor
