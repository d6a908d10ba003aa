/-
  The example calls of the chapter answer true: a closed reckoning.
-/
import Derived.Test.YtdhoidhbhkgfgaaDoorMD
import Derived.Laws.BitsAllLaws
import Derived.Laws.Bits64
namespace Go.Proofs.YtdhoidhbhkgfgaaDoor.M
open Go.RowKit Go.Proofs.YtdhoidhbhkgfgaaDoorW.PrintWords Go.Proofs.YtdhoidhbhkgfgaaDoorW.PrintLast
set_option linter.unusedVariables false
set_option linter.unusedSimpArgs false
theorem awake_true : timesynclaw04_awake.f 10 = some true := by decide +kernel
end Go.Proofs.YtdhoidhbhkgfgaaDoor.M
