/-
  The example calls of the chapter answer true: a closed reckoning.
-/
import Derived.Test.YtipbkcilpnlgnaaDoorMD
namespace Go.Proofs.YtipbkcilpnlgnaaDoor.M
open Go.RowKit Go.Proofs.YtipbkcilpnlgnaaDoorG Go.Proofs.YtipbkcilpnlgnaaDoorW.PA Go.Proofs.YtipbkcilpnlgnaaDoorW.PB Go.Proofs.YtipbkcilpnlgnaaDoorW.PC
set_option linter.unusedVariables false
set_option linter.unusedSimpArgs false
theorem awake_true : w6_awake.f 100 = some true := by decide +kernel
theorem awake_at (k : Nat) (hk : 100 ≤ k) : w6_awake.f k = some true := at_rounds w6_awake.mono hk awake_true
end Go.Proofs.YtipbkcilpnlgnaaDoor.M
