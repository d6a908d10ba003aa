/-
  The example calls of the chapter answer true: a closed reckoning.
-/
import Derived.Test.YtjhifhnjkpoofaaDoorMD
namespace Go.Proofs.YtjhifhnjkpoofaaDoor.M
open Go.RowKit Go.Proofs.YtjhifhnjkpoofaaDoorG Go.Proofs.YtjhifhnjkpoofaaDoorW.PrintWords Go.Proofs.YtjhifhnjkpoofaaDoorW.PrintLast Go.Proofs.YtjhifhnjkpoofaaDoorW.PrintMore
set_option linter.unusedVariables false
set_option linter.unusedSimpArgs false
theorem awake_true : timesynclaw50_awake.f 200 = some true := by decide +kernel
theorem awake_at (k : Nat) (hk : 200 ≤ k) : timesynclaw50_awake.f k = some true := at_rounds timesynclaw50_awake.mono hk awake_true
end Go.Proofs.YtjhifhnjkpoofaaDoor.M
