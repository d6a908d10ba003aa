/-
  The two checks agree.
-/
import Derived.Test.YtjhifhnjkpoofaaDoorPa
import Derived.Test.YtjhifhnjkpoofaaDoorPb
import Derived.Test.YtjhifhnjkpoofaaDoorRowE
namespace Go.Proofs.YtjhifhnjkpoofaaDoor.M
open Go.RowKit Go.Proofs.YtjhifhnjkpoofaaDoorG Go.Proofs.YtjhifhnjkpoofaaDoorW.PrintWords Go.Proofs.YtjhifhnjkpoofaaDoorW.PrintLast Go.Proofs.YtjhifhnjkpoofaaDoorW.PrintMore
set_option linter.unusedVariables false
set_option linter.unusedSimpArgs false
theorem pure_LogbookChecks (l0 : List S37) (h0 : ∀ x ∈ l0, WfE x) : ∃ k, timesynclaw50_LogbookChecks.f k l0 = some true := by
  refine ⟨2000, ?_⟩
  unfold timesynclaw50_LogbookChecks.f
  by_cases c : (l0.length : Int) > 600
  · rw [if_pos c]
  · rw [if_neg c, refcheck_eq l0 2000 (Nat.le_refl _), awake_at 2000 (by decide)]
    unfold logbook_Check.f
    simp
end Go.Proofs.YtjhifhnjkpoofaaDoor.M
