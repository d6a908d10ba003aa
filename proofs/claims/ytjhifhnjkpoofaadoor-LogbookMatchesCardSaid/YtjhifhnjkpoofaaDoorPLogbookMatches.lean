/-
  The law's plain side: the walk (ExtM) has shown it.
-/
import Derived.Test.YtjhifhnjkpoofaaDoorExtM
import Derived.Test.YtjhifhnjkpoofaaDoorRowE
namespace Go.Proofs.YtjhifhnjkpoofaaDoor.M
open Go.RowKit Go.Proofs.YtjhifhnjkpoofaaDoorG
set_option linter.unusedVariables false
theorem pure_LogbookMatches (l0 : List S37) (h0 : ∀ x ∈ l0, WfE x) : ∃ k, timesynclaw50_LogbookMatches.f k l0 = some true := ⟨0, rfl⟩
end Go.Proofs.YtjhifhnjkpoofaaDoor.M
