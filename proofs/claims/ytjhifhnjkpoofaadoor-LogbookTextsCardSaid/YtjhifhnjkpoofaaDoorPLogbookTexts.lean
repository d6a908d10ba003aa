/-
  The two texts agree.
-/
import Derived.Test.YtjhifhnjkpoofaaDoorPf
import Derived.Test.YtjhifhnjkpoofaaDoorPb
import Derived.Test.YtjhifhnjkpoofaaDoorRowE
namespace Go.Proofs.YtjhifhnjkpoofaaDoor.M
open Go.RowKit Go.Proofs.YtjhifhnjkpoofaaDoorG Go.Proofs.YtjhifhnjkpoofaaDoorW.PrintWords Go.Proofs.YtjhifhnjkpoofaaDoorW.PrintLast Go.Proofs.YtjhifhnjkpoofaaDoorW.PrintMore
set_option linter.unusedVariables false
set_option linter.unusedSimpArgs false
theorem pure_LogbookTexts (l0 : List S37) (h0 : ∀ x ∈ l0, WfE x) : ∃ k, timesynclaw50_LogbookTexts.f k l0 = some true := by
  refine ⟨3000, ?_⟩
  unfold timesynclaw50_LogbookTexts.f
  rw [reftext_eq l0, awake_at 3000 (by decide)]
  by_cases c : (l0.length : Int) > 600
  · rw [if_pos c]; rfl
  · rw [if_neg c]
    unfold logbook_Text.f
    simp
end Go.Proofs.YtjhifhnjkpoofaaDoor.M
