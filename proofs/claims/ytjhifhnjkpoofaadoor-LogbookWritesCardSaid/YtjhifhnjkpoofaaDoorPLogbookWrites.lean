/-
  What is read from a text is written as the same text.
-/
import Derived.Test.YtjhifhnjkpoofaaDoorPe
import Derived.Test.YtjhifhnjkpoofaaDoorPb
namespace Go.Proofs.YtjhifhnjkpoofaaDoor.M
open Go.RowKit Go.Proofs.YtjhifhnjkpoofaaDoorG Go.Proofs.YtjhifhnjkpoofaaDoorW.PrintWords Go.Proofs.YtjhifhnjkpoofaaDoorW.PrintLast Go.Proofs.YtjhifhnjkpoofaaDoorW.PrintMore
set_option linter.unusedVariables false
set_option linter.unusedSimpArgs false
theorem pure_LogbookWrites (a0 : ByteArray) (w0 : a0.size ≤ 140737488351232) : ∃ k, timesynclaw50_LogbookWrites.f k a0 = some true := by
  refine ⟨30000, ?_⟩
  unfold timesynclaw50_LogbookWrites.f
  rw [awake_at 30000 (by decide)]
  by_cases c : (a0.size : Int) > 20000
  · rw [if_pos c]; rfl
  · rw [if_neg c, parse_f 30000 a0 (by omega) (by omega), Option.bind_some]
    obtain ⟨r, hr⟩ : ∃ r, r = parseP 30000 a0.data.toList [] 1 := ⟨_, rfl⟩
    have h := parse_writes 30000 a0.data.toList [] 1 r (by rw [size_list]; omega) (by decide) hr.symm
    rw [← hr]
    by_cases e : r.2.2 = 0
    · obtain ⟨h1, h2, h3⟩ := h.1 e
      rw [if_pos e]
      unfold logbook_Text.f
      rw [Option.bind_some, if_pos h3]
      simp only [if_true]
      rw [ByteArray.toList_eq, ByteArray.toList_eq, if_pos (by simpa using h1), if_pos h2]
      rfl
    · obtain ⟨h1, h2⟩ := h.2 e
      rw [if_neg e, h1, if_pos (by simp), if_pos h2]
      rfl
end Go.Proofs.YtjhifhnjkpoofaaDoor.M
