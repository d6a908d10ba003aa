/-
  The two corrections agree, and so do their sums.
-/
import Derived.Test.YtdhoidhbhkgfgaaDoorPc
import Derived.Laws.BitsAllLaws
import Derived.Laws.Bits64
namespace Go.Proofs.YtdhoidhbhkgfgaaDoor.M
open Go.RowKit Go.Proofs.YtdhoidhbhkgfgaaDoorW.PrintWords Go.Proofs.YtdhoidhbhkgfgaaDoorW.PrintLast
set_option linter.unusedVariables false
set_option linter.unusedSimpArgs false
theorem pure_PtimeCorrections (a0 a1 : Int) (h0 : (Lit.int .i64 a0).wf = true) (h1 : (Lit.int .i64 a1).wf = true) : ∃ k, timesynclaw04_PtimeCorrections.f k a0 a1 = some true := by
  obtain ⟨b0, b1⟩ := wf64 h0
  obtain ⟨c0, c1⟩ := wf64 h1
  refine ⟨10, ?_⟩
  unfold timesynclaw04_PtimeCorrections.f
  rw [corr_eq a0 b0 b1, Option.bind_some, rcorr_eq 10 a0 b0 b1 (by decide), Option.bind_some, add_eq a0 a1 b0 b1 c0 c1, Option.bind_some, radd_eq a0 a1 b0 b1 c0 c1, Option.bind_some,
    if_pos rfl, if_pos rfl, rnanos_eq a0 b0 b1, awake_true]
  unfold ptime_Nanos.f
  simp
end Go.Proofs.YtdhoidhbhkgfgaaDoor.M
