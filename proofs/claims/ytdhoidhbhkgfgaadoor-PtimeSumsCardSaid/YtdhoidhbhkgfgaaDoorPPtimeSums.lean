/-
  A sum of two corrections, in nanoseconds: rounding down loses at most one.
-/
import Derived.Test.YtdhoidhbhkgfgaaDoorPc
import Derived.Laws.BitsAllLaws
import Derived.Laws.Bits64
namespace Go.Proofs.YtdhoidhbhkgfgaaDoor.M
open Go.RowKit Go.Proofs.YtdhoidhbhkgfgaaDoorW.PrintWords Go.Proofs.YtdhoidhbhkgfgaaDoorW.PrintLast
set_option linter.unusedVariables false
set_option linter.unusedSimpArgs false
theorem sums_end (a : Int) (h0 : -9223372036854775808 ≤ a) (h1 : a ≤ 9223372036854775807) : timesynclaw04_PtimeSums.j0 11 a false = some true ∧ timesynclaw04_PtimeSums.j1 11 a false = some true := by
  simp only [timesynclaw04_PtimeSums.j0, timesynclaw04_PtimeSums.j1]
  rw [corr_eq a h0 h1, Option.bind_some, awake_true]
  unfold ptime_Nanos.f
  by_cases c : -9223372036854775808 ≤ a * 65536 ∧ a * 65536 ≤ 9223372036854775807
  · have hd : a * 65536 / 65536 = a := by omega
    simp [if_pos c, hd]
  · simp [if_neg c]
theorem pure_PtimeSums (a0 a1 : Int) (h0 : (Lit.int .i64 a0).wf = true) (h1 : (Lit.int .i64 a1).wf = true) : ∃ k, timesynclaw04_PtimeSums.f k a0 a1 = some true := by
  obtain ⟨b0, b1⟩ := wf64 h0
  obtain ⟨c0, c1⟩ := wf64 h1
  obtain ⟨e0, e1⟩ := sums_end a0 b0 b1
  refine ⟨11, ?_⟩
  unfold timesynclaw04_PtimeSums.f ptime_Nanos.f
  rw [add_eq a0 a1 b0 b1 c0 c1, Option.bind_some]
  unfold sumOut
  by_cases d : a0 + a1 > 9223372036854775807
  · simp only [if_pos d, Bool.false_eq_true, if_false, if_true]; exact e1
  · simp only [if_neg d]
    by_cases d1 : a0 + a1 < -9223372036854775808
    · simp only [if_pos d1, Bool.false_eq_true, if_false]
      rw [if_neg (by decide)]
      exact e1
    · simp only [if_neg d1, if_true, Option.bind_some]
      have hw : wrap64 (wrap64 ((a0 + a1) / 65536 - a0 / 65536) - a1 / 65536) = 0 ∨ wrap64 (wrap64 ((a0 + a1) / 65536 - a0 / 65536) - a1 / 65536) = 1 := by unfold wrap64; omega
      rcases hw with hw | hw <;> rw [hw]
      · exact e0
      · exact e0
end Go.Proofs.YtdhoidhbhkgfgaaDoor.M
