/-
  LeapBack, plain: a valid table is parsed from its text as it was; what is parsed is valid and parsed from its own text again.
-/
import Derived.Test.YtipbkcilpnlgnaaDoorPn
import Derived.Test.YtipbkcilpnlgnaaDoorPg
namespace Go.Proofs.YtipbkcilpnlgnaaDoor.M
open Go.RowKit Go.Proofs.YtipbkcilpnlgnaaDoorG Go.Proofs.YtipbkcilpnlgnaaDoorW.PrintWords Go.Proofs.YtipbkcilpnlgnaaDoorW.PrintLast Go.Proofs.YtipbkcilpnlgnaaDoorW.PrintMore
set_option linter.unusedVariables false
set_option linter.unusedSimpArgs false
theorem pure_LeapBack (a0_0 a0_1 : Int) (l0 : List S44) (a1 : ByteArray) : ∃ k, timesynclaw06_LeapBack.f k a0_0 a0_1 l0 a1 = some true := by
  refine ⟨1002, ?_⟩
  have hbad : timesynclaw06_LeapBack.j0 1002 a1 true a0_0 a0_1 l0 = some true := by
    simp only [timesynclaw06_LeapBack.j0]
    rw [if_pos trivial]
    exact awake_at' _ (by decide)
  unfold timesynclaw06_LeapBack.f
  rw [small_eq, Option.bind_some]
  by_cases cs : (l0.length : Int) ≤ 70
  · rw [if_pos (decide_eq_true cs)]
    by_cases cz : (a1.size : Int) > 3000
    · rw [decide_eq_true cz]; exact hbad
    · rw [decide_eq_false cz]
      have hj : timesynclaw06_LeapBack.j1 1001 a1 = some true := by
        simp only [timesynclaw06_LeapBack.j1]
        obtain ⟨b, e, l, r, hp, hr⟩ := parse_ok a1 (by omega)
        rw [hp, Option.bind_some]
        simp only
        rcases hr with ⟨rfl, hc⟩ | ⟨hr, rfl, rfl, rfl⟩
        · have hl := (chk_ok hc).1
          rw [if_pos rfl, text_eq, if_pos hc, Option.bind_some, parse_text b e l hc, Option.bind_some, check_eq 1000 (by decide), Option.bind_some, if_pos hc]
          simp only
          rw [same_refl 1000 (by decide) b e l hl, Option.bind_some, if_pos rfl, if_pos trivial]
          exact awake_at' _ (by decide)
        · rw [if_neg hr, same_refl 1000 (by decide) 0 0 [] (by decide), Option.bind_some, if_pos rfl]
          exact awake_at' _ (by decide)
      simp only [timesynclaw06_LeapBack.j0]
      rw [if_neg (by decide), check_eq 1001 (by decide), Option.bind_some]
      by_cases hc : chk a0_0 a0_1 l0 = 0
      · have hl := (chk_ok hc).1
        rw [if_pos hc, text_eq, if_pos hc, Option.bind_some, parse_text _ _ _ hc, Option.bind_some]
        simp only
        rw [same_refl 1001 (by decide) _ _ l0 hl, Option.bind_some, if_pos rfl, if_pos trivial]
        exact hj
      · rw [if_neg hc, text_eq, if_neg hc, Option.bind_some, if_pos (by rw [ByteArray.toList_eq])]
        exact hj
  · rw [if_neg (by rw [decide_eq_false cs]; decide)]
    exact hbad
end Go.Proofs.YtipbkcilpnlgnaaDoor.M
