/-
  LeapChecks, plain: the reference's Check is the program's.
-/
import Derived.Test.YtipbkcilpnlgnaaDoorPr
namespace Go.Proofs.YtipbkcilpnlgnaaDoor.M
open Go.RowKit
set_option linter.unusedVariables false
theorem small_c (b e : Int) (l : List S44) : timesynclaw06_small.f b e l = some (decide ((l.length : Int) ≤ 70)) := rfl
theorem awake_c (k : Nat) (hk : 400 ≤ k) : ((timesynclaw06_awake.f k).bind fun t => some t) = some true := by
  rw [awake_at k (by omega)]; rfl
theorem pure_LeapChecks (a0_0 a0_1 : Int) (l0 : List S44) : ∃ k, timesynclaw06_LeapChecks.f k a0_0 a0_1 l0 = some true := by
  refine ⟨3000, ?_⟩
  unfold timesynclaw06_LeapChecks.f
  rw [small_c, Option.bind_some]
  by_cases cs : (l0.length : Int) ≤ 70
  · rw [if_pos (decide_eq_true cs), check_eq 3000 (by decide), Option.bind_some, refcheck_eq 3000 (by decide), Option.bind_some, if_pos rfl]
    exact awake_c _ (by decide)
  · rw [if_neg (by rw [decide_eq_false cs]; decide)]
    exact awake_c _ (by decide)
end Go.Proofs.YtipbkcilpnlgnaaDoor.M
