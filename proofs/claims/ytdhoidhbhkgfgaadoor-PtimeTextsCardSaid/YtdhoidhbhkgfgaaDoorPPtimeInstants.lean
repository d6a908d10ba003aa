/-
  Instants and timestamps: the two packages answer alike.
-/
import Derived.Test.YtdhoidhbhkgfgaaDoorPc
import Derived.Laws.BitsAllLaws
import Derived.Laws.Bits64
namespace Go.Proofs.YtdhoidhbhkgfgaaDoor.M
open Go.RowKit Go.Proofs.YtdhoidhbhkgfgaaDoorW.PrintWords Go.Proofs.YtdhoidhbhkgfgaaDoorW.PrintLast
set_option linter.unusedVariables false
set_option linter.unusedSimpArgs false
theorem check_eq (s n : Int) : ptime_Check.f s n = timesyncref04_Check.f s n := by
  unfold ptime_Check.f timesyncref04_Check.f
  repeat' split
  all_goals first
    | rfl
    | (exfalso; omega)
theorem of_eq (a : Int) : ptime_Of.f a = timesyncref04_Of.f a := rfl
theorem check_vals (s n : Int) : (timesyncref04_Check.f s n = some 3) ∨ (timesyncref04_Check.f s n = some 0 ∧ 0 ≤ s ∧ s < 281474976710656 ∧ 0 ≤ n ∧ n < 1000000000) := by
  unfold timesyncref04_Check.f
  repeat' split
  all_goals first
    | exact .inl rfl
    | exact .inr ⟨rfl, by omega, by omega, by omega, by omega⟩
theorem time_eq (s n : Int) : ∃ r, ptime_Time.f 10 s n = some r ∧ timesyncref04_Time.f 10 s n = some r := by
  unfold ptime_Time.f timesyncref04_Time.f
  rw [check_eq]
  rcases check_vals s n with h | ⟨h, h0, h1, h2, h3⟩ <;> rw [h]
  · exact ⟨_, rfl, rfl⟩
  · simp only [Option.bind_some, if_true]
    have e : wrap64 (s + 2208988800) = s + 2208988800 := by unfold wrap64; omega
    rw [e, ref_mul 10 _ 1000000000 (by omega) (by omega) (by decide) (by decide) (by decide), Option.bind_some]
    simp only [ptime_Time.j0, e]
    by_cases c : s > 5791011200
    · rw [decide_eq_true c, if_pos rfl]
      have hm : mulOut (s + 2208988800) 1000000000 = ((s + 2208988800) * 1000000000, true) ∨ mulOut (s + 2208988800) 1000000000 = (0, false) := by
        unfold mulOut
        split
        · exact .inl rfl
        · exact .inr rfl
      refine ⟨_, rfl, ?_⟩
      rcases hm with hm | hm <;> rw [hm]
      · rw [if_pos rfl, if_pos (by unfold wrap64; simp only; omega)]
      · rfl
    · have w1 : wrap64 ((s + 2208988800) * 1000000000) = (s + 2208988800) * 1000000000 := by unfold wrap64; omega
      have w2 : wrap64 (8000000000000000000 - n) = 8000000000000000000 - n := by unfold wrap64; omega
      have w3 : wrap64 ((s + 2208988800) * 1000000000 + n) = (s + 2208988800) * 1000000000 + n := by unfold wrap64; omega
      have hm : mulOut (s + 2208988800) 1000000000 = ((s + 2208988800) * 1000000000, true) := by
        unfold mulOut
        rw [if_pos (by omega)]
      rw [decide_eq_false c, if_neg (by decide), w1, w3, hm, if_pos rfl, w2, w3]
      by_cases d : (s + 2208988800) * 1000000000 + n > 8000000000000000000
      · rw [if_pos d, if_pos (by simp only; omega)]; exact ⟨_, rfl, rfl⟩
      · rw [if_neg d, if_neg (by simp only; omega)]; exact ⟨_, rfl, rfl⟩
theorem pure_PtimeInstants (a0_0 a0_1 a1 : Int) (h0 : (Lit.int .i64 a0_0).wf = true) (h1 : (Lit.int .i64 a0_1).wf = true) (h2 : (Lit.int .i64 a1).wf = true) : ∃ k, timesynclaw04_PtimeInstants.f k a0_0 a0_1 a1 = some true := by
  refine ⟨10, ?_⟩
  obtain ⟨r, e1, e2⟩ := time_eq a0_0 a0_1
  obtain ⟨q, e3⟩ : ∃ q, timesyncref04_Of.f a1 = some q := by unfold timesyncref04_Of.f; split <;> exact ⟨_, rfl⟩
  obtain ⟨c, e4⟩ : ∃ c, timesyncref04_Check.f a0_0 a0_1 = some c := by rcases check_vals a0_0 a0_1 with h | h; exact ⟨_, h⟩; exact ⟨_, h.1⟩
  unfold timesynclaw04_PtimeInstants.f
  rw [e1, e2, of_eq, e3, check_eq, e4, awake_true]
  simp
end Go.Proofs.YtdhoidhbhkgfgaaDoor.M
