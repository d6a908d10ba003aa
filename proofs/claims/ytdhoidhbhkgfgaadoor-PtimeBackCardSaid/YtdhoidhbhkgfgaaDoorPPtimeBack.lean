/-
  A timestamp is read back from its bytes, its text and its instant.
-/
import Derived.Test.YtdhoidhbhkgfgaaDoorPu
import Derived.Laws.BitsAllLaws
import Derived.Laws.Bits64
namespace Go.Proofs.YtdhoidhbhkgfgaaDoor.M
open Go.RowKit Go.Proofs.YtdhoidhbhkgfgaaDoorW.PrintWords Go.Proofs.YtdhoidhbhkgfgaaDoorW.PrintLast
set_option linter.unusedVariables false
set_option linter.unusedSimpArgs false
theorem encode_valid (s n : Int) (h0 : 0 ≤ s) (h1 : s < 281474976710656) (h2 : 0 ≤ n) (h3 : n < 1000000000) (h : timesyncref04_Check.f s n = some 0) : ptime_Encode.f s n = some (bytes6 s ++ bytes4 n, 0) := by
  unfold ptime_Encode.f
  rw [check_eq, h]
  simp only [Option.bind_some, if_true, IntKind.wrap_u64]
  rw [show s % 18446744073709551616 = s from by omega, show n % 18446744073709551616 = n from by omega]
  unfold wire_Append.f
  rw [if_pos ⟨rfl, rfl, h0, h1⟩, Option.bind_some, if_neg (by simp), if_pos ⟨rfl, rfl, h2, by omega⟩]
  rfl
theorem decode_bytes (s n : Int) (h0 : 0 ≤ s) (h1 : s < 281474976710656) (h2 : 0 ≤ n) (h3 : n < 1000000000) : ptime_Decode.f (bytes6 s ++ bytes4 n) = some (s, n, 0) := by
  have hl : (bytes6 s ++ bytes4 n).length = 10 := rfl
  have n4 : num4 (bytes6 s ++ bytes4 n) = n := by simp [num4, bytes6, bytes4]; omega
  have n6 : num6 (bytes6 s ++ bytes4 n) = s := by simp [num6, bytes6, bytes4]; omega
  have hb : ∀ x ∈ bytes6 s ++ bytes4 n, 0 ≤ x ∧ x < 256 := by
    simp only [bytes6, bytes4, List.cons_append, List.nil_append, List.mem_cons, List.not_mem_nil, or_false, forall_eq_or_imp, forall_eq]
    omega
  unfold ptime_Decode.f
  rw [hl, if_neg (by decide), if_neg (by decide), if_pos hb, n4, n6, if_neg (by omega)]
theorem instant_back (s n : Int) (h0 : 0 ≤ s) (h1 : s < 281474976710656) (h2 : 0 ≤ n) (h3 : n < 1000000000) (h : timesyncref04_Check.f s n = some 0) : timesynclaw04_PtimeBack.j0 20 false s n = some true := by
  simp only [timesynclaw04_PtimeBack.j0]
  unfold ptime_Time.f
  have e : wrap64 (s + 2208988800) = s + 2208988800 := by unfold wrap64; omega
  rw [if_neg (by decide), check_eq, h, Option.bind_some, if_pos rfl, awake_at 19 (by decide)]
  simp only [ptime_Time.j0, e]
  by_cases c : s > 5791011200
  · rw [decide_eq_true c, if_pos rfl, Option.bind_some, if_neg (by decide), if_pos (by omega)]; rfl
  · have w1 : wrap64 ((s + 2208988800) * 1000000000) = (s + 2208988800) * 1000000000 := by unfold wrap64; omega
    have w3 : wrap64 ((s + 2208988800) * 1000000000 + n) = (s + 2208988800) * 1000000000 + n := by unfold wrap64; omega
    rw [decide_eq_false c, if_neg (show ¬ false = true by decide), w1, w3]
    by_cases d : (s + 2208988800) * 1000000000 + n > 8000000000000000000
    · rw [if_pos d, Option.bind_some, if_neg (by decide), if_pos (by omega)]; rfl
    · rw [if_neg d, Option.bind_some, if_pos rfl]
      unfold ptime_Of.f
      have t1 : Int.tdiv ((s + 2208988800) * 1000000000 + n) 1000000000 = s + 2208988800 := by rw [Int.tdiv_eq_ediv_of_nonneg (by omega)]; omega
      have t2 : Int.tmod ((s + 2208988800) * 1000000000 + n) 1000000000 = n := by rw [Int.tmod_eq_emod_of_nonneg (by omega)]; omega
      have w4 : wrap64 (s + 2208988800 - 2208988800) = s := by unfold wrap64; omega
      simp only [t1, t2, e, w4]
      rw [if_neg (by omega), Option.bind_some]
      simp
      omega
theorem pure_PtimeBack (a0_0 a0_1 : Int) (h0 : (Lit.int .i64 a0_0).wf = true) (h1 : (Lit.int .i64 a0_1).wf = true) : ∃ k, timesynclaw04_PtimeBack.f k a0_0 a0_1 = some true := by
  refine ⟨21, ?_⟩
  unfold timesynclaw04_PtimeBack.f
  rw [check_eq]
  rcases check_vals a0_0 a0_1 with h | ⟨h, b0, b1, b2, b3⟩
  · have ht : txt a0_0 a0_1 = ⟨#[]⟩ := by unfold txt; rw [h]; rfl
    have he : ptime_Encode.f a0_0 a0_1 = some ([], 3) := by unfold ptime_Encode.f; rw [check_eq, h]; rfl
    have hT : ptime_Time.f 21 a0_0 a0_1 = some (0, 3) := by unfold ptime_Time.f; rw [check_eq, h]; rfl
    rw [h, he, hT, ptext_eq, ht, awake_at 21 (by decide)]
    simp [ByteArray.toList_eq]
  · have ht : txt a0_0 a0_1 = textOf a0_0 a0_1 := by unfold txt; rw [h]; rfl
    have hb := at_rounds (g := fun k => timesynclaw04_PtimeBack.j0 k false a0_0 a0_1) (fun k => timesynclaw04_PtimeBack.mono_l k _ _ _) (show 20 ≤ 21 by decide) (instant_back a0_0 a0_1 b0 b1 b2 b3 h)
    have hp := at_rounds (g := fun k => ptime_Parse.f k (textOf a0_0 a0_1)) (fun k => ptime_Parse.mono _ k) (show 20 ≤ 21 by decide) (pparse_text a0_0 a0_1 h)
    have hl : (bytes6 a0_0 ++ bytes4 a0_1).length = 10 := rfl
    rw [h, encode_valid _ _ b0 b1 b2 b3 h, Option.bind_some, if_pos rfl, Option.bind_some, decode_bytes _ _ b0 b1 b2 b3, Option.bind_some, ptext_eq, ht, Option.bind_some, hp, Option.bind_some]
    simp [hl]
    exact hb
end Go.Proofs.YtdhoidhbhkgfgaaDoor.M
