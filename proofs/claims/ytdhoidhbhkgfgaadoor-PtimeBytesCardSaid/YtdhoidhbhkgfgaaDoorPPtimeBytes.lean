/-
  The ten bytes of a timestamp: the two packages write and read them alike.
-/
import Derived.Test.YtdhoidhbhkgfgaaDoorPPtimeInstants
import Derived.Laws.BitsAllLaws
import Derived.Laws.Bits64
namespace Go.Proofs.YtdhoidhbhkgfgaaDoor.M
open Go.RowKit Go.Proofs.YtdhoidhbhkgfgaaDoorW.PrintWords Go.Proofs.YtdhoidhbhkgfgaaDoorW.PrintLast
set_option linter.unusedVariables false
set_option linter.unusedSimpArgs false
theorem fits_eq (k : Int) (a n : Int) (h0 : 0 ≤ a) (hn : 1 ≤ n ∧ n < 8) (h : a < 2 ^ (8 * n).toNat) : timesyncref02_fits.f a n = some true := by
  unfold timesyncref02_fits.f
  have w : wrap64 (8 * n) = 8 * n := by unfold wrap64; omega
  rw [if_neg (by omega), w, if_pos (by omega)]
  unfold shr
  rw [show min (8 * n).toNat IntKind.u64.bits = (8 * n).toNat from Nat.min_eq_left (by simp [IntKind.bits]; omega), Int.ediv_eq_zero_of_lt h0 h]
  rfl
theorem rapp6 (a : Int) (h0 : 0 ≤ a) (h1 : a < 281474976710656) : timesyncref02_Append.f 20 [] a 6 = some (bytes6 a, 0) := by
  unfold timesyncref02_Append.f
  rw [if_neg (by decide), decide_eq_false (by decide)]
  simp only [timesyncref02_Append.j0]
  rw [fits_eq 0 a 6 h0 (by decide) h1]
  simp [timesyncref02_Append.l0, wrap64, shr, bytes6, IntKind.bits]
  omega
theorem rapp4 (l : List Int) (hl : l.length = 6) (a : Int) (h0 : 0 ≤ a) (h1 : a < 4294967296) : timesyncref02_Append.f 20 l a 4 = some (l ++ bytes4 a, 0) := by
  unfold timesyncref02_Append.f
  rw [if_neg (by decide), decide_eq_false (by decide)]
  simp only [timesyncref02_Append.j0]
  rw [fits_eq 0 a 4 h0 (by decide) h1]
  simp [timesyncref02_Append.l0, wrap64, shr, bytes4, IntKind.bits, hl]
  omega
theorem encode_eq (s n : Int) : ∃ l e, ptime_Encode.f s n = some (l, e) ∧ timesyncref04_Encode.f 20 s n = some (l, e) := by
  unfold ptime_Encode.f timesyncref04_Encode.f
  rw [check_eq]
  rcases check_vals s n with h | ⟨h, h0, h1, h2, h3⟩ <;> rw [h]
  · exact ⟨_, _, rfl, rfl⟩
  · simp only [Option.bind_some, if_true, IntKind.wrap_u64]
    rw [show s % 18446744073709551616 = s from by omega, show n % 18446744073709551616 = n from by omega]
    rw [rapp6 s h0 h1, Option.bind_some, rapp4 (bytes6 s) rfl n h2 (by omega)]
    unfold wire_Append.f
    rw [if_pos ⟨rfl, rfl, h0, h1⟩, Option.bind_some, if_neg (by simp), if_pos ⟨rfl, rfl, h2, by omega⟩]
    exact ⟨_, _, rfl, rfl⟩
theorem get_byte (x c : Int) (h0 : 0 ≤ x) (h1 : x < 72057594037927936) (hc : 0 ≤ c ∧ c < 256) : Go.bits .or .u64 (IntKind.u64.wrap (x * 256)) (IntKind.u64.wrap c) = x * 256 + c := by
  rw [IntKind.wrap_u64, IntKind.wrap_u64, show x * 256 % 18446744073709551616 = x * 256 from by omega, show c % 18446744073709551616 = c from by omega]
  rw [u64_or _ _ (by omega) (by omega) (by omega) (by omega), nat_join 8 _ _ (by omega) (by omega)]
  omega
theorem get6 (b0 b1 b2 b3 b4 b5 b6 b7 b8 b9 : Int) (h : ∀ x ∈ [b0, b1, b2, b3, b4, b5, b6, b7, b8, b9], 0 ≤ x ∧ x < 256) :
    timesyncref02_Get.f 20 [b0, b1, b2, b3, b4, b5, b6, b7, b8, b9] 0 6 = some (num6 [b0, b1, b2, b3, b4, b5, b6, b7, b8, b9], 0) := by
  simp only [List.mem_cons, List.not_mem_nil, or_false, forall_eq_or_imp, forall_eq] at h
  unfold timesyncref02_Get.f
  rw [if_neg (by decide), decide_eq_false (by decide)]
  simp [timesyncref02_Get.j0, timesyncref02_Get.j1, timesyncref02_Get.l0, wrap64, rd, num6]
  have e : IntKind.u64.wrap b0 = 0 * 256 + b0 := by rw [IntKind.wrap_u64]; omega
  have z : Go.bits .or .u64 (IntKind.u64.wrap 0) (IntKind.u64.wrap b0) = 0 * 256 + b0 := get_byte 0 b0 (by omega) (by omega) (by omega)
  rw [z, get_byte _ b1 (by omega) (by omega) (by omega), get_byte _ b2 (by omega) (by omega) (by omega), get_byte _ b3 (by omega) (by omega) (by omega),
    get_byte _ b4 (by omega) (by omega) (by omega), get_byte _ b5 (by omega) (by omega) (by omega)]
  omega
theorem get4 (b0 b1 b2 b3 b4 b5 b6 b7 b8 b9 : Int) (h : ∀ x ∈ [b0, b1, b2, b3, b4, b5, b6, b7, b8, b9], 0 ≤ x ∧ x < 256) :
    timesyncref02_Get.f 20 [b0, b1, b2, b3, b4, b5, b6, b7, b8, b9] 6 4 = some (num4 [b0, b1, b2, b3, b4, b5, b6, b7, b8, b9], 0) := by
  simp only [List.mem_cons, List.not_mem_nil, or_false, forall_eq_or_imp, forall_eq] at h
  unfold timesyncref02_Get.f
  rw [if_neg (by decide), decide_eq_false (by decide)]
  simp [timesyncref02_Get.j0, timesyncref02_Get.j1, timesyncref02_Get.l0, wrap64, rd, num4]
  have z : Go.bits .or .u64 (IntKind.u64.wrap 0) (IntKind.u64.wrap b6) = 0 * 256 + b6 := get_byte 0 b6 (by omega) (by omega) (by omega)
  rw [z, get_byte _ b7 (by omega) (by omega) (by omega), get_byte _ b8 (by omega) (by omega) (by omega), get_byte _ b9 (by omega) (by omega) (by omega)]
  omega
theorem ten_of {l : List Int} (h : l.length = 10) : ∃ b0 b1 b2 b3 b4 b5 b6 b7 b8 b9, l = [b0, b1, b2, b3, b4, b5, b6, b7, b8, b9] := by
  match l, h with
  | [b0, b1, b2, b3, b4, b5, b6, b7, b8, b9], _ => exact ⟨b0, b1, b2, b3, b4, b5, b6, b7, b8, b9, rfl⟩
theorem num6_bound (l : List Int) (h : ∀ x ∈ l, 0 ≤ x ∧ x < 256) : 0 ≤ num6 l ∧ num6 l < 281474976710656 := by
  have g : ∀ i, 0 ≤ l.getD i 0 ∧ l.getD i 0 < 256 := by
    intro i
    by_cases c : i < l.length
    · have e : l.getD i 0 = l[i] := by simp [List.getD, c]
      rw [e]; exact h _ (List.getElem_mem c)
    · have e : l.getD i 0 = 0 := by simp [List.getD, List.getElem?_eq_none (Nat.le_of_not_lt c)]
      omega
  unfold num6
  have := g 0; have := g 1; have := g 2; have := g 3; have := g 4; have := g 5
  omega
theorem num4_bound (l : List Int) (h : ∀ x ∈ l, 0 ≤ x ∧ x < 256) : 0 ≤ num4 l ∧ num4 l < 4294967296 := by
  have g : ∀ i, 0 ≤ l.getD i 0 ∧ l.getD i 0 < 256 := by
    intro i
    by_cases c : i < l.length
    · have e : l.getD i 0 = l[i] := by simp [List.getD, c]
      rw [e]; exact h _ (List.getElem_mem c)
    · have e : l.getD i 0 = 0 := by simp [List.getD, List.getElem?_eq_none (Nat.le_of_not_lt c)]
      omega
  unfold num4
  have := g 6; have := g 7; have := g 8; have := g 9
  omega
theorem decode_eq (l : List Int) (h : ∀ x ∈ l, 0 ≤ x ∧ x < 256) : ∃ r, ptime_Decode.f l = some r ∧ timesyncref04_Decode.f 20 l = some r := by
  unfold ptime_Decode.f timesyncref04_Decode.f
  by_cases c : l.length < 10
  · rw [if_pos c, if_pos (by omega)]; exact ⟨_, rfl, rfl⟩
  · rw [if_neg c, if_neg (by omega : ¬ (l.length : Int) < 10)]
    by_cases c1 : 10 < l.length
    · rw [if_pos c1, if_pos (by omega : (l.length : Int) > 10)]; exact ⟨_, rfl, rfl⟩
    · rw [if_neg c1, if_neg (by omega : ¬ (l.length : Int) > 10), if_pos h]
      have n6 := num6_bound l h
      have n4 := num4_bound l h
      obtain ⟨b0, b1, b2, b3, b4, b5, b6, b7, b8, b9, e⟩ := ten_of (show l.length = 10 by omega)
      have g6 := get6 b0 b1 b2 b3 b4 b5 b6 b7 b8 b9 (e ▸ h)
      have g4 := get4 b0 b1 b2 b3 b4 b5 b6 b7 b8 b9 (e ▸ h)
      rw [← e] at g6 g4
      rw [g6, Option.bind_some, g4, Option.bind_some]
      simp only
      have w6 : wrap64 (num6 l) = num6 l := by unfold wrap64; omega
      have w4 : wrap64 (num4 l) = num4 l := by unfold wrap64; omega
      rw [w6, w4]
      unfold timesyncref04_Check.f
      rw [if_neg (by omega : ¬ num6 l < 0), if_neg (by omega : ¬ num6 l ≥ 281474976710656), if_neg (by omega : ¬ num4 l < 0)]
      by_cases c2 : num4 l ≥ 1000000000
      · rw [if_pos c2, if_pos c2, Option.bind_some, if_neg (by decide)]; exact ⟨_, rfl, rfl⟩
      · rw [if_neg c2, if_neg c2, Option.bind_some, if_pos rfl]; exact ⟨_, rfl, rfl⟩
theorem wf8 {a : Int} (h : (Lit.int .u8 a).wf = true) : 0 ≤ a ∧ a < 256 := by
  simp [Lit.wf, IntKind.min, IntKind.max, IntKind.bits, IntKind.signed] at h
  omega
theorem pure_PtimeBytes (a0_0 a0_1 : Int) (l1 : List Int) (h0 : (Lit.int .i64 a0_0).wf = true) (h1 : (Lit.int .i64 a0_1).wf = true) (h2 : ∀ x ∈ l1, (Lit.int .u8 x).wf = true) : ∃ k, timesynclaw04_PtimeBytes.f k a0_0 a0_1 l1 = some true := by
  refine ⟨20, ?_⟩
  obtain ⟨l, e, e1, e2⟩ := encode_eq a0_0 a0_1
  obtain ⟨r, e3, e4⟩ := decode_eq l1 (fun x hx => wf8 (h2 x hx))
  unfold timesynclaw04_PtimeBytes.f bytes_Equal.f
  rw [e1, e2, e3, e4, awake_at 20 (by decide)]
  simp
end Go.Proofs.YtdhoidhbhkgfgaaDoor.M
