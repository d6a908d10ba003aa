/-
  Reading the text of a timestamp: the two packages read alike, and what they write is read back.
-/
import Derived.Test.YtdhoidhbhkgfgaaDoorPt
import Derived.Lib.IndexLaws
import Derived.Lib.IndexBytes
import Derived.Lib.Strings
import Derived.Laws.BitsAllLaws
import Derived.Laws.Bits64
namespace Go.Proofs.YtdhoidhbhkgfgaaDoor.M
open Go.RowKit Go.Proofs.YtdhoidhbhkgfgaaDoorW.PrintWords Go.Proofs.YtdhoidhbhkgfgaaDoorW.PrintLast
set_option linter.unusedVariables false
set_option linter.unusedSimpArgs false

theorem numFrom_append : ∀ (l m : List UInt8) (n : Int), (∀ c ∈ l, 48 ≤ c.toNat ∧ c.toNat ≤ 57) → numFrom (l ++ m) n = numFrom m (numFrom l n)
  | [], m, n, _ => rfl
  | c :: l, m, n, h => by
    have hc := h c (List.mem_cons_self ..)
    rw [List.cons_append, numFrom, numFrom, if_neg (by omega), if_neg (by omega)]
    exact numFrom_append l m _ (fun x hx => h x (List.mem_cons_of_mem _ hx))
theorem numFrom_pdz (m u : Nat) : numFrom (pdz m u) 0 = u := by
  suffices H : ∀ k m u, m + u = k → numFrom (pdz m u) 0 = u from H _ m u rfl
  intro k
  induction k using Nat.strongRecOn with
  | _ k ih =>
    intro m u e
    by_cases h : m = 0 ∧ u = 0
    · rw [h.1, h.2, pdz_nil]; rfl
    · have hd : (UInt8.ofNat (48 + u % 10)).toNat = 48 + u % 10 := by simp only [UInt8.toNat_ofNat']; omega
      rw [pdz_step h, numFrom_append _ _ _ (pdz_digits _ _), ih (m - 1 + u / 10) (by omega) _ _ rfl, numFrom, numFrom, hd, if_neg (by omega)]
      omega
theorem num_step {n c : Nat} (h : n < 100000000000000000) (h1 : 48 ≤ c) (h2 : c ≤ 57) :
    wrap64 (wrap64 (10 * (n : Int)) + ((c : Int) - 48) % 256) = ((10 * n + (c - 48) : Nat) : Int) ∧ 10 * (n : Int) + ((c : Int) - 48) = ((10 * n + (c - 48) : Nat) : Int) := by
  constructor
  · have e : wrap64 (10 * (n : Int)) = 10 * n := by unfold wrap64; omega
    rw [e]; unfold wrap64; omega
  · omega
theorem num_pow {n i c : Nat} (hn : n < 10 ^ i) (h1 : 48 ≤ c) (h2 : c ≤ 57) : 10 * n + (c - 48) < 10 ^ (i + 1) := by
  rw [Nat.pow_succ]
  generalize 10 ^ i = p at hn ⊢
  omega
theorem idx_step {i : Nat} (h : i ≤ 1000) : wrap64 ((i : Int) + 1) = ((i + 1 : Nat) : Int) := by unfold wrap64; omega
/-- The number that the reference reads. -/
theorem number_loop (a : ByteArray) (ha : a.size ≤ 15) : ∀ (d k i n : Nat), a.size - i = d → i ≤ a.size → n < 10 ^ i → d < k →
    timesyncref04_number.l0 k a n i = some (if numFrom (a.data.toList.drop i) n < 0 then (0, false) else (numFrom (a.data.toList.drop i) n, true))
  | 0, k, i, n, hd, hi, hn, hk => by
    obtain ⟨k, rfl⟩ : ∃ m, k = m + 1 := ⟨k - 1, by omega⟩
    have hl : a.data.toList.drop i = [] := List.drop_eq_nil_of_le (by rw [← size_list]; omega)
    simp only [timesyncref04_number.l0]
    rw [if_neg (by omega), hl, numFrom, if_neg (by omega)]
  | d + 1, k, i, n, hd, hi, hn, hk => by
    obtain ⟨k, rfl⟩ : ∃ m, k = m + 1 := ⟨k - 1, by omega⟩
    have hlt : i < a.data.toList.length := by rw [← size_list]; omega
    have hs : i < a.size := by omega
    have hb : bt a (i : Int) = (a.data.toList[i].toNat : Int) := by
      unfold bt
      rw [dif_pos (by simpa using hs)]
      rfl
    have hn17 := pow17 (show i ≤ 17 by omega) hn
    have hn1 : ∀ c : Nat, 48 ≤ c → c ≤ 57 → 10 * n + (c - 48) < 10 ^ (i + 1) := fun c h1 h2 => num_pow hn h1 h2
    clear hn
    rw [List.drop_eq_getElem_cons hlt]
    simp only [timesyncref04_number.l0]
    rw [if_pos (by omega), if_pos (by omega), hb, numFrom]
    generalize a.data.toList[i].toNat = c at hn1 ⊢
    by_cases c1 : c < 48
    · rw [if_pos (show (c : Int) < 48 by omega), if_pos (show c < 48 ∨ 57 < c from .inl c1)]; rfl
    · rw [if_neg (show ¬ (c : Int) < 48 by omega)]
      by_cases c2 : 57 < c
      · rw [if_pos (show (c : Int) > 57 by omega), if_pos (show c < 48 ∨ 57 < c from .inr c2)]; rfl
      · obtain ⟨e, e'⟩ := num_step hn17 (show 48 ≤ c by omega) (show c ≤ 57 by omega)
        have ei := idx_step (show i ≤ 1000 from Nat.le_trans (Nat.le_of_lt hs) (Nat.le_trans ha (by decide)))
        rw [if_neg (show ¬ (c : Int) > 57 by omega), e, ei, if_neg (show ¬ (c < 48 ∨ 57 < c) by omega), e']
        have hc := hn1 c (by omega) (by omega)
        clear hn1 e e' ei hn17
        exact number_loop a ha d k (i + 1) (10 * n + (c - 48)) (by clear hc; omega) (by clear hc; omega) hc (by clear hc; omega)
theorem nil_iff (a : ByteArray) : a.toList = [] ↔ a.size = 0 := by
  rw [ByteArray.toList_eq, size_list]
  exact List.length_eq_zero_iff.symm
theorem rnumber_19 (a : ByteArray) : timesyncref04_number.f 19 a = some (if a.size = 0 ∨ a.size > 15 ∨ numFrom a.data.toList 0 < 0 then (0, false) else (numFrom a.data.toList 0, true)) := by
  unfold timesyncref04_number.f
  by_cases c : a.toList = []
  · rw [if_pos c, if_pos (.inl ((nil_iff a).1 c))]; rfl
  · have c' : ¬ a.size = 0 := fun h => c ((nil_iff a).2 h)
    rw [if_neg c]
    by_cases c1 : a.size > 15
    · rw [decide_eq_true (by omega), if_pos (.inr (.inl c1))]; rfl
    · rw [decide_eq_false (by omega)]
      simp only [timesyncref04_number.j0]
      have := number_loop a (by omega) a.size 18 0 0 (by omega) (by omega) (by decide) (by omega)
      rw [List.drop_zero] at this
      rw [if_neg (by decide)]
      refine this.trans ?_
      by_cases c2 : numFrom a.data.toList 0 < 0
      · have c2' : numFrom a.data.toList ((0 : Nat) : Int) < 0 := c2
        rw [if_pos c2', if_pos (.inr (.inr c2))]
      · have c2' : ¬ numFrom a.data.toList ((0 : Nat) : Int) < 0 := c2
        rw [if_neg c2', if_neg (by rintro (h | h | h); exact c' h; exact c1 h; exact c2 h)]
        rfl

theorem index_dot : ∀ (l m : List UInt8), (∀ c ∈ l, c ≠ 46) → Lib.indexByte (l ++ 46 :: m) 46 = l.length
  | [], m, _ => by simp [Lib.indexByte]
  | c :: l, m, h => by
    have hc : (c == 46) = false := by simpa using h c (List.mem_cons_self ..)
    rw [List.cons_append, Lib.indexByte, index_dot l m (fun x hx => h x (List.mem_cons_of_mem _ hx)), hc]
    simp
theorem cut_dot (l m : List UInt8) (h : ∀ c ∈ l, c ≠ 46) : Lib.cut (l ++ 46 :: m) [46] = (l, m, true) := by
  unfold Lib.cut
  rw [Lib.index_one, index_dot l m h, if_pos (by omega), Int.toNat_natCast]
  simp

theorem txt_valid {s n : Int} (h : (txt s n).toList ≠ []) : timesyncref04_Check.f s n = some 0 := by
  unfold txt at h
  by_cases c : timesyncref04_Check.f s n = some 0
  · exact c
  · rw [if_neg c] at h
    exact absurd (by rw [ByteArray.toList_eq]) h
theorem toList_inj {a b : ByteArray} (h : a.toList = b.toList) : a = b := by
  rw [ByteArray.toList_eq, ByteArray.toList_eq] at h
  exact bytes_ext h

theorem pparse_some (a : ByteArray) (ha : a.size ≤ 1000) : ptime_Parse.f 20 a = some (0, 0, 19) ∨ ∃ s n, ptime_Parse.f 20 a = some (s, n, 0) ∧ timesyncref04_Check.f s n = some 0 ∧ a = textOf s n := by
  unfold ptime_Parse.f strings_Cut.f
  rw [if_pos (by omega), Option.bind_some]
  generalize Lib.cut a.data.toList (⟨#[46]⟩ : ByteArray).data.toList = r
  obtain ⟨x, y, fd⟩ := r
  cases fd with
  | false => exact .inl rfl
  | true =>
    simp only [if_true]
    by_cases c1 : (((⟨x.toArray⟩ : ByteArray).size : Nat) : Int) > 15
    · rw [if_pos c1]; exact .inl rfl
    · rw [if_neg c1]
      by_cases c2 : (((⟨y.toArray⟩ : ByteArray).size : Nat) : Int) = 9
      · have e : ((((⟨y.toArray⟩ : ByteArray).size : Nat) : Int) != 9) = false := by simp [c2]
        rw [e]
        simp only [ptime_Parse.j0, ptime_number.f]
        rw [if_neg (show ¬ false = true by decide), if_pos (show (⟨x.toArray⟩ : ByteArray).size ≤ 15 by omega), if_pos (show (⟨y.toArray⟩ : ByteArray).size ≤ 15 by omega), Option.bind_some, Option.bind_some, ptext_eq, Option.bind_some]
        by_cases c3 : (txt (numFrom x 0) (numFrom y 0)).toList = []
        · rw [if_pos c3]; exact .inl rfl
        · rw [if_neg c3]
          by_cases c4 : (txt (numFrom x 0) (numFrom y 0)).toList = a.toList
          · rw [if_pos c4]
            have hv := txt_valid c3
            refine .inr ⟨_, _, rfl, hv, ?_⟩
            rw [← toList_inj c4, txt, if_pos hv]
          · rw [if_neg c4]; exact .inl rfl
      · have e : ((((⟨y.toArray⟩ : ByteArray).size : Nat) : Int) != 9) = true := by simpa using c2
        rw [e]; exact .inl rfl

theorem rparse_some (a : ByteArray) (ha : a.size ≤ 1000) : timesyncref04_Parse.f 20 a = some (0, 0, 19) ∨ ∃ s n, timesyncref04_Parse.f 20 a = some (s, n, 0) ∧ timesyncref04_Check.f s n = some 0 ∧ a = textOf s n := by
  unfold timesyncref04_Parse.f
  by_cases c1 : (a.size : Int) < 11
  · rw [if_pos c1]; exact .inl rfl
  · rw [if_neg c1]
    by_cases c2 : (a.size : Int) > 25
    · rw [decide_eq_true c2]; exact .inl rfl
    · rw [decide_eq_false c2]
      have w1 : wrap64 ((a.size : Int) - 10) = (a.size : Int) - 10 := by unfold wrap64; omega
      have w2 : wrap64 ((a.size : Int) - 10 + 1) = (a.size : Int) - 9 := by unfold wrap64; omega
      simp only [timesyncref04_Parse.j0]
      rw [if_neg (show ¬ false = true by decide), w1, w2, if_pos (by omega), if_pos (by omega), rnumber_19, Option.bind_some, if_pos (by omega), if_pos (by omega), rnumber_19, Option.bind_some]
      generalize a.extract 0 ((a.size : Int) - 10).toNat = x
      generalize a.extract ((a.size : Int) - 9).toNat a.size = y
      by_cases c3 : x.size = 0 ∨ x.size > 15 ∨ numFrom x.data.toList 0 < 0
      · rw [if_pos c3]; exact .inl rfl
      · rw [if_neg c3]
        by_cases c4 : y.size = 0 ∨ y.size > 15 ∨ numFrom y.data.toList 0 < 0
        · rw [if_pos c4]; exact .inl rfl
        · rw [if_neg c4]
          simp only [if_true]
          rw [rtext_19, Option.bind_some]
          by_cases c5 : (txt (numFrom x.data.toList 0) (numFrom y.data.toList 0)).toList = a.toList
          · rw [if_pos c5]
            have hv := txt_valid (s := numFrom x.data.toList 0) (n := numFrom y.data.toList 0) (by rw [c5]; intro h; have := (nil_iff a).1 h; omega)
            refine .inr ⟨_, _, rfl, hv, ?_⟩
            rw [← toList_inj c5, txt, if_pos hv]
          · rw [if_neg c5]; exact .inl rfl

/-- What is written is read back. -/
theorem pparse_text (s n : Int) (h : timesyncref04_Check.f s n = some 0) : ptime_Parse.f 20 (textOf s n) = some (s, n, 0) := by
  obtain ⟨h0, h1, h2, h3⟩ : 0 ≤ s ∧ s < 281474976710656 ∧ 0 ≤ n ∧ n < 1000000000 := by
    rcases check_vals s n with h' | ⟨_, h'⟩
    · rw [h'] at h; cases h
    · exact h'
  have l1 : (⟨(pdz 1 s.toNat).toArray⟩ : ByteArray).size ≤ 15 := by rw [size_list]; exact pdz_length (k := 14) (.inl (by decide)) (by omega) (by decide)
  have l2 : (⟨(pdz 9 n.toNat).toArray⟩ : ByteArray).size = 9 := by rw [size_list]; exact pdz_nine (by omega)
  have lt : (textOf s n).size ≤ 1000 := by
    rw [size_list] at l1 l2 ⊢
    rw [textOf_data, List.length_append, List.length_cons]
    simp only at l1 l2
    omega
  unfold ptime_Parse.f strings_Cut.f
  rw [if_pos (by omega), Option.bind_some, textOf_data, show (⟨#[46]⟩ : ByteArray).data.toList = [46] from rfl, cut_dot _ _ (fun c hc e => by have := pdz_digits _ _ c hc; rw [e] at this; exact absurd this.1 (by decide))]
  simp only [if_true]
  have e : ((((⟨(pdz 9 n.toNat).toArray⟩ : ByteArray).size : Nat) : Int) != 9) = false := by rw [l2]; rfl
  rw [if_neg (by omega), e]
  simp only [ptime_Parse.j0, ptime_number.f]
  rw [if_neg (show ¬ false = true by decide), if_pos l1, if_pos (by omega), Option.bind_some, Option.bind_some]
  rw [numFrom_pdz, numFrom_pdz, Int.toNat_of_nonneg h0, Int.toNat_of_nonneg h2, ptext_eq, Option.bind_some]
  have ht : txt s n = textOf s n := by unfold txt; rw [if_pos h]
  rw [ht, if_neg, if_pos rfl]
  rw [nil_iff, size_list, textOf_data, List.length_append, List.length_cons]
  omega

theorem rparse_text (s n : Int) (h : timesyncref04_Check.f s n = some 0) : timesyncref04_Parse.f 20 (textOf s n) = some (s, n, 0) := by
  obtain ⟨h0, h1, h2, h3⟩ : 0 ≤ s ∧ s < 281474976710656 ∧ 0 ≤ n ∧ n < 1000000000 := by
    rcases check_vals s n with h' | ⟨_, h'⟩
    · rw [h'] at h; cases h
    · exact h'
  have l1 : (pdz 1 s.toNat).length ≤ 15 := pdz_length (k := 14) (.inl (by decide)) (by omega) (by decide)
  have l1' : 1 ≤ (pdz 1 s.toNat).length := by rw [pdz_eq _ _ (.inl (by decide)), List.length_append, Lib.decDigits_length]; have := Lib.nDigits_pos s.toNat; omega
  have l2 : (pdz 9 n.toNat).length = 9 := pdz_nine (by omega)
  have lt : (textOf s n).size = (pdz 1 s.toNat).length + 10 := by rw [size_list, textOf_data, List.length_append, List.length_cons, l2]
  have w1 : wrap64 (((textOf s n).size : Int) - 10) = ((textOf s n).size : Int) - 10 := by unfold wrap64; omega
  have w2 : wrap64 (((textOf s n).size : Int) - 10 + 1) = ((textOf s n).size : Int) - 9 := by unfold wrap64; omega
  have x1 : ((textOf s n).extract 0 (((textOf s n).size : Int) - 10).toNat).data.toList = pdz 1 s.toNat := by
    rw [← Lib.toList_data, Lib.extract_toList, textOf_data, show (((textOf s n).size : Int) - 10).toNat - 0 = (pdz 1 s.toNat).length by omega, List.drop_zero, List.take_left]
  have x2 : ((textOf s n).extract (((textOf s n).size : Int) - 9).toNat (textOf s n).size).data.toList = pdz 9 n.toNat := by
    rw [← Lib.toList_data, Lib.extract_toList, textOf_data, show (((textOf s n).size : Int) - 9).toNat = (pdz 1 s.toNat).length + 1 by omega]
    rw [List.drop_append, List.drop_of_length_le (by omega), show (pdz 1 s.toNat).length + 1 - (pdz 1 s.toNat).length = 1 by omega, List.nil_append, List.drop_succ_cons, List.drop_zero]
    exact List.take_of_length_le (by omega)
  unfold timesyncref04_Parse.f
  rw [if_neg (by omega), decide_eq_false (by omega)]
  simp only [timesyncref04_Parse.j0]
  rw [if_neg (show ¬ false = true by decide), w1, w2, if_pos (by omega), if_pos (by omega), rnumber_19, Option.bind_some, if_pos (by omega), if_pos (by omega), rnumber_19, Option.bind_some]
  have z1 : ((textOf s n).extract 0 (((textOf s n).size : Int) - 10).toNat).size = (pdz 1 s.toNat).length := by rw [size_list, x1]
  have z2 : ((textOf s n).extract (((textOf s n).size : Int) - 9).toNat (textOf s n).size).size = 9 := by rw [size_list, x2, l2]
  rw [z1, z2, x1, x2, numFrom_pdz, numFrom_pdz, Int.toNat_of_nonneg h0, Int.toNat_of_nonneg h2]
  have g1 : ¬ ((pdz 1 s.toNat).length = 0 ∨ (pdz 1 s.toNat).length > 15 ∨ s < 0) := by omega
  have g2 : ¬ (9 = 0 ∨ 9 > 15 ∨ n < 0) := by omega
  simp only [if_neg g1, if_neg g2, if_true]
  rw [rtext_19, Option.bind_some]
  have ht : txt s n = textOf s n := by unfold txt; rw [if_pos h]
  rw [ht, if_pos rfl]

theorem parse_eq (a : ByteArray) (ha : a.size ≤ 1000) : ∃ r, ptime_Parse.f 20 a = some r ∧ timesyncref04_Parse.f 20 a = some r := by
  rcases pparse_some a ha with h | ⟨s, n, h, hv, rfl⟩
  · rcases rparse_some a ha with h' | ⟨s, n, h', hv, rfl⟩
    · exact ⟨_, h, h'⟩
    · exact ⟨_, pparse_text s n hv, rparse_text s n hv⟩
  · exact ⟨_, pparse_text s n hv, rparse_text s n hv⟩
end Go.Proofs.YtdhoidhbhkgfgaaDoor.M
