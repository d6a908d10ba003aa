/-
  Numerals with leading zeros, and the text of a timestamp: what the two packages write.
-/
import Derived.Test.YtdhoidhbhkgfgaaDoorPPtimeBytes
import Derived.Laws.BitsAllLaws
import Derived.Laws.Bits64
namespace Go.Proofs.YtdhoidhbhkgfgaaDoor.M
open Go.RowKit Go.Proofs.YtdhoidhbhkgfgaaDoorW.PrintWords Go.Proofs.YtdhoidhbhkgfgaaDoorW.PrintLast
set_option linter.unusedVariables false
set_option linter.unusedSimpArgs false

/-- The numeral of u, zeros ahead up to m digits. -/
def pdz (m u : Nat) : List UInt8 := if h : m = 0 ∧ u = 0 then [] else pdz (m - 1) (u / 10) ++ [UInt8.ofNat (48 + u % 10)]
termination_by m + u
decreasing_by omega

theorem pdz_step {m u : Nat} (h : ¬ (m = 0 ∧ u = 0)) : pdz m u = pdz (m - 1) (u / 10) ++ [UInt8.ofNat (48 + u % 10)] := by rw [pdz, dif_neg h]
theorem pdz_nil : pdz 0 0 = [] := by rw [pdz, dif_pos ⟨rfl, rfl⟩]
theorem pdz_zeros : ∀ j, pdz j 0 = List.replicate j 48
  | 0 => pdz_nil
  | j + 1 => by
    rw [pdz_step (by omega), Nat.add_sub_cancel, Nat.zero_div, pdz_zeros j, List.replicate_succ']
    rfl
theorem dec_big {u : Nat} (h : ¬ u < 10) : Lib.decDigits u = Lib.decDigits (u / 10) ++ [UInt8.ofNat (48 + u % 10)] := by rw [Lib.decDigits, dif_neg h]
theorem pdz_eq (u : Nat) : ∀ m, 1 ≤ m ∨ 1 ≤ u → pdz m u = List.replicate (m - Lib.nDigits u) 48 ++ Lib.decDigits u := by
  induction u using Nat.strongRecOn with
  | _ u ih =>
    intro m hm
    rw [pdz_step (by omega)]
    by_cases h : u < 10
    · rw [Nat.div_eq_of_lt h, pdz_zeros, Lib.nDigits_small h, Lib.decDigits_one h, Nat.mod_eq_of_lt h]
    · rw [ih (u / 10) (by omega) (m - 1) (by omega), Lib.nDigits_big h, List.append_assoc, dec_big h]
      rw [show m - (Lib.nDigits (u / 10) + 1) = m - 1 - Lib.nDigits (u / 10) by omega]
theorem nDigits_le : ∀ (k u : Nat), u < 10 ^ (k + 1) → Lib.nDigits u ≤ k + 1
  | 0, u, h => by rw [Lib.nDigits_small (by simpa using h)]; omega
  | k + 1, u, h => by
    by_cases c : u < 10
    · rw [Lib.nDigits_small c]; omega
    · rw [Lib.nDigits_big c]
      have := nDigits_le k (u / 10) (by rw [Nat.pow_succ] at h; omega)
      omega
theorem pdz_length {m u k : Nat} (h : 1 ≤ m ∨ 1 ≤ u) (hu : u < 10 ^ (k + 1)) (hk : m ≤ k + 1) : (pdz m u).length ≤ k + 1 := by
  rw [pdz_eq u m h, List.length_append, List.length_replicate, Lib.decDigits_length]
  have := nDigits_le k u hu
  omega
theorem pdz_nine {u : Nat} (hu : u < 1000000000) : (pdz 9 u).length = 9 := by
  rw [pdz_eq u 9 (.inl (by omega)), List.length_append, List.length_replicate, Lib.decDigits_length]
  have := nDigits_le 8 u hu
  omega
theorem pdz_digits (u : Nat) : ∀ m, ∀ c ∈ pdz m u, 48 ≤ c.toNat ∧ c.toNat ≤ 57 := by
  suffices H : ∀ n m u, m + u = n → ∀ c ∈ pdz m u, 48 ≤ c.toNat ∧ c.toNat ≤ 57 from fun m => H _ m u rfl
  intro n
  induction n using Nat.strongRecOn with
  | _ n ih =>
    intro m u e c hc
    by_cases h : m = 0 ∧ u = 0
    · rw [pdz, dif_pos h] at hc; simp at hc
    · rw [pdz_step h] at hc
      rcases List.mem_append.1 hc with hc | hc
      · exact ih (m - 1 + u / 10) (by omega) _ _ rfl c hc
      · rw [List.mem_singleton] at hc
        subst hc
        simp only [UInt8.toNat_ofNat']
        omega

/-- The text of a timestamp. -/
def textOf (s n : Int) : ByteArray := ⟨(pdz 1 s.toNat ++ 46 :: pdz 9 n.toNat).toArray⟩

theorem bytes_ext {a b : ByteArray} (h : a.data.toList = b.data.toList) : a = b := by
  cases a; cases b
  congr
  exact Array.toList_inj.1 h
theorem size_list (a : ByteArray) : a.size = a.data.toList.length := by rw [Array.length_toList]; rfl

theorem pow17 {D u : Nat} (hd : D ≤ 17) (hu : u < 10 ^ D) : u < 100000000000000000 :=
  Nat.lt_of_lt_of_le hu (Nat.le_trans (Nat.pow_le_pow_right (by decide) hd) (by decide))
theorem pow10_step {D u : Nat} (hu : u < 10 ^ (D + 1)) : u / 10 < 10 ^ D := by rw [Nat.pow_succ] at hu; omega
theorem digit_cell {u : Nat} (h : u < 100000000000000000) : strOfNums [wrap64 (48 + Int.tmod (u : Int) 10) % 256] = ⟨#[UInt8.ofNat (48 + u % 10)]⟩ := by
  have : wrap64 (48 + Int.tmod (u : Int) 10) % 256 = ((48 + u % 10 : Nat) : Int) := by
    rw [Int.tmod_eq_emod_of_nonneg (by omega)]; unfold wrap64; omega
  rw [this]
  show (⟨[UInt8.ofNat ((48 + u % 10 : Nat) : Int).toNat].toArray⟩ : ByteArray) = _
  rw [Int.toNat_natCast]
theorem tenth {u : Nat} (h : u < 100000000000000000) : wrap64 (Int.tdiv (u : Int) 10) = ((u / 10 : Nat) : Int) := by
  rw [Int.tdiv_eq_ediv_of_nonneg (by omega)]; unfold wrap64; omega
/-- The reference's numeral. -/
theorem digits_loop : ∀ (D k : Nat) (u : Nat) (w i : Int) (t : ByteArray), u < 10 ^ D → w - i ≤ D → 0 ≤ i → i + D ≤ 1000 → 0 ≤ w → w ≤ 1000 → D < k → t.size + D ≤ 1000 → D ≤ 17 →
    ∃ s, timesyncref04_digits.l0 k u w t i = some s ∧ s.data.toList = pdz (w - i).toNat u ++ t.data.toList
  | 0, k, u, w, i, t, hu, hw, h0, h1, h2, h3, hk, ht, hd => by
    obtain ⟨k, rfl⟩ : ∃ m, k = m + 1 := ⟨k - 1, by omega⟩
    have hz : u = 0 := by simpa using hu
    subst hz
    simp only [timesyncref04_digits.l0]
    rw [if_neg (by omega), if_neg (by omega)]
    refine ⟨t, rfl, ?_⟩
    rw [show (w - i).toNat = 0 by omega, pdz_nil, List.nil_append]
  | D + 1, k, u, w, i, t, hu, hw, h0, h1, h2, h3, hk, ht, hd => by
    obtain ⟨k, rfl⟩ : ∃ m, k = m + 1 := ⟨k - 1, by omega⟩
    have hu17 := pow17 hd hu
    have hu10 := pow10_step hu
    clear hu
    have e1 := tenth hu17
    have e2 := digit_cell hu17
    have e3 : wrap64 (i + 1) = i + 1 := by unfold wrap64; omega
    have sz : (⟨#[UInt8.ofNat (48 + u % 10)]⟩ : ByteArray).size = 1 := rfl
    have step : ¬ ((w - i).toNat = 0 ∧ u = 0) → ∃ s, timesyncref04_digits.l0 k ((u / 10 : Nat) : Int) w ((⟨#[UInt8.ofNat (48 + u % 10)]⟩ : ByteArray) ++ t) (i + 1) = some s ∧ s.data.toList = pdz (w - i).toNat u ++ t.data.toList := by
      intro hc
      obtain ⟨s, hs, hsd⟩ := digits_loop D k (u / 10) w (i + 1) ((⟨#[UInt8.ofNat (48 + u % 10)]⟩ : ByteArray) ++ t) hu10 (by omega) (by omega) (by omega) h2 h3 (by omega)
        (by rw [ByteArray.size_append, sz]; omega) (by omega)
      refine ⟨s, hs, ?_⟩
      rw [hsd, pdz_step hc, show (w - (i + 1)).toNat = (w - i).toNat - 1 by omega, ByteArray.data_append, Array.toList_append, List.append_assoc]
    simp only [timesyncref04_digits.l0]
    rw [e1]
    by_cases c1 : i < w
    · rw [if_pos c1, Option.bind_some, e2, sz, if_pos (by omega), e3]
      exact step (by omega)
    · rw [if_neg c1]
      by_cases c2 : (u : Int) > 0
      · rw [if_pos c2, Option.bind_some, e2, sz, if_pos (by omega), e3]
        exact step (by omega)
      · rw [if_neg c2]
        refine ⟨t, rfl, ?_⟩
        rw [show (w - i).toNat = 0 by omega, show u = 0 by omega, pdz_nil, List.nil_append]

theorem rdigits_eq (k : Nat) (hk : 16 ≤ k) (s w : Int) (h0 : 0 ≤ s) (h1 : s < 1000000000000000) (hw0 : 0 ≤ w) (hw : w ≤ 15) : ∃ t, timesyncref04_digits.f k s w = some t ∧ t.data.toList = pdz w.toNat s.toNat := by
  obtain ⟨u, rfl⟩ := Int.eq_ofNat_of_zero_le h0
  obtain ⟨t, ht, hd⟩ := digits_loop 15 k u w 0 ⟨#[]⟩ (by omega) (by omega) (by omega) (by omega) hw0 (by omega) (by omega) (by decide) (by omega)
  refine ⟨t, ht, ?_⟩
  rw [hd, Int.sub_zero, Int.toNat_natCast]
  simp

theorem textOf_data (s n : Int) : (textOf s n).data.toList = pdz 1 s.toNat ++ 46 :: pdz 9 n.toNat := by simp [textOf]

/-- What both packages write: nothing for what is no timestamp. -/
def txt (s n : Int) : ByteArray := if timesyncref04_Check.f s n = some 0 then textOf s n else ⟨#[]⟩

theorem rtext_at (k : Nat) (hk : 16 ≤ k) (s n : Int) : timesyncref04_Text.f k s n = some (txt s n) := by
  unfold timesyncref04_Text.f txt
  rcases check_vals s n with h | ⟨h, h0, h1, h2, h3⟩ <;> rw [h]
  · rw [if_neg (by decide)]; rfl
  · rw [Option.bind_some, if_pos rfl, if_pos rfl]
    obtain ⟨t, ht, td⟩ := rdigits_eq k hk s 1 h0 (by omega) (by decide) (by decide)
    obtain ⟨q, hq, qd⟩ := rdigits_eq k hk n 9 h2 (by omega) (by decide) (by decide)
    have l1 : t.size ≤ 15 := by rw [size_list, td]; exact pdz_length (k := 14) (.inl (by decide)) (by omega) (by decide)
    have l2 : q.size ≤ 15 := by rw [size_list, qd]; exact pdz_length (k := 14) (.inl (by decide)) (by omega) (by decide)
    rw [ht, Option.bind_some, if_pos (by omega), hq, Option.bind_some, if_pos (by omega)]
    congr 1
    apply bytes_ext
    rw [textOf_data, ByteArray.data_append, ByteArray.data_append, Array.toList_append, Array.toList_append, td, qd]
    simp

theorem rtext_eq (s n : Int) : timesyncref04_Text.f 20 s n = some (txt s n) := rtext_at 20 (by decide) s n
theorem rtext_19 (s n : Int) : timesyncref04_Text.f 19 s n = some (txt s n) := rtext_at 19 (by decide) s n
theorem itoa_eq (s : Int) (h0 : 0 ≤ s) : Lib.itoa s = Lib.decDigits s.toNat := by unfold Lib.itoa; rw [if_neg (by omega)]

theorem ptext_eq (s n : Int) : ptime_Text.f s n = some (txt s n) := by
  unfold ptime_Text.f txt
  rw [check_eq]
  rcases check_vals s n with h | ⟨h, h0, h1, h2, h3⟩ <;> rw [h]
  · rw [if_neg (by decide)]; rfl
  · rw [Option.bind_some, if_pos rfl, if_pos rfl]
    unfold strconv_Itoa.f strings_Repeat.f
    rw [if_pos ⟨by omega, by omega⟩, if_pos ⟨by omega, by omega⟩, Option.bind_some, Option.bind_some, itoa_eq s h0, itoa_eq n h2]
    have ls : (⟨(Lib.decDigits s.toNat).toArray⟩ : ByteArray).size ≤ 15 := by
      rw [size_list]; simp only [Lib.decDigits_length]; exact nDigits_le 14 _ (by omega)
    have ln : (⟨(Lib.decDigits n.toNat).toArray⟩ : ByteArray).size = Lib.nDigits n.toNat := by
      rw [size_list]; simp only [Lib.decDigits_length]
    have hn := nDigits_le 8 n.toNat (by omega)
    have hw : wrap64 (9 - (Lib.nDigits n.toNat : Int)) = ((9 - Lib.nDigits n.toNat : Nat) : Int) := by unfold wrap64; omega
    have z1 : (⟨#[48]⟩ : ByteArray).size = 1 := rfl
    have e0 : (Lib.repeatL (⟨#[48]⟩ : ByteArray).data.toList (9 - Lib.nDigits n.toNat)) = List.replicate (9 - Lib.nDigits n.toNat) 48 := by
      have := Lib.repeatL_replicate 48 1 (9 - Lib.nDigits n.toNat)
      rw [Nat.mul_one] at this
      exact this
    have lz : (⟨(Lib.repeatL (⟨#[48]⟩ : ByteArray).data.toList (9 - Lib.nDigits n.toNat)).toArray⟩ : ByteArray).size ≤ 9 := by
      rw [size_list]; simp only [e0, List.length_replicate]; omega
    rw [ln, hw, if_pos (by omega), if_pos ⟨by omega, by omega, by rw [z1]; omega⟩, Option.bind_some, Int.toNat_natCast, if_pos (by omega), if_pos (by omega)]
    congr 1
    apply bytes_ext
    rw [textOf_data, ByteArray.data_append, ByteArray.data_append, ByteArray.data_append, Array.toList_append, Array.toList_append, Array.toList_append]
    rw [pdz_eq _ 1 (.inl (by decide)), pdz_eq _ 9 (.inl (by decide)), show 1 - Lib.nDigits s.toNat = 0 by have := Lib.nDigits_pos s.toNat; omega]
    simp [e0]
end Go.Proofs.YtdhoidhbhkgfgaaDoor.M
