/-
  The texts of timestamps: numerals with leading zeros, what the two packages write, and that they read alike.
-/
import Derived.Test.YtdhoidhbhkgfgaaDoorPPtimeInstants
import Derived.Lib.IndexLaws
import Derived.Lib.IndexBytes
import Derived.Lib.Strings
import Derived.Laws.BitsAllLaws
import Derived.Laws.Bits64
namespace Go.Proofs.YtdhoidhbhkgfgaaDoor.M
open Go.RowKit Go.Proofs.YtdhoidhbhkgfgaaDoorW.PrintWords Go.Proofs.YtdhoidhbhkgfgaaDoorW.PrintLast
set_option linter.unusedVariables false
set_option linter.unusedSimpArgs false

/-- The numeral of u, zeros ahead up to m digits. -/
def pdz (m u : Nat) : List UInt8 := if h : m = 0 ∧ u = 0 then [] else pdz (m - 1) (u / 10) ++ [UInt8.ofNat (48 + u % 10)]
termination_by m + u
decreasing_by omega

theorem pdz_step {m u : Nat} (h : ¬ (m = 0 ∧ u = 0)) : pdz m u = pdz (m - 1) (u / 10) ++ [UInt8.ofNat (48 + u % 10)] := by rw [pdz, dif_neg h]
theorem pdz_nil : pdz 0 0 = [] := by rw [pdz, dif_pos ⟨rfl, rfl⟩]
theorem pdz_zeros : ∀ j, pdz j 0 = List.replicate j 48
  | 0 => pdz_nil
  | j + 1 => by
    rw [pdz_step (by omega), Nat.add_sub_cancel, Nat.zero_div, pdz_zeros j, List.replicate_succ']
    rfl
theorem dec_big {u : Nat} (h : ¬ u < 10) : Lib.decDigits u = Lib.decDigits (u / 10) ++ [UInt8.ofNat (48 + u % 10)] := by rw [Lib.decDigits, dif_neg h]
theorem pdz_eq (u : Nat) : ∀ m, 1 ≤ m ∨ 1 ≤ u → pdz m u = List.replicate (m - Lib.nDigits u) 48 ++ Lib.decDigits u := by
  induction u using Nat.strongRecOn with
  | _ u ih =>
    intro m hm
    rw [pdz_step (by omega)]
    by_cases h : u < 10
    · rw [Nat.div_eq_of_lt h, pdz_zeros, Lib.nDigits_small h, Lib.decDigits_one h, Nat.mod_eq_of_lt h]
    · rw [ih (u / 10) (by omega) (m - 1) (by omega), Lib.nDigits_big h, List.append_assoc, dec_big h]
      rw [show m - (Lib.nDigits (u / 10) + 1) = m - 1 - Lib.nDigits (u / 10) by omega]
theorem nDigits_le : ∀ (k u : Nat), u < 10 ^ (k + 1) → Lib.nDigits u ≤ k + 1
  | 0, u, h => by rw [Lib.nDigits_small (by simpa using h)]; omega
  | k + 1, u, h => by
    by_cases c : u < 10
    · rw [Lib.nDigits_small c]; omega
    · rw [Lib.nDigits_big c]
      have := nDigits_le k (u / 10) (by rw [Nat.pow_succ] at h; omega)
      omega
theorem pdz_length {m u k : Nat} (h : 1 ≤ m ∨ 1 ≤ u) (hu : u < 10 ^ (k + 1)) (hk : m ≤ k + 1) : (pdz m u).length ≤ k + 1 := by
  rw [pdz_eq u m h, List.length_append, List.length_replicate, Lib.decDigits_length]
  have := nDigits_le k u hu
  omega
theorem pdz_nine {u : Nat} (hu : u < 1000000000) : (pdz 9 u).length = 9 := by
  rw [pdz_eq u 9 (.inl (by omega)), List.length_append, List.length_replicate, Lib.decDigits_length]
  have := nDigits_le 8 u hu
  omega
theorem pdz_digits (u : Nat) : ∀ m, ∀ c ∈ pdz m u, 48 ≤ c.toNat ∧ c.toNat ≤ 57 := by
  suffices H : ∀ n m u, m + u = n → ∀ c ∈ pdz m u, 48 ≤ c.toNat ∧ c.toNat ≤ 57 from fun m => H _ m u rfl
  intro n
  induction n using Nat.strongRecOn with
  | _ n ih =>
    intro m u e c hc
    by_cases h : m = 0 ∧ u = 0
    · rw [pdz, dif_pos h] at hc; simp at hc
    · rw [pdz_step h] at hc
      rcases List.mem_append.1 hc with hc | hc
      · exact ih (m - 1 + u / 10) (by omega) _ _ rfl c hc
      · rw [List.mem_singleton] at hc
        subst hc
        simp only [UInt8.toNat_ofNat']
        omega

/-- The text of a timestamp. -/
def textOf (s n : Int) : ByteArray := ⟨(pdz 1 s.toNat ++ 46 :: pdz 9 n.toNat).toArray⟩

theorem bytes_ext {a b : ByteArray} (h : a.data.toList = b.data.toList) : a = b := by
  cases a; cases b
  congr
  exact Array.toList_inj.1 h
theorem size_list (a : ByteArray) : a.size = a.data.toList.length := by rw [Array.length_toList]; rfl

theorem pow17 {D u : Nat} (hd : D ≤ 17) (hu : u < 10 ^ D) : u < 100000000000000000 :=
  Nat.lt_of_lt_of_le hu (Nat.le_trans (Nat.pow_le_pow_right (by decide) hd) (by decide))
theorem pow10_step {D u : Nat} (hu : u < 10 ^ (D + 1)) : u / 10 < 10 ^ D := by rw [Nat.pow_succ] at hu; omega
theorem digit_cell {u : Nat} (h : u < 100000000000000000) : strOfNums [wrap64 (48 + Int.tmod (u : Int) 10) % 256] = ⟨#[UInt8.ofNat (48 + u % 10)]⟩ := by
  have : wrap64 (48 + Int.tmod (u : Int) 10) % 256 = ((48 + u % 10 : Nat) : Int) := by
    rw [Int.tmod_eq_emod_of_nonneg (by omega)]; unfold wrap64; omega
  rw [this]
  show (⟨[UInt8.ofNat ((48 + u % 10 : Nat) : Int).toNat].toArray⟩ : ByteArray) = _
  rw [Int.toNat_natCast]
theorem tenth {u : Nat} (h : u < 100000000000000000) : wrap64 (Int.tdiv (u : Int) 10) = ((u / 10 : Nat) : Int) := by
  rw [Int.tdiv_eq_ediv_of_nonneg (by omega)]; unfold wrap64; omega
/-- The reference's numeral. -/
theorem digits_loop : ∀ (D k : Nat) (u : Nat) (w i : Int) (t : ByteArray), u < 10 ^ D → w - i ≤ D → 0 ≤ i → i + D ≤ 1000 → 0 ≤ w → w ≤ 1000 → D < k → t.size + D ≤ 1000 → D ≤ 17 →
    ∃ s, timesyncref04_digits.l0 k u w t i = some s ∧ s.data.toList = pdz (w - i).toNat u ++ t.data.toList
  | 0, k, u, w, i, t, hu, hw, h0, h1, h2, h3, hk, ht, hd => by
    obtain ⟨k, rfl⟩ : ∃ m, k = m + 1 := ⟨k - 1, by omega⟩
    have hz : u = 0 := by simpa using hu
    subst hz
    simp only [timesyncref04_digits.l0]
    rw [if_neg (by omega), if_neg (by omega)]
    refine ⟨t, rfl, ?_⟩
    rw [show (w - i).toNat = 0 by omega, pdz_nil, List.nil_append]
  | D + 1, k, u, w, i, t, hu, hw, h0, h1, h2, h3, hk, ht, hd => by
    obtain ⟨k, rfl⟩ : ∃ m, k = m + 1 := ⟨k - 1, by omega⟩
    have hu17 := pow17 hd hu
    have hu10 := pow10_step hu
    clear hu
    have e1 := tenth hu17
    have e2 := digit_cell hu17
    have e3 : wrap64 (i + 1) = i + 1 := by unfold wrap64; omega
    have sz : (⟨#[UInt8.ofNat (48 + u % 10)]⟩ : ByteArray).size = 1 := rfl
    have step : ¬ ((w - i).toNat = 0 ∧ u = 0) → ∃ s, timesyncref04_digits.l0 k ((u / 10 : Nat) : Int) w ((⟨#[UInt8.ofNat (48 + u % 10)]⟩ : ByteArray) ++ t) (i + 1) = some s ∧ s.data.toList = pdz (w - i).toNat u ++ t.data.toList := by
      intro hc
      obtain ⟨s, hs, hsd⟩ := digits_loop D k (u / 10) w (i + 1) ((⟨#[UInt8.ofNat (48 + u % 10)]⟩ : ByteArray) ++ t) hu10 (by omega) (by omega) (by omega) h2 h3 (by omega)
        (by rw [ByteArray.size_append, sz]; omega) (by omega)
      refine ⟨s, hs, ?_⟩
      rw [hsd, pdz_step hc, show (w - (i + 1)).toNat = (w - i).toNat - 1 by omega, ByteArray.data_append, Array.toList_append, List.append_assoc]
    simp only [timesyncref04_digits.l0]
    rw [e1]
    by_cases c1 : i < w
    · rw [if_pos c1, Option.bind_some, e2, sz, if_pos (by omega), e3]
      exact step (by omega)
    · rw [if_neg c1]
      by_cases c2 : (u : Int) > 0
      · rw [if_pos c2, Option.bind_some, e2, sz, if_pos (by omega), e3]
        exact step (by omega)
      · rw [if_neg c2]
        refine ⟨t, rfl, ?_⟩
        rw [show (w - i).toNat = 0 by omega, show u = 0 by omega, pdz_nil, List.nil_append]

theorem rdigits_eq (k : Nat) (hk : 16 ≤ k) (s w : Int) (h0 : 0 ≤ s) (h1 : s < 1000000000000000) (hw0 : 0 ≤ w) (hw : w ≤ 15) : ∃ t, timesyncref04_digits.f k s w = some t ∧ t.data.toList = pdz w.toNat s.toNat := by
  obtain ⟨u, rfl⟩ := Int.eq_ofNat_of_zero_le h0
  obtain ⟨t, ht, hd⟩ := digits_loop 15 k u w 0 ⟨#[]⟩ (by omega) (by omega) (by omega) (by omega) hw0 (by omega) (by omega) (by decide) (by omega)
  refine ⟨t, ht, ?_⟩
  rw [hd, Int.sub_zero, Int.toNat_natCast]
  simp

theorem textOf_data (s n : Int) : (textOf s n).data.toList = pdz 1 s.toNat ++ 46 :: pdz 9 n.toNat := by simp [textOf]

/-- What both packages write: nothing for what is no timestamp. -/
def txt (s n : Int) : ByteArray := if timesyncref04_Check.f s n = some 0 then textOf s n else ⟨#[]⟩

theorem rtext_at (k : Nat) (hk : 16 ≤ k) (s n : Int) : timesyncref04_Text.f k s n = some (txt s n) := by
  unfold timesyncref04_Text.f txt
  rcases check_vals s n with h | ⟨h, h0, h1, h2, h3⟩ <;> rw [h]
  · rw [if_neg (by decide)]; rfl
  · rw [Option.bind_some, if_pos rfl, if_pos rfl]
    obtain ⟨t, ht, td⟩ := rdigits_eq k hk s 1 h0 (by omega) (by decide) (by decide)
    obtain ⟨q, hq, qd⟩ := rdigits_eq k hk n 9 h2 (by omega) (by decide) (by decide)
    have l1 : t.size ≤ 15 := by rw [size_list, td]; exact pdz_length (k := 14) (.inl (by decide)) (by omega) (by decide)
    have l2 : q.size ≤ 15 := by rw [size_list, qd]; exact pdz_length (k := 14) (.inl (by decide)) (by omega) (by decide)
    rw [ht, Option.bind_some, if_pos (by omega), hq, Option.bind_some, if_pos (by omega)]
    congr 1
    apply bytes_ext
    rw [textOf_data, ByteArray.data_append, ByteArray.data_append, Array.toList_append, Array.toList_append, td, qd]
    simp

theorem rtext_eq (s n : Int) : timesyncref04_Text.f 20 s n = some (txt s n) := rtext_at 20 (by decide) s n
theorem rtext_19 (s n : Int) : timesyncref04_Text.f 19 s n = some (txt s n) := rtext_at 19 (by decide) s n
theorem itoa_eq (s : Int) (h0 : 0 ≤ s) : Lib.itoa s = Lib.decDigits s.toNat := by unfold Lib.itoa; rw [if_neg (by omega)]

theorem ptext_eq (s n : Int) : ptime_Text.f s n = some (txt s n) := by
  unfold ptime_Text.f txt
  rw [check_eq]
  rcases check_vals s n with h | ⟨h, h0, h1, h2, h3⟩ <;> rw [h]
  · rw [if_neg (by decide)]; rfl
  · rw [Option.bind_some, if_pos rfl, if_pos rfl]
    unfold strconv_Itoa.f strings_Repeat.f
    rw [if_pos ⟨by omega, by omega⟩, if_pos ⟨by omega, by omega⟩, Option.bind_some, Option.bind_some, itoa_eq s h0, itoa_eq n h2]
    have ls : (⟨(Lib.decDigits s.toNat).toArray⟩ : ByteArray).size ≤ 15 := by
      rw [size_list]; simp only [Lib.decDigits_length]; exact nDigits_le 14 _ (by omega)
    have ln : (⟨(Lib.decDigits n.toNat).toArray⟩ : ByteArray).size = Lib.nDigits n.toNat := by
      rw [size_list]; simp only [Lib.decDigits_length]
    have hn := nDigits_le 8 n.toNat (by omega)
    have hw : wrap64 (9 - (Lib.nDigits n.toNat : Int)) = ((9 - Lib.nDigits n.toNat : Nat) : Int) := by unfold wrap64; omega
    have z1 : (⟨#[48]⟩ : ByteArray).size = 1 := rfl
    have e0 : (Lib.repeatL (⟨#[48]⟩ : ByteArray).data.toList (9 - Lib.nDigits n.toNat)) = List.replicate (9 - Lib.nDigits n.toNat) 48 := by
      have := Lib.repeatL_replicate 48 1 (9 - Lib.nDigits n.toNat)
      rw [Nat.mul_one] at this
      exact this
    have lz : (⟨(Lib.repeatL (⟨#[48]⟩ : ByteArray).data.toList (9 - Lib.nDigits n.toNat)).toArray⟩ : ByteArray).size ≤ 9 := by
      rw [size_list]; simp only [e0, List.length_replicate]; omega
    rw [ln, hw, if_pos (by omega), if_pos ⟨by omega, by omega, by rw [z1]; omega⟩, Option.bind_some, Int.toNat_natCast, if_pos (by omega), if_pos (by omega)]
    congr 1
    apply bytes_ext
    rw [textOf_data, ByteArray.data_append, ByteArray.data_append, ByteArray.data_append, Array.toList_append, Array.toList_append, Array.toList_append]
    rw [pdz_eq _ 1 (.inl (by decide)), pdz_eq _ 9 (.inl (by decide)), show 1 - Lib.nDigits s.toNat = 0 by have := Lib.nDigits_pos s.toNat; omega]
    simp [e0]

theorem numFrom_append : ∀ (l m : List UInt8) (n : Int), (∀ c ∈ l, 48 ≤ c.toNat ∧ c.toNat ≤ 57) → numFrom (l ++ m) n = numFrom m (numFrom l n)
  | [], m, n, _ => rfl
  | c :: l, m, n, h => by
    have hc := h c (List.mem_cons_self ..)
    rw [List.cons_append, numFrom, numFrom, if_neg (by omega), if_neg (by omega)]
    exact numFrom_append l m _ (fun x hx => h x (List.mem_cons_of_mem _ hx))
theorem numFrom_pdz (m u : Nat) : numFrom (pdz m u) 0 = u := by
  suffices H : ∀ k m u, m + u = k → numFrom (pdz m u) 0 = u from H _ m u rfl
  intro k
  induction k using Nat.strongRecOn with
  | _ k ih =>
    intro m u e
    by_cases h : m = 0 ∧ u = 0
    · rw [h.1, h.2, pdz_nil]; rfl
    · have hd : (UInt8.ofNat (48 + u % 10)).toNat = 48 + u % 10 := by simp only [UInt8.toNat_ofNat']; omega
      rw [pdz_step h, numFrom_append _ _ _ (pdz_digits _ _), ih (m - 1 + u / 10) (by omega) _ _ rfl, numFrom, numFrom, hd, if_neg (by omega)]
      omega
theorem num_step {n c : Nat} (h : n < 100000000000000000) (h1 : 48 ≤ c) (h2 : c ≤ 57) :
    wrap64 (wrap64 (10 * (n : Int)) + ((c : Int) - 48) % 256) = ((10 * n + (c - 48) : Nat) : Int) ∧ 10 * (n : Int) + ((c : Int) - 48) = ((10 * n + (c - 48) : Nat) : Int) := by
  constructor
  · have e : wrap64 (10 * (n : Int)) = 10 * n := by unfold wrap64; omega
    rw [e]; unfold wrap64; omega
  · omega
theorem num_pow {n i c : Nat} (hn : n < 10 ^ i) (h1 : 48 ≤ c) (h2 : c ≤ 57) : 10 * n + (c - 48) < 10 ^ (i + 1) := by
  rw [Nat.pow_succ]
  generalize 10 ^ i = p at hn ⊢
  omega
theorem idx_step {i : Nat} (h : i ≤ 1000) : wrap64 ((i : Int) + 1) = ((i + 1 : Nat) : Int) := by unfold wrap64; omega
/-- The number that the reference reads. -/
theorem number_loop (a : ByteArray) (ha : a.size ≤ 15) : ∀ (d k i n : Nat), a.size - i = d → i ≤ a.size → n < 10 ^ i → d < k →
    timesyncref04_number.l0 k a n i = some (if numFrom (a.data.toList.drop i) n < 0 then (0, false) else (numFrom (a.data.toList.drop i) n, true))
  | 0, k, i, n, hd, hi, hn, hk => by
    obtain ⟨k, rfl⟩ : ∃ m, k = m + 1 := ⟨k - 1, by omega⟩
    have hl : a.data.toList.drop i = [] := List.drop_eq_nil_of_le (by rw [← size_list]; omega)
    simp only [timesyncref04_number.l0]
    rw [if_neg (by omega), hl, numFrom, if_neg (by omega)]
  | d + 1, k, i, n, hd, hi, hn, hk => by
    obtain ⟨k, rfl⟩ : ∃ m, k = m + 1 := ⟨k - 1, by omega⟩
    have hlt : i < a.data.toList.length := by rw [← size_list]; omega
    have hs : i < a.size := by omega
    have hb : bt a (i : Int) = (a.data.toList[i].toNat : Int) := by
      unfold bt
      rw [dif_pos (by simpa using hs)]
      rfl
    have hn17 := pow17 (show i ≤ 17 by omega) hn
    have hn1 : ∀ c : Nat, 48 ≤ c → c ≤ 57 → 10 * n + (c - 48) < 10 ^ (i + 1) := fun c h1 h2 => num_pow hn h1 h2
    clear hn
    rw [List.drop_eq_getElem_cons hlt]
    simp only [timesyncref04_number.l0]
    rw [if_pos (by omega), if_pos (by omega), hb, numFrom]
    generalize a.data.toList[i].toNat = c at hn1 ⊢
    by_cases c1 : c < 48
    · rw [if_pos (show (c : Int) < 48 by omega), if_pos (show c < 48 ∨ 57 < c from .inl c1)]; rfl
    · rw [if_neg (show ¬ (c : Int) < 48 by omega)]
      by_cases c2 : 57 < c
      · rw [if_pos (show (c : Int) > 57 by omega), if_pos (show c < 48 ∨ 57 < c from .inr c2)]; rfl
      · obtain ⟨e, e'⟩ := num_step hn17 (show 48 ≤ c by omega) (show c ≤ 57 by omega)
        have ei := idx_step (show i ≤ 1000 from Nat.le_trans (Nat.le_of_lt hs) (Nat.le_trans ha (by decide)))
        rw [if_neg (show ¬ (c : Int) > 57 by omega), e, ei, if_neg (show ¬ (c < 48 ∨ 57 < c) by omega), e']
        have hc := hn1 c (by omega) (by omega)
        clear hn1 e e' ei hn17
        exact number_loop a ha d k (i + 1) (10 * n + (c - 48)) (by clear hc; omega) (by clear hc; omega) hc (by clear hc; omega)
theorem nil_iff (a : ByteArray) : a.toList = [] ↔ a.size = 0 := by
  rw [ByteArray.toList_eq, size_list]
  exact List.length_eq_zero_iff.symm
theorem rnumber_19 (a : ByteArray) : timesyncref04_number.f 19 a = some (if a.size = 0 ∨ a.size > 15 ∨ numFrom a.data.toList 0 < 0 then (0, false) else (numFrom a.data.toList 0, true)) := by
  unfold timesyncref04_number.f
  by_cases c : a.toList = []
  · rw [if_pos c, if_pos (.inl ((nil_iff a).1 c))]; rfl
  · have c' : ¬ a.size = 0 := fun h => c ((nil_iff a).2 h)
    rw [if_neg c]
    by_cases c1 : a.size > 15
    · rw [decide_eq_true (by omega), if_pos (.inr (.inl c1))]; rfl
    · rw [decide_eq_false (by omega)]
      simp only [timesyncref04_number.j0]
      have := number_loop a (by omega) a.size 18 0 0 (by omega) (by omega) (by decide) (by omega)
      rw [List.drop_zero] at this
      rw [if_neg (by decide)]
      refine this.trans ?_
      by_cases c2 : numFrom a.data.toList 0 < 0
      · have c2' : numFrom a.data.toList ((0 : Nat) : Int) < 0 := c2
        rw [if_pos c2', if_pos (.inr (.inr c2))]
      · have c2' : ¬ numFrom a.data.toList ((0 : Nat) : Int) < 0 := c2
        rw [if_neg c2', if_neg (by rintro (h | h | h); exact c' h; exact c1 h; exact c2 h)]
        rfl

theorem index_dot : ∀ (l m : List UInt8), (∀ c ∈ l, c ≠ 46) → Lib.indexByte (l ++ 46 :: m) 46 = l.length
  | [], m, _ => by simp [Lib.indexByte]
  | c :: l, m, h => by
    have hc : (c == 46) = false := by simpa using h c (List.mem_cons_self ..)
    rw [List.cons_append, Lib.indexByte, index_dot l m (fun x hx => h x (List.mem_cons_of_mem _ hx)), hc]
    simp
theorem cut_dot (l m : List UInt8) (h : ∀ c ∈ l, c ≠ 46) : Lib.cut (l ++ 46 :: m) [46] = (l, m, true) := by
  unfold Lib.cut
  rw [Lib.index_one, index_dot l m h, if_pos (by omega), Int.toNat_natCast]
  simp

theorem txt_valid {s n : Int} (h : (txt s n).toList ≠ []) : timesyncref04_Check.f s n = some 0 := by
  unfold txt at h
  by_cases c : timesyncref04_Check.f s n = some 0
  · exact c
  · rw [if_neg c] at h
    exact absurd (by rw [ByteArray.toList_eq]) h
theorem toList_inj {a b : ByteArray} (h : a.toList = b.toList) : a = b := by
  rw [ByteArray.toList_eq, ByteArray.toList_eq] at h
  exact bytes_ext h

theorem pparse_some (a : ByteArray) (ha : a.size ≤ 1000) : ptime_Parse.f 20 a = some (0, 0, 19) ∨ ∃ s n, ptime_Parse.f 20 a = some (s, n, 0) ∧ timesyncref04_Check.f s n = some 0 ∧ a = textOf s n := by
  unfold ptime_Parse.f strings_Cut.f
  rw [if_pos (by omega), Option.bind_some]
  generalize Lib.cut a.data.toList (⟨#[46]⟩ : ByteArray).data.toList = r
  obtain ⟨x, y, fd⟩ := r
  cases fd with
  | false => exact .inl rfl
  | true =>
    simp only [if_true]
    by_cases c1 : (((⟨x.toArray⟩ : ByteArray).size : Nat) : Int) > 15
    · rw [if_pos c1]; exact .inl rfl
    · rw [if_neg c1]
      by_cases c2 : (((⟨y.toArray⟩ : ByteArray).size : Nat) : Int) = 9
      · have e : ((((⟨y.toArray⟩ : ByteArray).size : Nat) : Int) != 9) = false := by simp [c2]
        rw [e]
        simp only [ptime_Parse.j0, ptime_number.f]
        rw [if_neg (show ¬ false = true by decide), if_pos (show (⟨x.toArray⟩ : ByteArray).size ≤ 15 by omega), if_pos (show (⟨y.toArray⟩ : ByteArray).size ≤ 15 by omega), Option.bind_some, Option.bind_some, ptext_eq, Option.bind_some]
        by_cases c3 : (txt (numFrom x 0) (numFrom y 0)).toList = []
        · rw [if_pos c3]; exact .inl rfl
        · rw [if_neg c3]
          by_cases c4 : (txt (numFrom x 0) (numFrom y 0)).toList = a.toList
          · rw [if_pos c4]
            have hv := txt_valid c3
            refine .inr ⟨_, _, rfl, hv, ?_⟩
            rw [← toList_inj c4, txt, if_pos hv]
          · rw [if_neg c4]; exact .inl rfl
      · have e : ((((⟨y.toArray⟩ : ByteArray).size : Nat) : Int) != 9) = true := by simpa using c2
        rw [e]; exact .inl rfl

theorem rparse_some (a : ByteArray) (ha : a.size ≤ 1000) : timesyncref04_Parse.f 20 a = some (0, 0, 19) ∨ ∃ s n, timesyncref04_Parse.f 20 a = some (s, n, 0) ∧ timesyncref04_Check.f s n = some 0 ∧ a = textOf s n := by
  unfold timesyncref04_Parse.f
  by_cases c1 : (a.size : Int) < 11
  · rw [if_pos c1]; exact .inl rfl
  · rw [if_neg c1]
    by_cases c2 : (a.size : Int) > 25
    · rw [decide_eq_true c2]; exact .inl rfl
    · rw [decide_eq_false c2]
      have w1 : wrap64 ((a.size : Int) - 10) = (a.size : Int) - 10 := by unfold wrap64; omega
      have w2 : wrap64 ((a.size : Int) - 10 + 1) = (a.size : Int) - 9 := by unfold wrap64; omega
      simp only [timesyncref04_Parse.j0]
      rw [if_neg (show ¬ false = true by decide), w1, w2, if_pos (by omega), if_pos (by omega), rnumber_19, Option.bind_some, if_pos (by omega), if_pos (by omega), rnumber_19, Option.bind_some]
      generalize a.extract 0 ((a.size : Int) - 10).toNat = x
      generalize a.extract ((a.size : Int) - 9).toNat a.size = y
      by_cases c3 : x.size = 0 ∨ x.size > 15 ∨ numFrom x.data.toList 0 < 0
      · rw [if_pos c3]; exact .inl rfl
      · rw [if_neg c3]
        by_cases c4 : y.size = 0 ∨ y.size > 15 ∨ numFrom y.data.toList 0 < 0
        · rw [if_pos c4]; exact .inl rfl
        · rw [if_neg c4]
          simp only [if_true]
          rw [rtext_19, Option.bind_some]
          by_cases c5 : (txt (numFrom x.data.toList 0) (numFrom y.data.toList 0)).toList = a.toList
          · rw [if_pos c5]
            have hv := txt_valid (s := numFrom x.data.toList 0) (n := numFrom y.data.toList 0) (by rw [c5]; intro h; have := (nil_iff a).1 h; omega)
            refine .inr ⟨_, _, rfl, hv, ?_⟩
            rw [← toList_inj c5, txt, if_pos hv]
          · rw [if_neg c5]; exact .inl rfl

/-- What is written is read back. -/
theorem pparse_text (s n : Int) (h : timesyncref04_Check.f s n = some 0) : ptime_Parse.f 20 (textOf s n) = some (s, n, 0) := by
  obtain ⟨h0, h1, h2, h3⟩ : 0 ≤ s ∧ s < 281474976710656 ∧ 0 ≤ n ∧ n < 1000000000 := by
    rcases check_vals s n with h' | ⟨_, h'⟩
    · rw [h'] at h; cases h
    · exact h'
  have l1 : (⟨(pdz 1 s.toNat).toArray⟩ : ByteArray).size ≤ 15 := by rw [size_list]; exact pdz_length (k := 14) (.inl (by decide)) (by omega) (by decide)
  have l2 : (⟨(pdz 9 n.toNat).toArray⟩ : ByteArray).size = 9 := by rw [size_list]; exact pdz_nine (by omega)
  have lt : (textOf s n).size ≤ 1000 := by
    rw [size_list] at l1 l2 ⊢
    rw [textOf_data, List.length_append, List.length_cons]
    simp only at l1 l2
    omega
  unfold ptime_Parse.f strings_Cut.f
  rw [if_pos (by omega), Option.bind_some, textOf_data, show (⟨#[46]⟩ : ByteArray).data.toList = [46] from rfl, cut_dot _ _ (fun c hc e => by have := pdz_digits _ _ c hc; rw [e] at this; exact absurd this.1 (by decide))]
  simp only [if_true]
  have e : ((((⟨(pdz 9 n.toNat).toArray⟩ : ByteArray).size : Nat) : Int) != 9) = false := by rw [l2]; rfl
  rw [if_neg (by omega), e]
  simp only [ptime_Parse.j0, ptime_number.f]
  rw [if_neg (show ¬ false = true by decide), if_pos l1, if_pos (by omega), Option.bind_some, Option.bind_some]
  rw [numFrom_pdz, numFrom_pdz, Int.toNat_of_nonneg h0, Int.toNat_of_nonneg h2, ptext_eq, Option.bind_some]
  have ht : txt s n = textOf s n := by unfold txt; rw [if_pos h]
  rw [ht, if_neg, if_pos rfl]
  rw [nil_iff, size_list, textOf_data, List.length_append, List.length_cons]
  omega

theorem rparse_text (s n : Int) (h : timesyncref04_Check.f s n = some 0) : timesyncref04_Parse.f 20 (textOf s n) = some (s, n, 0) := by
  obtain ⟨h0, h1, h2, h3⟩ : 0 ≤ s ∧ s < 281474976710656 ∧ 0 ≤ n ∧ n < 1000000000 := by
    rcases check_vals s n with h' | ⟨_, h'⟩
    · rw [h'] at h; cases h
    · exact h'
  have l1 : (pdz 1 s.toNat).length ≤ 15 := pdz_length (k := 14) (.inl (by decide)) (by omega) (by decide)
  have l1' : 1 ≤ (pdz 1 s.toNat).length := by rw [pdz_eq _ _ (.inl (by decide)), List.length_append, Lib.decDigits_length]; have := Lib.nDigits_pos s.toNat; omega
  have l2 : (pdz 9 n.toNat).length = 9 := pdz_nine (by omega)
  have lt : (textOf s n).size = (pdz 1 s.toNat).length + 10 := by rw [size_list, textOf_data, List.length_append, List.length_cons, l2]
  have w1 : wrap64 (((textOf s n).size : Int) - 10) = ((textOf s n).size : Int) - 10 := by unfold wrap64; omega
  have w2 : wrap64 (((textOf s n).size : Int) - 10 + 1) = ((textOf s n).size : Int) - 9 := by unfold wrap64; omega
  have x1 : ((textOf s n).extract 0 (((textOf s n).size : Int) - 10).toNat).data.toList = pdz 1 s.toNat := by
    rw [← Lib.toList_data, Lib.extract_toList, textOf_data, show (((textOf s n).size : Int) - 10).toNat - 0 = (pdz 1 s.toNat).length by omega, List.drop_zero, List.take_left]
  have x2 : ((textOf s n).extract (((textOf s n).size : Int) - 9).toNat (textOf s n).size).data.toList = pdz 9 n.toNat := by
    rw [← Lib.toList_data, Lib.extract_toList, textOf_data, show (((textOf s n).size : Int) - 9).toNat = (pdz 1 s.toNat).length + 1 by omega]
    rw [List.drop_append, List.drop_of_length_le (by omega), show (pdz 1 s.toNat).length + 1 - (pdz 1 s.toNat).length = 1 by omega, List.nil_append, List.drop_succ_cons, List.drop_zero]
    exact List.take_of_length_le (by omega)
  unfold timesyncref04_Parse.f
  rw [if_neg (by omega), decide_eq_false (by omega)]
  simp only [timesyncref04_Parse.j0]
  rw [if_neg (show ¬ false = true by decide), w1, w2, if_pos (by omega), if_pos (by omega), rnumber_19, Option.bind_some, if_pos (by omega), if_pos (by omega), rnumber_19, Option.bind_some]
  have z1 : ((textOf s n).extract 0 (((textOf s n).size : Int) - 10).toNat).size = (pdz 1 s.toNat).length := by rw [size_list, x1]
  have z2 : ((textOf s n).extract (((textOf s n).size : Int) - 9).toNat (textOf s n).size).size = 9 := by rw [size_list, x2, l2]
  rw [z1, z2, x1, x2, numFrom_pdz, numFrom_pdz, Int.toNat_of_nonneg h0, Int.toNat_of_nonneg h2]
  have g1 : ¬ ((pdz 1 s.toNat).length = 0 ∨ (pdz 1 s.toNat).length > 15 ∨ s < 0) := by omega
  have g2 : ¬ (9 = 0 ∨ 9 > 15 ∨ n < 0) := by omega
  simp only [if_neg g1, if_neg g2, if_true]
  rw [rtext_19, Option.bind_some]
  have ht : txt s n = textOf s n := by unfold txt; rw [if_pos h]
  rw [ht, if_pos rfl]

theorem parse_eq (a : ByteArray) (ha : a.size ≤ 1000) : ∃ r, ptime_Parse.f 20 a = some r ∧ timesyncref04_Parse.f 20 a = some r := by
  rcases pparse_some a ha with h | ⟨s, n, h, hv, rfl⟩
  · rcases rparse_some a ha with h' | ⟨s, n, h', hv, rfl⟩
    · exact ⟨_, h, h'⟩
    · exact ⟨_, pparse_text s n hv, rparse_text s n hv⟩
  · exact ⟨_, pparse_text s n hv, rparse_text s n hv⟩
theorem pure_PtimeTexts (a0_0 a0_1 : Int) (a1 : ByteArray) (h0 : (Lit.int .i64 a0_0).wf = true) (h1 : (Lit.int .i64 a0_1).wf = true) (h2 : a1.size ≤ 140737488351232) : ∃ k, timesynclaw04_PtimeTexts.f k a0_0 a0_1 a1 = some true := by
  refine ⟨20, ?_⟩
  unfold timesynclaw04_PtimeTexts.f
  rw [ptext_eq, rtext_eq, Option.bind_some, Option.bind_some, if_pos rfl, awake_at 20 (by decide)]
  by_cases c : (a1.size : Int) > 200
  · rw [if_pos c]; rfl
  · rw [if_neg c]
    obtain ⟨r, e1, e2⟩ := parse_eq a1 (by omega)
    rw [e1, e2]
    simp
end Go.Proofs.YtdhoidhbhkgfgaaDoor.M
