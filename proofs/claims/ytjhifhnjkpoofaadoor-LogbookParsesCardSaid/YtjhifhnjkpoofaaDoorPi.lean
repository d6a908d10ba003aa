/-
  The reference's number and words, plain: a word is a number just where it is written as Itoa writes it; the words between the blanks.
-/
import Derived.Test.YtjhifhnjkpoofaaDoorPf
namespace Go.Proofs.YtjhifhnjkpoofaaDoor.M
open Go.RowKit Go.Proofs.YtjhifhnjkpoofaaDoorG Go.Proofs.YtjhifhnjkpoofaaDoorW.PrintWords Go.Proofs.YtjhifhnjkpoofaaDoorW.PrintLast Go.Proofs.YtjhifhnjkpoofaaDoorW.PrintMore
set_option linter.unusedVariables false
set_option linter.unusedSimpArgs false
theorem parse_snoc2 (d : Nat) (hd : d < 10) : ∀ (l : List UInt8) (acc m : Nat), Lib.parseUint10 acc l = .ok m → m * 10 + d < 18446744073709551616 → Lib.parseUint10 acc (l ++ [UInt8.ofNat (48 + d)]) = .ok (m * 10 + d)
  | [], acc, m, h, hm => by
    simp only [Lib.parseUint10] at h
    injection h with h
    subst h
    simp only [List.nil_append, Lib.parseUint10, digit_nat d hd]
    rw [if_pos (by omega), if_neg (by omega), if_neg (by omega)]
    congr 1
    omega
  | c :: l, acc, m, h, hm => by
    simp only [List.cons_append, Lib.parseUint10] at h ⊢
    split at h
    · rename_i h1
      rw [if_pos h1]
      split at h
      · cases h
      · rename_i h2
        rw [if_neg h2]
        split at h
        · cases h
        · rename_i h3
          rw [if_neg h3]
          exact parse_snoc2 d hd l _ m h hm
    · cases h
theorem parse_dec2 : ∀ (u : Nat), u < 18446744073709551616 → Lib.parseUint10 0 (Lib.decDigits u) = .ok u := by
  intro u
  induction u using Nat.strongRecOn with
  | _ u ih =>
    intro hu
    by_cases h : u < 10
    · rw [Lib.decDigits_one h]
      have := parse_snoc2 u h [] 0 0 rfl (by omega)
      simpa using this
    · rw [dec_big h, parse_snoc2 (u % 10) (Nat.mod_lt _ (by decide)) _ 0 (u / 10) (ih (u / 10) (by omega) (by omega)) (by omega)]
      congr 1
      omega
theorem atoi_itoa2 (n : Int) (h0 : -9223372036854775808 ≤ n) (h1 : n ≤ 9223372036854775807) : Lib.atoiAll (Lib.itoa n) = .ok n := by
  unfold Lib.itoa
  split
  · rename_i h
    unfold Lib.atoiAll
    have hp : Lib.parseMag (Lib.decDigits n.natAbs) = .ok n.natAbs := by
      unfold Lib.parseMag
      rw [if_neg (dec_ne _), parse_dec2 _ (by omega)]
    have e : (45 : UInt8).toNat = 45 := rfl
    simp only [e, or_true, if_true, hp]
    rw [if_neg (by simp), if_neg (by omega)]
    congr 1
    omega
  · rename_i h
    have hp : Lib.parseMag (Lib.decDigits n.toNat) = .ok n.toNat := by
      unfold Lib.parseMag
      rw [if_neg (dec_ne _), parse_dec2 _ (by omega)]
    cases hd : Lib.decDigits n.toNat with
    | nil => exact absurd hd (dec_ne _)
    | cons c r =>
      have hc := dec_chars n.toNat c (by rw [hd]; exact List.mem_cons_self)
      unfold Lib.atoiAll
      have e1 : ¬ (c.toNat = 43) := by omega
      have e2 : ¬ (c.toNat = 45) := by omega
      rw [hd] at hp
      simp only [e1, or_false, if_false, e2]
      rw [hp]
      simp only [not_false_eq_true, true_and, false_and, if_false]
      rw [if_neg (by omega)]
      congr 1
      omega
theorem atoi_rng {l : List UInt8} {v : Int} (h : Lib.atoiAll l = .ok v) : -9223372036854775808 ≤ v ∧ v ≤ 9223372036854775807 := by
  cases l with
  | nil => cases h
  | cons c r =>
    simp only [Lib.atoiAll] at h
    generalize Lib.parseMag (if c.toNat = 43 ∨ c.toNat = 45 then r else c :: r) = q at h
    rcases q with u | _ | _
    · simp only at h
      by_cases e : c.toNat = 45
      · simp only [e, not_true_eq_false, false_and, if_false, true_and, if_true] at h
        split at h
        · cases h
        · injection h with h; omega
      · simp only [e, not_false_eq_true, true_and, false_and, if_false] at h
        split at h
        · cases h
        · injection h with h; omega
    · cases h
    · cases h
/-- A word is the number v. -/
theorem canon_iff (s : ByteArray) (v : Int) : canon s = some v ↔ s.data.toList = Lib.itoa v ∧ -9223372036854775808 ≤ v ∧ v ≤ 9223372036854775807 := by
  constructor
  · intro h
    refine ⟨canon_some h, ?_⟩
    unfold canon at h
    split at h
    · rename_i w hw
      split at h
      · injection h with h
        rw [← h]
        exact atoi_rng hw
      · cases h
    · cases h
  · rintro ⟨h1, h2, h3⟩
    unfold canon
    rw [h1, atoi_itoa2 v h2 h3]
    simp
/-! the digits' value -/
def decVal : Nat → List UInt8 → Nat
  | acc, [] => acc
  | acc, c :: l => decVal (10 * acc + (c.toNat - 48)) l
theorem decVal_snoc (c : UInt8) : ∀ (l : List UInt8) (acc : Nat), decVal acc (l ++ [c]) = 10 * decVal acc l + (c.toNat - 48)
  | [], acc => rfl
  | b :: l, acc => decVal_snoc c l (10 * acc + (b.toNat - 48))
theorem decVal_dec : ∀ (u : Nat), decVal 0 (Lib.decDigits u) = u := by
  intro u
  induction u using Nat.strongRecOn with
  | _ u ih =>
    by_cases h : u < 10
    · rw [Lib.decDigits_one h]
      show 10 * 0 + ((UInt8.ofNat (48 + u)).toNat - 48) = u
      rw [digit_nat u h]; omega
    · rw [dec_big h, decVal_snoc, ih (u / 10) (by omega), digit_nat _ (Nat.mod_lt _ (by decide))]; omega
theorem decVal_lt : ∀ (l : List UInt8), (∀ c ∈ l, 48 ≤ c.toNat ∧ c.toNat ≤ 57) → l.length ≤ 19 → decVal 0 l < 10000000000000000000 := by
  have key : ∀ (n : Nat) (l : List UInt8), l.length = n → (∀ c ∈ l, 48 ≤ c.toNat ∧ c.toNat ≤ 57) → decVal 0 l < 10 ^ n := by
    intro n
    induction n with
    | zero => intro l hl _; rw [List.length_eq_zero_iff.1 hl]; decide
    | succ n ih =>
      intro l hl hc
      have hne : l ≠ [] := by rintro rfl; simp at hl
      have e := List.dropLast_concat_getLast hne
      have h1 := ih l.dropLast (by rw [List.length_dropLast, hl]; rfl) (fun c h => hc c (List.dropLast_subset _ h))
      have h2 := hc _ (List.getLast_mem hne)
      rw [← e, decVal_snoc, Nat.pow_succ]
      generalize 10 ^ n = p at *
      omega
  intro l hc hl
  have h := key l.length l rfl hc
  exact Nat.lt_of_lt_of_le h (Nat.le_trans (Nat.pow_le_pow_right (by decide) hl) (by decide))
theorem nDigits_le19 (u : Nat) (h : u ≤ 9223372036854775808) : Lib.nDigits u ≤ 19 := by
  by_cases c : u < 10000000000000000000
  · by_cases d : u < 1000000000000000000
    · have key : ∀ (k u : Nat), u < 10 ^ (k + 1) → Lib.nDigits u ≤ k + 1 := by
        intro k
        induction k with
        | zero => intro u hu; rw [Lib.nDigits_small (by simpa using hu)]; decide
        | succ k ih =>
          intro u hu
          by_cases h : u < 10
          · rw [Lib.nDigits_small h]; omega
          · rw [Lib.nDigits_big h]
            have := ih (u / 10) (by rw [Nat.pow_succ] at hu; generalize 10 ^ (k + 1) = p at *; omega)
            omega
      have := key 17 u (Nat.lt_of_lt_of_le d (by decide))
      omega
    · have := Lib.nDigits_unique 18 u (Nat.le_trans (by decide) (Nat.not_lt.1 d)) (Nat.lt_of_lt_of_le c (by decide))
      omega
  · omega
theorem sizeL (a : ByteArray) : a.data.toList.length = a.size := by
  show a.data.toList.length = a.data.size
  simp
def digitB (c : UInt8) : Bool := decide (48 ≤ c.toNat) && decide (c.toNat ≤ 57)
/-- What the reference's number answers behind the sign. -/
def numD (s : List UInt8) (neg : Bool) (D : List UInt8) : Int × Bool :=
  if D.all digitB = false then (0, false)
  else if decVal 0 D > 9223372036854775808 ∨ (decVal 0 D = 9223372036854775808 ∧ neg = false) then (0, false)
  else ((if neg = true then -(decVal 0 D : Int) else decVal 0 D), s == Lib.itoa (if neg = true then -(decVal 0 D : Int) else decVal 0 D))
theorem bt_get (d : ByteArray) (i : Nat) (h : i < d.data.toList.length) : bt d (i : Int) = ((d.data.toList[i]).toNat : Int) := by
  have h2 : (i : Int).toNat < d.size := by rw [Int.toNat_natCast, ← sizeL]; exact h
  rw [← bt_at d (i : Int) h2]
  rfl
theorem digit_of (c : UInt8) : digitB c = true ↔ 48 ≤ c.toNat ∧ c.toNat ≤ 57 := by
  unfold digitB; simp
theorem num_j3 (k : Nat) (hk : 30 ≤ k) (s : ByteArray) (neg : Bool) (m : Nat) (hm : m ≤ 9223372036854775808) (hn : m = 9223372036854775808 → neg = true) :
    timesyncref50_number.j3 k s neg (m : Int) false = some ((if neg = true then -(m : Int) else m), s.data.toList == Lib.itoa (if neg = true then -(m : Int) else m)) := by
  obtain ⟨k, rfl⟩ : ∃ q, k = q + 1 := ⟨k - 1, by omega⟩
  simp only [timesyncref50_number.j3]
  rw [if_neg (by decide)]
  cases neg with
  | true =>
    simp only [if_true]
    by_cases c : (m : Int) > 0
    · have e : wrap64 ((wrap64 (-(wrap64 (IntKind.u64.wrap ((m : Int) - 1))))) - 1) = -(m : Int) := by
        rw [IntKind.wrap_u64]; unfold wrap64; omega
      rw [if_pos c, e, decimal_eq k (by omega) _ (by omega) (by omega), Option.bind_some, ByteArray.toList_eq, ByteArray.toList_eq]
    · have e : wrap64 (m : Int) = -(m : Int) := by unfold wrap64; omega
      rw [if_neg c, e, decimal_eq k (by omega) _ (by omega) (by omega), Option.bind_some, ByteArray.toList_eq, ByteArray.toList_eq]
  | false =>
    have hlt : m < 9223372036854775808 := by
      rcases Nat.lt_or_ge m 9223372036854775808 with h | h
      · exact h
      · have := hn (by omega); cases this
    simp only [Bool.false_eq_true, if_false]
    have e : wrap64 (m : Int) = (m : Int) := by unfold wrap64; omega
    rw [e, decimal_eq k (by omega) _ (by omega) (by omega), Option.bind_some, ByteArray.toList_eq, ByteArray.toList_eq]
theorem num_end (k : Nat) (hk : 31 ≤ k) (s d : ByteArray) (neg : Bool) (m : Nat) (i : Int) (hi : ¬ i < (d.size : Int)) (hm : m = decVal 0 d.data.toList) (hd : d.data.toList.all digitB = true) :
    timesyncref50_number.l0 k s neg d (m : Int) i = some (numD s.data.toList neg d.data.toList) := by
  obtain ⟨k, rfl⟩ : ∃ q, k = q + 1 := ⟨k - 1, by omega⟩
  simp only [timesyncref50_number.l0]
  unfold numD
  rw [if_neg hi, ← hm, hd, if_neg (show ¬ (true = false) by decide)]
  by_cases c : (m : Int) > 9223372036854775808
  · obtain ⟨k, rfl⟩ : ∃ q, k = q + 1 := ⟨k - 1, by omega⟩
    rw [if_pos c, if_pos (.inl (by omega))]
    simp only [timesyncref50_number.j3]
    rfl
  · rw [if_neg c]
    by_cases e : (m : Int) = 9223372036854775808
    · rw [if_pos e]
      cases neg with
      | false =>
        obtain ⟨k, rfl⟩ : ∃ q, k = q + 1 := ⟨k - 1, by omega⟩
        rw [if_pos (.inr ⟨by omega, rfl⟩)]
        simp only [timesyncref50_number.j3]
        rfl
      | true =>
        rw [if_neg (by simp; omega)]
        exact num_j3 k (by omega) s true m (by omega) (fun _ => rfl)
    · rw [if_neg e, if_neg (by omega)]
      exact num_j3 k (by omega) s neg m (by omega) (fun h => by omega)
theorem num_loop (s d : ByteArray) (neg : Bool) (D : List UInt8) (hD : d.data.toList = D) (hl : D.length ≤ 19) : ∀ (j k i m : Nat), i + j = D.length → j + 40 ≤ k → m = decVal 0 (D.take i) → (D.take i).all digitB = true →
    timesyncref50_number.l0 k s neg d (m : Int) (i : Int) = some (numD s.data.toList neg D)
  | 0, k, i, m, hj, hk, hm, hd => by
    have hsz := sizeL d
    have ht : D.take i = D := List.take_of_length_le (by omega)
    rw [ht] at hm hd
    rw [hD] at hsz
    have := num_end k (by omega) s d neg m i (by omega) (by rw [hD]; exact hm) (by rw [hD]; exact hd)
    rw [hD] at this
    exact this
  | j + 1, k, i, m, hj, hk, hm, hd => by
    have hsz := sizeL d
    rw [hD] at hsz
    obtain ⟨k, rfl⟩ : ∃ q, k = q + 1 := ⟨k - 1, by omega⟩
    have hi : i < D.length := by omega
    have hb : bt d (i : Int) = ((D[i]).toNat : Int) := by
      subst hD
      exact bt_get d i hi
    have hts : D.take (i + 1) = D.take i ++ [D[i]] := List.take_succ_eq_append_getElem hi
    have hm10 : m < 10000000000000000000 := by
      rw [hm]
      exact decVal_lt _ (fun c hc => (digit_of c).1 (List.all_eq_true.1 hd c hc)) (by rw [List.length_take]; omega)
    have hmem : D[i] ∈ D := List.getElem_mem hi
    generalize D[i] = c0 at hb hts hmem
    simp only [timesyncref50_number.l0]
    rw [if_pos (by omega), if_pos (by omega), hb]
    by_cases c1 : digitB c0 = true
    · have hc := (digit_of _).1 c1
      have hd2 : (D.take (i + 1)).all digitB = true := by
        rw [hts, List.all_append, hd]
        simp only [List.all_cons, List.all_nil, c1, Bool.and_true]
      have hm2 : decVal 0 (D.take (i + 1)) = 10 * m + (c0.toNat - 48) := by rw [hts, decVal_snoc, ← hm]
      have hlt := decVal_lt _ (fun c hc => (digit_of c).1 (List.all_eq_true.1 hd2 c hc)) (by rw [List.length_take]; omega)
      rw [hm2] at hlt
      generalize c0.toNat = b at *
      have ew : IntKind.u64.wrap ((IntKind.u64.wrap (10 * (m : Int))) + (((b : Int) - 48) % 256)) = ((10 * m + (b - 48) : Nat) : Int) := by
        rw [IntKind.wrap_u64, IntKind.wrap_u64]; omega
      have ei : wrap64 ((i : Int) + 1) = ((i + 1 : Nat) : Int) := by unfold wrap64; omega
      rw [if_neg (by omega), if_neg (by omega), ew, ei]
      clear hlt hm10 ew ei hb hts hmem hd
      have g1 : i + 1 + j = D.length := by omega
      have g2 : j + 40 ≤ k := by omega
      exact num_loop s d neg D hD hl j k (i + 1) (10 * m + (b - 48)) g1 g2 hm2.symm hd2
    · have hc : ¬ (48 ≤ c0.toNat ∧ c0.toNat ≤ 57) := fun h => c1 ((digit_of _).2 h)
      have hall : D.all digitB = false := by
        rw [List.all_eq_false]
        exact ⟨_, hmem, c1⟩
      unfold numD
      rw [if_pos hall]
      generalize c0.toNat = b at *
      by_cases c2 : (b : Int) < 48
      · rw [if_pos c2]
      · rw [if_neg c2, if_pos (by omega)]
/-- A word that is written as a number is its own sign and digits. -/
theorem numD_canon (s : ByteArray) (neg : Bool) (D : List UInt8) (hs : s.data.toList = if neg = true then 45 :: D else D) (hneg : neg = false → ∀ c r, D = c :: r → c.toNat ≠ 45) :
    canon s = if (numD s.data.toList neg D).2 = true then some (numD s.data.toList neg D).1 else none := by
  have hit : ∀ v : Int, s.data.toList = Lib.itoa v → D = (if neg = true then Lib.decDigits v.natAbs else Lib.decDigits v.toNat) ∧ (neg = true ↔ v < 0) := by
    intro v hv
    rw [hs] at hv
    unfold Lib.itoa at hv
    by_cases c : v < 0
    · rw [if_pos c] at hv
      cases neg with
      | true => simp only [if_true] at hv ⊢; injection hv with _ hv; exact ⟨hv, by simp [c]⟩
      | false =>
        simp only [Bool.false_eq_true, if_false] at hv
        exact absurd rfl (hneg rfl 45 _ hv)
    · rw [if_neg c] at hv
      cases neg with
      | false => simp only [Bool.false_eq_true, if_false] at hv ⊢; exact ⟨hv, by simp [c]⟩
      | true =>
        simp only [if_true] at hv
        have h := dec_chars v.toNat 45 (by rw [← hv]; exact List.mem_cons_self)
        exact absurd h.1 (by decide)
  have hno : ∀ {b : Bool} {x : Int}, b = false → (∀ v : Int, -9223372036854775808 ≤ v → v ≤ 9223372036854775807 → s.data.toList ≠ Lib.itoa v) → canon s = if b = true then some x else none := by
    intro b x hb h
    rw [hb]
    cases hc : canon s with
    | none => rfl
    | some v =>
      have := (canon_iff s v).1 hc
      exact absurd this.1 (h v this.2.1 this.2.2)
  unfold numD
  by_cases c1 : D.all digitB = false
  · rw [if_pos c1]
    refine hno rfl (fun v h0 h1 e => ?_)
    have := (hit v e).1
    rw [List.all_eq_false] at c1
    obtain ⟨c, hc, hcd⟩ := c1
    rw [this] at hc
    apply hcd
    rw [digit_of]
    split at hc
    · exact dec_chars _ c hc
    · exact dec_chars _ c hc
  · rw [if_neg c1]
    by_cases c2 : decVal 0 D > 9223372036854775808 ∨ (decVal 0 D = 9223372036854775808 ∧ neg = false)
    · rw [if_pos c2]
      refine hno rfl (fun v h0 h1 e => ?_)
      obtain ⟨h2, h3⟩ := hit v e
      cases neg with
      | true =>
        simp only [if_true] at h2
        rw [h2, decVal_dec] at c2
        simp only [Bool.true_eq_false, and_false, or_false] at c2
        omega
      | false =>
        simp only [Bool.false_eq_true, if_false] at h2
        rw [h2, decVal_dec] at c2
        omega
    · rw [if_neg c2]
      simp only
      cases hb : (s.data.toList == Lib.itoa (if neg = true then -(decVal 0 D : Int) else decVal 0 D)) with
      | true =>
        rw [if_pos rfl]
        have he := beq_iff_eq.1 hb
        refine (canon_iff s _).2 ⟨he, ?_, ?_⟩
        · cases neg <;> simp only [Bool.false_eq_true, if_true, if_false] <;> omega
        · cases neg with
          | true => simp only [if_true]; omega
          | false =>
            simp only [Bool.false_eq_true, if_false]
            simp only [and_true, not_or] at c2
            omega
      | false =>
        refine hno rfl (fun v h0 h1 e => ?_)
        obtain ⟨h2, h3⟩ := hit v e
        have hv : (if neg = true then -(decVal 0 D : Int) else decVal 0 D) = v := by
          cases neg with
          | true =>
            simp only [if_true] at h2 ⊢
            have : v < 0 := h3.1 rfl
            rw [h2, decVal_dec]; omega
          | false =>
            simp only [Bool.false_eq_true, if_false] at h2 ⊢
            have : ¬ v < 0 := fun h => by have := h3.2 h; cases this
            rw [h2, decVal_dec]; omega
        rw [hv, e] at hb
        simp at hb
/-- The reference's number: whether a word is one. -/
theorem number_eq (k : Nat) (hk : 70 ≤ k) (s : ByteArray) (hs : s.size ≤ 100000) : ∃ v b, timesyncref50_number.f k s = some (v, b) ∧ canon s = if b = true then some v else none := by
  have hj : ∀ (neg : Bool) (d : ByteArray), (s.data.toList = if neg = true then 45 :: d.data.toList else d.data.toList) → (neg = false → ∀ c r, d.data.toList = c :: r → c.toNat ≠ 45) → ∀ k, 60 ≤ k →
      ∃ v b, timesyncref50_number.j1 k s neg d = some (v, b) ∧ canon s = if b = true then some v else none := by
    intro neg d h1 h2 k hk
    obtain ⟨k, rfl⟩ : ∃ q, k = q + 1 := ⟨k - 1, by omega⟩
    simp only [timesyncref50_number.j1]
    have hsz := sizeL d
    by_cases c : (d.size : Int) > 19
    · refine ⟨0, false, by rw [if_pos c], ?_⟩
      cases hc : canon s with
      | none => rfl
      | some v =>
        obtain ⟨e, h3, h4⟩ := (canon_iff s v).1 hc
        rw [h1] at e
        unfold Lib.itoa at e
        have hl := congrArg List.length e
        have n1 := nDigits_le19 v.natAbs (by omega)
        have n2 := nDigits_le19 v.toNat (by omega)
        rw [← Lib.decDigits_length] at n1 n2
        cases neg with
        | true =>
          simp only [if_true, List.length_cons] at hl
          split at hl
          · rw [List.length_cons] at hl; omega
          · omega
        | false =>
          simp only [Bool.false_eq_true, if_false] at hl e
          split at hl
          · rename_i hv
            rw [if_pos hv] at e
            exact absurd rfl (h2 rfl 45 _ e)
          · omega
    · rw [if_neg c]
      have hloop := num_loop s d neg d.data.toList rfl (by omega) d.data.toList.length k 0 0 (by omega) (by omega) rfl rfl
      exact ⟨_, _, hloop, numD_canon s neg d.data.toList h1 h2⟩
  have hsz := sizeL s
  obtain ⟨k, rfl⟩ : ∃ q, k = q + 1 := ⟨k - 1, by omega⟩
  unfold timesyncref50_number.f
  rw [ByteArray.toList_eq]
  cases hd : s.data.toList with
  | nil =>
    rw [if_pos rfl]
    simp only [timesyncref50_number.j0]
    rw [if_neg (by decide)]
    exact hj false s (by rw [hd]; rfl) (fun _ c r h => by rw [hd] at h; cases h) k (by omega)
  | cons c r =>
    rw [hd] at hsz
    simp only [List.length_cons] at hsz
    have hb : bt s 0 = (c.toNat : Int) := by
      have := bt_get s 0 (by rw [hd]; simp)
      rw [show ((0 : Nat) : Int) = 0 from rfl] at this
      rw [this]
      simp [hd]
    rw [if_neg (by simp), if_pos (by omega), hb]
    simp only [timesyncref50_number.j0]
    by_cases hc : c.toNat = 45
    · have hcc : c = 45 := UInt8.toNat_inj.1 hc
      have hex : (s.extract 1 s.size).data.toList = r := by
        rw [Lib.extract_data, hd]
        simp only [List.take_succ_cons, List.drop_succ_cons, List.drop_zero, ← hsz]
        exact List.take_of_length_le (Nat.le_refl _)
      rw [if_pos (by simp [hc]), if_pos (by omega)]
      rw [show ((c.toNat : Int) == 45) = true by simp [hc]]
      refine hj true (s.extract 1 s.size) ?_ (fun h => by cases h) k (by omega)
      rw [hex, hd, hcc]; rfl
    · rw [if_neg (by simp; omega)]
      rw [show ((c.toNat : Int) == 45) = false by simp; omega]
      exact hj false s (by rw [hd]; rfl) (fun _ c' r' h => by rw [hd] at h; injection h with h _; rw [← h]; exact hc) k (by omega)
theorem mk_eq {b : ByteArray} {l : List UInt8} (h : b.data.toList = l) : b = ⟨l.toArray⟩ := by
  apply ByteArray.ext
  exact Array.toList_inj.1 (by simpa using h)
theorem words_loop (a : ByteArray) (ha : a.size ≤ 1000000) : ∀ (j k i f : Nat) (l : List ByteArray), i + j = a.size → j + 2 ≤ k → f ≤ i → l.length + j ≤ 2000000 →
    timesyncref50_words.l0 k a l (f : Int) (i : Int) = some (l ++ wordsOf (a.data.toList.drop i) ((a.data.toList.take i).drop f))
  | 0, k, i, f, l, hj, hk, hf, hl => by
    have hs := sizeL a
    obtain ⟨k, rfl⟩ : ∃ q, k = q + 1 + 1 := ⟨k - 2, by omega⟩
    have hex : a.extract f i = ⟨((a.data.toList.take i).drop f).toArray⟩ := mk_eq (by rw [Lib.extract_data, List.drop_take])
    have hw : wrap64 ((i : Int) + 1) = (i : Int) + 1 := by unfold wrap64; omega
    simp only [timesyncref50_words.l0]
    rw [if_pos (by omega), if_pos (by omega), if_pos (by omega), if_pos (by omega), if_pos (by omega), hw, if_neg (by omega)]
    rw [List.drop_of_length_le (by omega), Int.toNat_natCast, Int.toNat_natCast, hex]
    rfl
  | j + 1, k, i, f, l, hj, hk, hf, hl => by
    have hs := sizeL a
    obtain ⟨k, rfl⟩ : ∃ q, k = q + 1 := ⟨k - 1, by omega⟩
    have hi : i < a.data.toList.length := by omega
    have hb := bt_get a i hi
    have hex : a.extract f i = ⟨((a.data.toList.take i).drop f).toArray⟩ := mk_eq (by rw [Lib.extract_data, List.drop_take])
    have hw : wrap64 ((i : Int) + 1) = ((i + 1 : Nat) : Int) := by unfold wrap64; omega
    have hd : a.data.toList.drop i = a.data.toList[i] :: a.data.toList.drop (i + 1) := List.drop_eq_getElem_cons hi
    simp only [timesyncref50_words.l0]
    rw [if_pos (by omega), if_neg (by omega), if_pos (by omega), if_pos (by omega), hb, hw, hd]
    unfold wordsOf
    by_cases c : a.data.toList[i] = 32
    · have hb32 : ((a.data.toList[i]).toNat : Int) = 32 := by rw [c]; rfl
      have q1 : (0 : Int) ≤ (f : Int) := by omega
      have q2 : (f : Int) ≤ (i : Int) := by omega
      have q3 : l.length < 8796093022208 := by omega
      rw [if_pos hb32, if_pos c, if_pos q1, if_pos q2, if_pos q3, Int.toNat_natCast, Int.toNat_natCast, hex]
      rw [words_loop a ha j k (i + 1) (i + 1) _ (by omega) (by omega) (by omega) (by simp only [List.length_append, List.length_cons, List.length_nil]; omega)]
      have hz : (a.data.toList.take (i + 1)).drop (i + 1) = [] := List.drop_of_length_le (by rw [List.length_take]; omega)
      rw [hz]
      simp
    · have hc : ¬ ((a.data.toList[i]).toNat : Int) = 32 := by
        intro e
        apply c
        apply UInt8.toNat_inj.1
        have h2 : (32 : UInt8).toNat = 32 := rfl
        omega
      rw [if_neg hc, if_neg c]
      rw [words_loop a ha j k (i + 1) f _ (by omega) (by omega) (by omega) (by omega)]
      have ht : (a.data.toList.take (i + 1)).drop f = (a.data.toList.take i).drop f ++ [a.data.toList[i]] := by
        rw [List.take_succ_eq_append_getElem hi, List.drop_append_of_le_length (by rw [List.length_take]; omega)]
      rw [ht]
theorem refwords_eq (a : ByteArray) (ha : a.size ≤ 1000000) : timesyncref50_words.f (a.size + 2) a = some (wordsOf a.data.toList []) := by
  unfold timesyncref50_words.f
  have h := words_loop a ha a.size (a.size + 2) 0 0 [] (by omega) (by omega) (by omega) (by simp; omega)
  simpa using h
theorem words_len_le (l : List UInt8) : ∀ acc, 1 ≤ (wordsOf l acc).length ∧ (wordsOf l acc).length ≤ l.length + 1 := by
  induction l with
  | nil => intro acc; simp [wordsOf]
  | cons c l ih =>
    intro acc
    unfold wordsOf
    split
    · have := ih []
      simp only [List.length_cons]; omega
    · have := ih (acc ++ [c])
      simp only [List.length_cons]; omega
theorem words_mem_le (l : List UInt8) : ∀ acc, ∀ s ∈ wordsOf l acc, s.size ≤ acc.length + l.length := by
  induction l with
  | nil =>
    intro acc s hs
    simp only [wordsOf, List.mem_singleton] at hs
    rw [hs, mk_size]; simp
  | cons c l ih =>
    intro acc s hs
    unfold wordsOf at hs
    split at hs
    · rcases List.mem_cons.1 hs with h | h
      · rw [h, mk_size]; omega
      · have := ih [] s h
        simp only [List.length_nil, List.length_cons] at *; omega
    · have := ih _ s hs
      simp only [List.length_append, List.length_cons, List.length_nil] at *; omega
end Go.Proofs.YtjhifhnjkpoofaaDoor.M
