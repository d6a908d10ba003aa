/-
  Numbers written and read again; lines put together and cut again; leap.Parse reads leap.Text's text.
-/
import Derived.Test.YtipbkcilpnlgnaaDoorPa
import Derived.Test.YtipbkcilpnlgnaaDoorExtP1
import Derived.Lib.SplitLaws
namespace Go.Proofs.YtipbkcilpnlgnaaDoor.M
open Go.RowKit Go.Proofs.YtipbkcilpnlgnaaDoorG Go.Proofs.YtipbkcilpnlgnaaDoorW.PrintWords Go.Proofs.YtipbkcilpnlgnaaDoorW.PrintLast Go.Proofs.YtipbkcilpnlgnaaDoorW.PrintMore
set_option linter.unusedVariables false
set_option linter.unusedSimpArgs false
theorem wordsC_cons (c b : UInt8) (l : List UInt8) : wordsC c (b :: l) = if b = c then [] :: wordsC c l else (b :: (wordsC c l).headD []) :: (wordsC c l).tail := rfl
theorem words_app (c : UInt8) (r : List UInt8) : ∀ {w : List UInt8}, c ∉ w → wordsC c (w ++ c :: r) = w :: wordsC c r
  | [], _ => by simp [wordsC]
  | b :: w, h => by
    have h1 : b ≠ c := fun e => h (by rw [e]; exact List.mem_cons_self)
    have ih := words_app c r (w := w) (fun e => h (List.mem_cons_of_mem _ e))
    rw [List.cons_append, wordsC_cons, if_neg h1, ih]; rfl
theorem cut_all (c : UInt8) : ∀ l, (cutB c l).2.2 = false → (cutB c l).1 = l ∧ c ∉ l
  | [], _ => by simp [cutB]
  | b :: l, h => by
    unfold cutB at h ⊢
    split
    · rename_i e; rw [if_pos e] at h; cases h
    · rename_i e
      rw [if_neg e] at h
      have ih := cut_all c l h
      simp only [ih.1, true_and, List.mem_cons, not_or]
      exact ⟨fun x => e x.symm, ih.2⟩
theorem dec_big {u : Nat} (h : ¬ u < 10) : Lib.decDigits u = Lib.decDigits (u / 10) ++ [UInt8.ofNat (48 + u % 10)] := by rw [Lib.decDigits, dif_neg h]
theorem digit_nat (d : Nat) (h : d < 10) : (UInt8.ofNat (48 + d)).toNat = 48 + d := by
  simp [UInt8.toNat_ofNat']; omega
theorem dec_chars : ∀ (u : Nat), ∀ b ∈ Lib.decDigits u, 48 ≤ b.toNat ∧ b.toNat ≤ 57 := by
  intro u
  induction u using Nat.strongRecOn with
  | _ u ih =>
    intro b hb
    by_cases h : u < 10
    · rw [Lib.decDigits_one h] at hb
      rw [List.mem_singleton.1 hb, digit_nat u h]; omega
    · rw [dec_big h] at hb
      rcases List.mem_append.1 hb with h1 | h1
      · exact ih (u / 10) (by omega) b h1
      · rw [List.mem_singleton.1 h1, digit_nat _ (Nat.mod_lt _ (by decide))]; omega
theorem itoa_chars (n : Int) : ∀ b ∈ Lib.itoa n, b.toNat = 45 ∨ (48 ≤ b.toNat ∧ b.toNat ≤ 57) := by
  intro b hb
  unfold Lib.itoa at hb
  split at hb
  · rcases List.mem_cons.1 hb with h | h
    · rw [h]; left; rfl
    · exact .inr (dec_chars _ b h)
  · exact .inr (dec_chars _ b hb)
theorem dec_ne (u : Nat) : Lib.decDigits u ≠ [] := by
  by_cases h : u < 10
  · rw [Lib.decDigits_one h]; simp
  · rw [dec_big h]; simp
theorem parse_snoc (d : Nat) (hd : d < 10) : ∀ (l : List UInt8) (acc m : Nat), Lib.parseUint10 acc l = .ok m → m < 1000000000000000000 → Lib.parseUint10 acc (l ++ [UInt8.ofNat (48 + d)]) = .ok (m * 10 + d)
  | [], acc, m, h, hm => by
    simp only [Lib.parseUint10] at h
    injection h with h
    subst h
    simp only [List.nil_append, Lib.parseUint10, digit_nat d hd]
    rw [if_pos (by omega), if_neg (by omega), if_neg (by omega)]
    congr 1
    omega
  | c :: l, acc, m, h, hm => by
    simp only [List.cons_append, Lib.parseUint10] at h ⊢
    split at h
    · rename_i h1
      rw [if_pos h1]
      split at h
      · cases h
      · rename_i h2
        rw [if_neg h2]
        split at h
        · cases h
        · rename_i h3
          rw [if_neg h3]
          exact parse_snoc d hd l _ m h hm
    · cases h
theorem parse_dec : ∀ (u : Nat), u < 1000000000000000000 → Lib.parseUint10 0 (Lib.decDigits u) = .ok u := by
  intro u
  induction u using Nat.strongRecOn with
  | _ u ih =>
    intro hu
    by_cases h : u < 10
    · rw [Lib.decDigits_one h]
      have := parse_snoc u h [] 0 0 rfl (by decide)
      simpa using this
    · rw [dec_big h, parse_snoc (u % 10) (Nat.mod_lt _ (by decide)) _ 0 (u / 10) (ih (u / 10) (by omega) (by omega)) (by omega)]
      congr 1
      omega
theorem atoi_itoa (n : Int) (h0 : -1000000000000000000 < n) (h1 : n < 1000000000000000000) : Lib.atoiAll (Lib.itoa n) = .ok n := by
  unfold Lib.itoa
  split
  · rename_i h
    unfold Lib.atoiAll
    have hp : Lib.parseMag (Lib.decDigits n.natAbs) = .ok n.natAbs := by
      unfold Lib.parseMag
      rw [if_neg (dec_ne _), parse_dec _ (by omega)]
    have e : (45 : UInt8).toNat = 45 := rfl
    simp only [e, or_true, if_true, hp]
    rw [if_neg (by simp), if_neg (by omega)]
    congr 1
    omega
  · rename_i h
    have hp : Lib.parseMag (Lib.decDigits n.toNat) = .ok n.toNat := by
      unfold Lib.parseMag
      rw [if_neg (dec_ne _), parse_dec _ (by omega)]
    cases hd : Lib.decDigits n.toNat with
    | nil => exact absurd hd (dec_ne _)
    | cons c r =>
      have hc := dec_chars n.toNat c (by rw [hd]; exact List.mem_cons_self)
      unfold Lib.atoiAll
      have e1 : ¬ (c.toNat = 43) := by omega
      have e2 : ¬ (c.toNat = 45) := by omega
      rw [hd] at hp
      simp only [e1, or_false, if_false, e2]
      rw [hp]
      simp only [not_false_eq_true, true_and, false_and, if_false]
      rw [if_neg (by omega)]
      congr 1
      omega
theorem canon_itoa (n : Int) (h0 : -1000000000000000000 < n) (h1 : n < 1000000000000000000) : canon ⟨(Lib.itoa n).toArray⟩ = some n := by
  unfold canon
  rw [show (⟨(Lib.itoa n).toArray⟩ : ByteArray).data.toList = Lib.itoa n by simp, atoi_itoa n h0 h1]
  simp
theorem canon_some {s : ByteArray} {n : Int} (h : canon s = some n) : s.data.toList = Lib.itoa n := by
  unfold canon at h
  split at h
  · split at h
    · rename_i e
      injection h with h
      rw [← h, e]
    · cases h
  · cases h
theorem words_none' (c : UInt8) (w : List UInt8) (h : c ∉ w) : wordsC c w = [w] := wordsC_none c w (fun k hk => h (List.mem_of_getElem? hk))
theorem cut_none (c : UInt8) : ∀ (w : List UInt8), c ∉ w → (cutB c w).1 = w
  | [], _ => rfl
  | b :: l, h => by
    have hb : b ≠ c := fun e => h (by rw [e]; exact List.mem_cons_self)
    unfold cutB
    rw [if_neg hb]
    simp only
    rw [cut_none c l (fun e => h (List.mem_cons_of_mem _ e))]
theorem itoa_ne (n : Int) : Lib.itoa n ≠ [] := by
  unfold Lib.itoa
  split
  · simp
  · exact dec_ne _
theorem itoa_not (n : Int) (c : UInt8) (hc : c.toNat ≠ 45 ∧ ¬ (48 ≤ c.toNat ∧ c.toNat ≤ 57)) : c ∉ Lib.itoa n := fun h => by
  rcases itoa_chars n c h with h1 | h1
  · exact hc.1 h1
  · exact hc.2 h1
theorem fields_app : ∀ (w acc r : List UInt8), (∀ b ∈ w, blankB b = false) → fieldsB acc (w ++ r) = fieldsB (acc ++ w) r
  | [], acc, r, _ => by simp
  | b :: w, acc, r, h => by
    rw [List.cons_append, fieldsB, if_neg (by rw [h b List.mem_cons_self]; decide), fields_app w (acc ++ [b]) r (fun x hx => h x (List.mem_cons_of_mem _ hx))]
    simp
theorem itoa_noblank (n : Int) : ∀ b ∈ Lib.itoa n, blankB b = false := fun b hb => by
  unfold blankB
  rw [Bool.or_eq_false_iff]
  refine ⟨beq_eq_false_iff_ne.mpr fun e => ?_, beq_eq_false_iff_ne.mpr fun e => ?_⟩
  · exact itoa_not n 32 (by decide) (e ▸ hb)
  · exact itoa_not n 9 (by decide) (e ▸ hb)
theorem fields_one (n : Int) : fieldsB [] (32 :: Lib.itoa n) = [Lib.itoa n] := by
  rw [fieldsB, if_pos (by decide), if_pos rfl]
  have := fields_app (Lib.itoa n) [] [] (itoa_noblank n)
  rw [List.append_nil] at this
  rw [this, List.nil_append, fieldsB, if_neg (itoa_ne n)]
theorem fields_two (n m : Int) : fieldsB [] (Lib.itoa n ++ 32 :: Lib.itoa m) = [Lib.itoa n, Lib.itoa m] := by
  rw [fields_app (Lib.itoa n) [] _ (itoa_noblank n), List.nil_append, fieldsB, if_pos (by decide), if_neg (itoa_ne n)]
  have := fields_app (Lib.itoa m) [] [] (itoa_noblank m)
  rw [List.append_nil] at this
  rw [this, List.nil_append, fieldsB, if_neg (itoa_ne m)]
def Fit (n : Int) : Prop := -1000000000000000000 < n ∧ n < 1000000000000000000
theorem nums_one (n : Int) (h : Fit n) : lineNums (32 :: Lib.itoa n) = some [n] := by
  unfold lineNums
  rw [fields_one]
  simp only [numsB, canon_itoa n h.1 h.2]
  rfl
theorem nums_two (n m : Int) (h : Fit n) (k : Fit m) : lineNums (Lib.itoa n ++ 32 :: Lib.itoa m) = some [n, m] := by
  unfold lineNums
  rw [fields_two]
  simp only [numsB, canon_itoa n h.1 h.2, canon_itoa m k.1 k.2]
  rfl
theorem itoa_len (n : Int) : 1 ≤ (Lib.itoa n).length := by
  have := itoa_ne n
  cases h : Lib.itoa n with
  | nil => exact absurd h this
  | cons a l => simp
theorem step_exp (r : Rd) (n : Int) (h : Fit n) (hk : r.kE = false) : stepLine r (35 :: 64 :: 32 :: Lib.itoa n) = some { r with exp := n, kE := true } := by
  unfold stepLine
  rw [if_pos ⟨rfl, by have := itoa_len n; simp only [List.length_cons]; omega, by rfl⟩]
  show (match headNum (32 :: Lib.itoa n) r.kE with | some n => some { r with exp := n, kE := true } | none => none) = _
  unfold headNum
  rw [nums_one n h, hk]
  rfl
theorem step_base (r : Rd) (n : Int) (h : Fit n) (hk : r.kB = false) : stepLine r (35 :: 61 :: 32 :: Lib.itoa n) = some { r with base := n, kB := true } := by
  unfold stepLine
  rw [if_neg (fun h => by have := h.1; simp at this), if_pos ⟨rfl, by have := itoa_len n; simp only [List.length_cons]; omega, by rfl⟩]
  show (match headNum (32 :: Lib.itoa n) r.kB with | some n => some { r with base := n, kB := true } | none => none) = _
  unfold headNum
  rw [nums_one n h, hk]
  rfl
theorem first_ne (n : Int) (t : List UInt8) (c : UInt8) : (Lib.itoa n ++ t).take 2 ≠ [35, c] := by
  cases h : Lib.itoa n with
  | nil => exact absurd h (itoa_ne n)
  | cons a l =>
    intro e
    rw [List.cons_append, List.take_succ_cons] at e
    injection e with e1 e2
    exact itoa_not n 35 (by decide) (by rw [h, e1]; exact List.mem_cons_self)
theorem step_ent (r : Rd) (x : S44) (h : Fit x.f0) (k : Fit x.f1) : stepLine r (Lib.itoa x.f0 ++ 32 :: Lib.itoa x.f1) = some { r with ent := r.ent ++ [x] } := by
  unfold stepLine
  rw [if_neg (fun h => first_ne _ _ _ h.1), if_neg (fun h => first_ne _ _ _ h.1)]
  have hc : (35 : UInt8) ∉ Lib.itoa x.f0 ++ 32 :: Lib.itoa x.f1 := fun h => by
    rcases List.mem_append.1 h with h | h
    · exact itoa_not _ 35 (by decide) h
    · rcases List.mem_cons.1 h with h | h
      · cases h
      · exact itoa_not _ 35 (by decide) h
  rw [cut_none 35 _ hc, nums_two _ _ h k]
theorem step_nil (r : Rd) : stepLine r [] = some r := by
  unfold stepLine
  rw [if_neg (fun h => by have := h.2.1; simp at this), if_neg (fun h => by have := h.2.1; simp at this)]
  rfl
theorem words_ents : ∀ (l : List S44), wordsC 10 (l.flatMap entLine) = l.map (fun x => Lib.itoa x.f0 ++ 32 :: Lib.itoa x.f1) ++ [[]]
  | [] => rfl
  | x :: l => by
    rw [List.flatMap_cons, List.map_cons, List.cons_append]
    rw [show entLine x = Lib.itoa x.f0 ++ 32 :: Lib.itoa x.f1 ++ [10] by unfold entLine; simp]
    rw [show Lib.itoa x.f0 ++ 32 :: Lib.itoa x.f1 ++ [10] ++ l.flatMap entLine = (Lib.itoa x.f0 ++ 32 :: Lib.itoa x.f1) ++ 10 :: l.flatMap entLine by simp]
    have hc : (10 : UInt8) ∉ Lib.itoa x.f0 ++ 32 :: Lib.itoa x.f1 := fun h => by
      rcases List.mem_append.1 h with h | h
      · exact itoa_not _ 10 (by decide) h
      · rcases List.mem_cons.1 h with h | h
        · cases h
        · exact itoa_not _ 10 (by decide) h
    rw [words_app 10 _ hc, words_ents l]
theorem read_ents : ∀ (l : List S44) (r : Rd), (∀ x ∈ l, Fit x.f0 ∧ Fit x.f1) → readLines r (l.map (fun x => Lib.itoa x.f0 ++ 32 :: Lib.itoa x.f1) ++ [[]]) = some { r with ent := r.ent ++ l }
  | [], r, _ => by
    simp only [List.map_nil, List.nil_append, readLines, step_nil]
    simp
  | x :: l, r, h => by
    have hx := h x List.mem_cons_self
    rw [List.map_cons, List.cons_append, readLines, step_ent r x hx.1 hx.2]
    simp only
    rw [read_ents l _ (fun y hy => h y (List.mem_cons_of_mem _ hy))]
    simp
theorem read_text (b e : Int) (l : List S44) (hb : Fit b) (he : Fit e) (h : ∀ x ∈ l, Fit x.f0 ∧ Fit x.f1) : readLines rd0 (wordsC 10 (tableText b e l)) = some ⟨b, e, l, true, true⟩ := by
  unfold tableText
  have h1 : (10 : UInt8) ∉ (35 :: 64 :: 32 :: Lib.itoa e : List UInt8) := fun h => by
    simp only [List.mem_cons] at h
    rcases h with h | h | h | h
    · cases h
    · cases h
    · cases h
    · exact itoa_not _ 10 (by decide) h
  have h2 : (10 : UInt8) ∉ (35 :: 61 :: 32 :: Lib.itoa b : List UInt8) := fun h => by
    simp only [List.mem_cons] at h
    rcases h with h | h | h | h
    · cases h
    · cases h
    · cases h
    · exact itoa_not _ 10 (by decide) h
  rw [show [35, 64, 32] ++ Lib.itoa e ++ [10, 35, 61, 32] ++ Lib.itoa b ++ [10] ++ l.flatMap entLine = (35 :: 64 :: 32 :: Lib.itoa e) ++ 10 :: ((35 :: 61 :: 32 :: Lib.itoa b) ++ 10 :: l.flatMap entLine) by simp]
  rw [words_app 10 _ h1, words_app 10 _ h2, words_ents, readLines, step_exp rd0 e he rfl]
  simp only
  rw [readLines, step_base _ b hb rfl]
  simp only
  rw [read_ents l _ h]
  rfl
theorem fit_of (n : Int) (h : -8000000000 ≤ n ∧ n ≤ 8000000000) : Fit n := ⟨by omega, by omega⟩
theorem text_small (b e : Int) (l : List S44) (h : chk b e l = 0) : (tableText b e l).length ≤ 10000 := by
  unfold chk at h
  split at h
  · cases h
  · split at h
    · rename_i h1 h2
      have hl := ents_len l (fun x hx => ⟨by have := (h2.2.2 x hx).1; omega, by have := (h2.2.2 x hx).2; omega⟩)
      have k1 := Lib.itoa_length_le e (by omega) (by omega)
      have k2 := Lib.itoa_length_le b (by omega) (by omega)
      unfold tableText
      simp only [List.length_append, List.length_cons, List.length_nil]
      omega
    · cases h
theorem text_eq (b e : Int) (l : List S44) : leap_Text.f b e l = some (if chk b e l = 0 then ⟨(tableText b e l).toArray⟩ else ⟨#[]⟩) := by
  unfold leap_Text.f
  rw [check_eq 1000 (by decide), Option.bind_some]
  split <;> rfl
theorem parse_text (b e : Int) (l : List S44) (h : chk b e l = 0) : leap_Parse.f ⟨(tableText b e l).toArray⟩ = some (b, e, l, 0) := by
  have hs := text_small b e l h
  have hc := h
  unfold chk at hc
  split at hc
  · cases hc
  · split at hc
    · rename_i h1 h2
      unfold leap_Parse.f
      rw [if_pos (by show (tableText b e l).toArray.size ≤ 1000000; rw [List.size_toArray]; omega)]
      rw [show (⟨(tableText b e l).toArray⟩ : ByteArray).data.toList = tableText b e l from rfl]
      have hr := read_text b e l (fit_of b (by omega)) (fit_of e h2.2.1) (fun x hx => ⟨fit_of _ (h2.2.2 x hx).1, fit_of _ (by have := (h2.2.2 x hx).2; omega)⟩)
      unfold rd0 at hr
      rw [hr]
      simp only
      rw [if_pos (by simp), check_eq 1000 (by decide), Option.bind_some, if_pos h]
    · cases hc
/-- What is parsed: a valid table; or nothing, and an error. -/
theorem parse_ok (s : ByteArray) (hs : s.size ≤ 1000000) : ∃ b e l r, leap_Parse.f s = some (b, e, l, r) ∧ ((r = 0 ∧ chk b e l = 0) ∨ (r ≠ 0 ∧ b = 0 ∧ e = 0 ∧ l = [])) := by
  unfold leap_Parse.f
  rw [if_pos hs]
  cases readLines ⟨0, 0, [], false, false⟩ (wordsC 10 s.data.toList) with
  | none => exact ⟨0, 0, [], 19, rfl, .inr ⟨by decide, rfl, rfl, rfl⟩⟩
  | some r =>
    simp only
    split
    · rw [check_eq 1000 (by decide), Option.bind_some]
      split
      · rename_i h
        exact ⟨_, _, _, _, rfl, .inl ⟨rfl, h⟩⟩
      · rename_i h
        exact ⟨_, _, _, _, rfl, .inr ⟨h, rfl, rfl, rfl⟩⟩
    · exact ⟨0, 0, [], 11, rfl, .inr ⟨by decide, rfl, rfl, rfl⟩⟩
/-! same -/
theorem same_l0 (b e : Int) (l : List S44) (hl : l.length ≤ 1000) : ∀ (n i k : Nat), l.length - i = n → i ≤ l.length → n + 1 ≤ k → timesynclaw06_same.l0 k i b e l b e l = some true
  | 0, i, k, hn, hi, hk => by
    obtain ⟨k, rfl⟩ : ∃ j, k = j + 1 := ⟨k - 1, by omega⟩
    simp only [timesynclaw06_same.l0]
    rw [if_neg (by omega)]
  | n + 1, i, k, hn, hi, hk => by
    obtain ⟨k, rfl⟩ : ∃ j, k = j + 1 := ⟨k - 1, by omega⟩
    have hw1 : wrap64 ((i : Int) + 1) = ((i + 1 : Nat) : Int) := by unfold wrap64; omega
    simp only [timesynclaw06_same.l0, hw1]
    rw [if_pos (by omega), if_pos (by omega), if_pos (by omega), if_neg (by simp)]
    exact same_l0 b e l hl n (i + 1) k (by omega) (by omega) (by omega)
theorem same_refl (k : Nat) (hk : 100 ≤ k) (b e : Int) (l : List S44) (hl : l.length ≤ 64) : timesynclaw06_same.f k b e l b e l = some true := by
  obtain ⟨k, rfl⟩ : ∃ j, k = j + 1 := ⟨k - 1, by omega⟩
  unfold timesynclaw06_same.f
  rw [if_pos rfl, if_pos rfl, bne_self_eq_false]
  simp only [timesynclaw06_same.j0]
  rw [if_neg (by decide)]
  exact same_l0 b e l (by omega) l.length 0 k (by omega) (by omega) (by omega)
end Go.Proofs.YtipbkcilpnlgnaaDoor.M
