/-
  A line of an entry: what is read from it, and what it is read from; a whole text, read and written.
-/
import Derived.Test.YtjhifhnjkpoofaaDoorPc
import Derived.Test.YtjhifhnjkpoofaaDoorExtS
namespace Go.Proofs.YtjhifhnjkpoofaaDoor.M
open Go.RowKit Go.Proofs.YtjhifhnjkpoofaaDoorG Go.Proofs.YtjhifhnjkpoofaaDoorW.PrintWords Go.Proofs.YtjhifhnjkpoofaaDoorW.PrintLast Go.Proofs.YtjhifhnjkpoofaaDoorW.PrintMore
set_option linter.unusedVariables false
set_option linter.unusedSimpArgs false
theorem join_nums (w : List UInt8) (ns : List Int) : joinC 32 (w :: ns.map Lib.itoa) = w ++ ns.flatMap numB := by
  induction ns generalizing w with
  | nil => simp [joinC]
  | cons n ns ih =>
    simp only [List.map_cons, joinC, List.flatMap_cons, numB]
    rw [ih]
    simp
/-- What is read from a line writes the line. -/
theorem entry_line {l : List UInt8} {x : S37} (h : entryOf (wordsOf l []) = some x) : lineOf x = l ++ [10] := by
  have hm := wordsOf_map l []
  rw [List.nil_append, headTail _ (wordsC_ne _ _)] at hm
  have hj := join_words 32 l
  rw [← hm] at hj
  generalize wordsOf l [] = ws at *
  cases ws with
  | nil => simp [entryOf] at h
  | cons w t =>
    unfold entryOf at h
    simp only [List.map_cons] at hj
    cases hc : canons t with
    | none => simp only [hc] at h; cases h
    | some ns =>
      rw [canons_map hc, join_nums] at hj
      simp only [hc] at h
      split at h
      · rename_i e
        obtain ⟨e1, e2⟩ := e
        match ns, e2 with
        | [a, b, c, d], _ =>
          injection h with h
          subst h
          rw [← hj, e1]
          simp [lineOf, numB]
      · split at h
        · rename_i e
          obtain ⟨e1, e2⟩ := e
          match ns, e2 with
          | [a, b, c, d], _ =>
            injection h with h
            subst h
            rw [← hj, e1]
            simp [lineOf, numB]
        · split at h
          · rename_i e
            obtain ⟨e1, e2⟩ := e
            match ns, e2 with
            | [a, b, c], _ =>
              injection h with h
              subst h
              rw [← hj, e1]
              simp [lineOf, numB]
          · split at h
            · rename_i e
              obtain ⟨e1, e2⟩ := e
              match ns, e2 with
              | [a, b], _ =>
                injection h with h
                subst h
                rw [← hj, e1]
                simp [lineOf, numB]
            · cases h
/-- An entry's line without its end. -/
def bodyOf (x : S37) : List UInt8 := wordOf x.f0 ++ (numsOf x).flatMap numB
theorem byte_ne {b : UInt8} {c : Nat} (h : b.toNat ≠ c) (d : UInt8) (hd : d.toNat = c) : d ≠ b := by
  rintro rfl; exact h hd
theorem itoa_no (c : UInt8) (hc : c.toNat = 32 ∨ c.toNat = 10) (n : Int) : c ∉ Lib.itoa n := fun h => by
  have := itoa_chars n c h
  omega
theorem word_no (c : UInt8) (hc : c.toNat = 32 ∨ c.toNat = 10) (k : Int) : c ∉ wordOf k := by
  have h : ∀ b ∈ wordOf k, 90 ≤ b.toNat := by
    unfold wordOf
    split
    · decide
    · split
      · decide
      · split <;> decide
  intro hb
  have := h c hb
  omega
theorem numB_no (c : UInt8) (hc : c.toNat = 10) (n : Int) : c ∉ numB n := by
  unfold numB
  intro h
  rcases List.mem_cons.1 h with h | h
  · rw [h] at hc; revert hc; decide
  · exact itoa_no c (.inr hc) n h
theorem body_no (x : S37) : (10 : UInt8) ∉ bodyOf x := by
  unfold bodyOf
  intro h
  rcases List.mem_append.1 h with h | h
  · exact word_no 10 (.inr rfl) _ h
  · obtain ⟨n, _, h⟩ := List.mem_flatMap.1 h
    exact numB_no 10 rfl n h
theorem nums_small {x : S37} (h : errOf x = 0) : ∀ n ∈ numsOf x, -1000000000000000000 < n ∧ n < 1000000000000000000 := by
  obtain ⟨_, h1, h2, h3, h4, h5, h6, h7, h8, h9, h10⟩ := err_ok h
  intro n hn
  unfold numsOf at hn
  split at hn
  · simp at hn; rcases hn with h | h | h <;> subst h <;> constructor <;> omega
  · split at hn
    · simp at hn; rcases hn with h | h <;> subst h <;> constructor <;> omega
    · simp at hn; rcases hn with h | h | h | h <;> subst h <;> constructor <;> omega
theorem body_words (x : S37) : wordsOf (bodyOf x) [] = ⟨(wordOf x.f0).toArray⟩ :: (numsOf x).map fun n => ⟨(Lib.itoa n).toArray⟩ := by
  apply map_data_inj
  rw [wordsOf_map, List.nil_append, headTail _ (wordsC_ne _ _)]
  unfold bodyOf
  rw [← join_nums, words_join 32 (by simp)]
  · simp
  · intro w hw
    rcases List.mem_cons.1 hw with h | h
    · rw [h]; exact word_no 32 (.inl rfl) _
    · obtain ⟨n, _, h⟩ := List.mem_map.1 h
      rw [← h]; exact itoa_no 32 (.inl rfl) n
theorem err_form {x : S37} (h : errOf x = 0) : (¬ (x.f0 = 1 ∨ x.f0 = 2) → x.f2 = 0 ∧ x.f3 = 0) ∧ (x.f0 ≠ 3 → x.f5 = 0) := by
  unfold errOf at h
  split at h
  · cases h
  · split at h
    · cases h
    · split at h
      · cases h
      · rename_i e
        constructor
        · intro h1
          by_cases h2 : x.f2 = 0
          · by_cases h3 : x.f3 = 0
            · exact ⟨h2, h3⟩
            · exact absurd (.inl ⟨h1, .inr h3⟩) e
          · exact absurd (.inl ⟨h1, .inl h2⟩) e
        · intro h1
          by_cases h2 : x.f5 = 0
          · exact h2
          · exact absurd (.inr ⟨h1, h2⟩) e
/-- An entry without error is read from its own line. -/
theorem body_entry {x : S37} (h : errOf x = 0) : entryOf (wordsOf (bodyOf x) []) = some x := by
  have hr := err_ok h
  have hf := err_form h
  have hn := canons_itoa (numsOf x) (nums_small h)
  rw [body_words]
  unfold entryOf
  simp only [hn]
  obtain ⟨a, b, c, d, e, f⟩ := x
  have hk : a = 1 ∨ a = 2 ∨ a = 3 ∨ a = 4 := by have := hr.1; simp only at this; omega
  simp only at hf
  rcases hk with h1 | h1 | h1 | h1
  · subst h1
    have h5 := hf.2 (by decide)
    subst h5
    simp [numsOf, wordOf]
  · subst h1
    have h5 := hf.2 (by decide)
    subst h5
    simp [numsOf, wordOf]
  · subst h1
    obtain ⟨h2, h3⟩ := hf.1 (by decide)
    subst h2 h3
    simp [numsOf, wordOf]
  · subst h1
    have h5 := hf.2 (by decide)
    obtain ⟨h2, h3⟩ := hf.1 (by decide)
    subst h2 h3 h5
    simp [numsOf, wordOf]
theorem line_body {x : S37} (h : errOf x = 0) : lineOf x = bodyOf x ++ [10] := lineOf_eq x (err_ok h).1.1 (err_ok h).1.2
/-! prefixes -/
theorem first_take : ∀ (l : List S37) (k : Nat), firstErr l = 0 → firstErr (l.take k) = 0
  | [], k, h => by simp [firstErr]
  | x :: l, 0, h => rfl
  | x :: l, k + 1, h => by
    unfold firstErr at h
    split at h
    · rename_i e
      rw [List.take_succ_cons]
      unfold firstErr
      rw [if_pos e]
      exact first_take l k h
    · rename_i e; exact absurd h e
theorem chkFrom_take : ∀ (l pre : List S37) (k : Nat), chkFrom pre l = 0 → chkFrom pre (l.take k) = 0
  | [], pre, k, h => by simp [chkFrom]
  | x :: l, pre, 0, h => rfl
  | x :: l, pre, k + 1, h => by
    rw [List.take_succ_cons]
    unfold chkFrom at h ⊢
    split at h
    · cases h
    · rename_i e
      rw [if_neg e]
      split at h
      · rename_i b hb
        split at h
        · cases h
        · rename_i e2
          rw [if_neg e2]
          exact chkFrom_take l _ k h
      · rename_i hb
        exact chkFrom_take l _ k h
theorem chk_take (l : List S37) (k : Nat) (h : chk l = 0) : chk (l.take k) = 0 := by
  have hl := (chk_ok h).1
  unfold chk at h ⊢
  rw [if_neg (by omega)] at h
  rw [if_neg (by rw [List.length_take]; omega)]
  split at h
  · rename_i e
    rw [if_pos (first_take l k e)]
    exact chkFrom_take l _ k h
  · rename_i e; exact absurd h e
theorem chkFrom_vals : ∀ (l pre : List S37), chkFrom pre l = 0 ∨ chkFrom pre l = 10 ∨ chkFrom pre l = 12
  | [], pre => .inl rfl
  | x :: l, pre => by
    unfold chkFrom
    split
    · exact .inr (.inl rfl)
    · split
      · split
        · exact .inr (.inr rfl)
        · exact chkFrom_vals l _
      · exact chkFrom_vals l _
theorem errOf_vals (x : S37) : errOf x = 0 ∨ errOf x = 3 ∨ errOf x = 7 ∨ errOf x = 8 := by
  unfold errOf
  split
  · simp
  · split
    · simp
    · split
      · simp
      · split <;> simp
theorem first_vals : ∀ (l : List S37), firstErr l = 0 ∨ firstErr l = 3 ∨ firstErr l = 7 ∨ firstErr l = 8
  | [] => .inl rfl
  | x :: l => by
    unfold firstErr
    split
    · exact first_vals l
    · exact errOf_vals x
theorem chk_vals (l : List S37) : chk l ≠ 19 := by
  unfold chk
  split
  · decide
  · split
    · rcases chkFrom_vals l [] with h | h | h <;> rw [h] <;> decide
    · rcases first_vals l with h | h | h | h <;> rw [h] <;> decide
end Go.Proofs.YtjhifhnjkpoofaaDoor.M
