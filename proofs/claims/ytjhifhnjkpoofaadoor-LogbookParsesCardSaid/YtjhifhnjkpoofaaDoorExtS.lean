/-
  What logbook.Text needs, plain: the text of an entry as words and numbers, lengths; what a builder and a slice keep.
-/
import Derived.Test.YtjhifhnjkpoofaaDoorExtU
import Derived.Test.YtjhifhnjkpoofaaDoorExtC
import Derived.Test.YtjhifhnjkpoofaaDoorExtA
import Derived.Test.YtjhifhnjkpoofaaDoorM4
import Derived.Lib.ItoaLen
namespace Go.Proofs.YtjhifhnjkpoofaaDoor.M
open Go.RowKit Go.Proofs.YtjhifhnjkpoofaaDoorG Go.Proofs.YtjhifhnjkpoofaaDoorW.PrintWords Go.Proofs.YtjhifhnjkpoofaaDoorW.PrintLast Go.Proofs.YtjhifhnjkpoofaaDoorW.PrintMore
set_option linter.unusedVariables false
set_option linter.unusedSimpArgs false
/-! what the builder keeps -/
theorem ownF_below {w w' : World} {base size n : Nat} {e : TypeId} {v : Value} {xs : List Value} (h : w.ownsRowF base e size v n xs) (hb : Below w.heap.size w w') : w'.ownsRowF base e size v n xs := by
  obtain ⟨h1, h2⟩ := h
  refine ⟨h1, ?_⟩
  rcases h2 with h2 | ⟨g, cap, cur, fz, rfl, hg, hh, r⟩
  · exact .inl h2
  · exact .inr ⟨g, cap, cur, fz, rfl, hg, (hb.block g (lt_of_some hh)).trans hh, r⟩
theorem bd_below {w w' : World} {B b : Nat} {bs : List Value} (h : Lib.IsBuilderF 58 5 B b bs w) (hb : Below w.heap.size w w') : Lib.IsBuilderF 58 5 B b bs w' := by
  rcases h with h | h
  · obtain ⟨h1, v, h2, h3, h4⟩ := h
    exact .inl ⟨h1, v, (hb.block b (lt_of_some h2)).trans h2, ownF_below h3 hb, h4⟩
  · obtain ⟨h1, v, h2, h3, h4⟩ := h
    exact .inr ⟨h1, v, (hb.block b (lt_of_some h2)).trans h2, ownF_below h3 hb, h4⟩
theorem ints_kept {w w' : World} {b base : Nat} {v : Value} {xs : List Int} (h : Kd.R (Kd.int .i64) 3 w base (fun k => k ≠ b) v xs) (hk : Lib.OthersKept 5 (some b) w w') : Kd.R (Kd.int .i64) 3 w' base (fun k => k ≠ b) v xs :=
  Kd.R_mono (Kd.R_move (Kd.R_bound h) (fun k hh => by
    obtain ⟨h1, h2, h3, q, hq, cells, hc⟩ := hh
    have hq3 : q = 3 := by simpa [Kd.int, Kd.scalar] using hq
    subst hq3
    rw [hc]
    exact hk k _ hc (fun e => h1 (Option.some.inj e)) (fun c fz e => by cases e))) (fun _ hh => hh.1)
theorem ints_apart {w : World} {b base : Nat} {v : Value} {xs : List Int} {bs : List Value} {B : Nat} (h : Kd.R (Kd.int .i64) 3 w base (fun _ => True) v xs) (hbd : Lib.IsBuilderF 58 5 B b bs w) : Kd.R (Kd.int .i64) 3 w base (fun k => k ≠ b) v xs := by
  obtain ⟨p, hB, u, hh, _⟩ : ∃ p, Lib.BuilderAtF 58 5 B b p bs w := by
    rcases hbd with h | h
    · exact ⟨_, h⟩
    · exact ⟨_, h⟩
  exact Kd.R_mono (Kd.R_types h hh (fun q hq => by
    have hq3 : q = 3 := by simpa [Kd.int, Kd.scalar] using hq
    subst hq3
    decide)) (fun _ hh => hh.2)
/-! the text, plain -/
def numsOf (x : S37) : List Int := if x.f0 = 3 then [x.f1, x.f4, x.f5] else if x.f0 = 4 then [x.f1, x.f4] else [x.f1, x.f2, x.f3, x.f4]
def wordOf (k : Int) : List UInt8 := if k = 1 then [115, 101, 110, 100] else if k = 2 then [114, 101, 99, 118] else if k = 3 then [115, 116, 101, 112] else [109, 97, 114, 107]
def numB (n : Int) : List UInt8 := 32 :: Lib.itoa n
theorem nums_f (x : S37) : logbook_numbers.f x.f0 x.f1 x.f2 x.f3 x.f4 x.f5 = some (numsOf x) := by
  unfold logbook_numbers.f numsOf
  split
  · rfl
  · split <;> rfl
theorem lineOf_eq (x : S37) (h0 : 1 ≤ x.f0) (h1 : x.f0 ≤ 4) : lineOf x = wordOf x.f0 ++ (numsOf x).flatMap numB ++ [10] := by
  have : x.f0 = 1 ∨ x.f0 = 2 ∨ x.f0 = 3 ∨ x.f0 = 4 := by omega
  rcases this with h | h | h | h <;> simp [lineOf, wordOf, numsOf, numB, h]
theorem err_ok {x : S37} (h : errOf x = 0) : (1 ≤ x.f0 ∧ x.f0 ≤ 4) ∧ (0 ≤ x.f1 ∧ x.f1 ≤ 23 ∧ 0 ≤ x.f2 ∧ x.f2 ≤ 23 ∧ 0 ≤ x.f3 ∧ x.f3 ≤ 2147483647 ∧ -4503599627370496 ≤ x.f4 ∧ x.f4 ≤ 4503599627370496 ∧ -4503599627370496 ≤ x.f5 ∧ x.f5 ≤ 4503599627370496) := by
  unfold errOf at h
  split at h
  · cases h
  · rename_i a
    split at h
    · cases h
    · rename_i b
      exact ⟨Decidable.not_not.1 a, Decidable.not_not.1 b⟩
theorem first_ok : ∀ {l : List S37}, firstErr l = 0 → ∀ x ∈ l, errOf x = 0
  | [], _, x, hx => by cases hx
  | y :: l, h, x, hx => by
    unfold firstErr at h
    split at h
    · rename_i hy
      rcases List.mem_cons.1 hx with e | e
      · rw [e]; exact hy
      · exact first_ok h x e
    · exact absurd h (by assumption)
theorem chk_ok {l : List S37} (h : chk l = 0) : l.length ≤ 512 ∧ ∀ x ∈ l, errOf x = 0 := by
  unfold chk at h
  split at h
  · cases h
  · split at h
    · rename_i a b
      exact ⟨by omega, first_ok b⟩
    · rename_i a b
      exact absurd h b
theorem nums_ok {x : S37} (h : errOf x = 0) : ∀ n ∈ numsOf x, -9223372036854775808 ≤ n ∧ n ≤ 9223372036854775807 := by
  obtain ⟨_, h1, h2, h3, h4, h5, h6, h7, h8, h9, h10⟩ := err_ok h
  intro n hn
  unfold numsOf at hn
  split at hn
  · simp at hn; rcases hn with h | h | h <;> subst h <;> constructor <;> omega
  · split at hn
    · simp at hn; rcases hn with h | h <;> subst h <;> constructor <;> omega
    · simp at hn; rcases hn with h | h | h | h <;> subst h <;> constructor <;> omega
theorem nums_len (x : S37) : (numsOf x).length ≤ 4 := by
  unfold numsOf
  split
  · simp
  · split <;> simp
theorem numBs_len : ∀ (l : List Int), (∀ n ∈ l, -9223372036854775808 ≤ n ∧ n ≤ 9223372036854775807) → (l.flatMap numB).length ≤ l.length * 22
  | [], _ => by simp
  | n :: l, h => by
    have h1 := h n List.mem_cons_self
    have h2 := Lib.itoa_length_le n h1.1 h1.2
    have h3 := numBs_len l (fun m hm => h m (List.mem_cons_of_mem _ hm))
    simp only [List.flatMap_cons, List.length_append, List.length_cons, numB]
    omega
theorem word_len (k : Int) : (wordOf k).length = 4 := by
  unfold wordOf
  split
  · rfl
  · split
    · rfl
    · split <;> rfl
theorem line_len {x : S37} (h : errOf x = 0) : (lineOf x).length ≤ 93 := by
  have h1 := err_ok h
  rw [lineOf_eq x h1.1.1 h1.1.2]
  have h2 := numBs_len (numsOf x) (nums_ok h)
  have h3 := nums_len x
  have h4 := word_len x.f0
  simp only [List.length_append, List.length_cons, List.length_nil]
  omega
theorem lines_len : ∀ (l : List S37), (∀ x ∈ l, errOf x = 0) → (l.flatMap lineOf).length ≤ l.length * 93
  | [], _ => by simp
  | x :: l, h => by
    have h1 := line_len (h x List.mem_cons_self)
    have h3 := lines_len l (fun m hm => h m (List.mem_cons_of_mem _ hm))
    simp only [List.flatMap_cons, List.length_append, List.length_cons]
    omega
theorem mem_rd {l : List S37} {x : Int} (h0 : 0 ≤ x) (h1 : x < l.length) : rd_T37 l x ∈ l := by
  have hl : x.toNat < l.length := by omega
  have e : rd_T37 l x = l[x.toNat] := by simp [rd_T37, List.getD, hl]
  rw [e]; exact List.getElem_mem hl
theorem lines_step (l : List S37) (x : Int) (h0 : 0 ≤ x) (h1 : x < l.length) : (l.take (x + 1).toNat).flatMap lineOf = (l.take x.toNat).flatMap lineOf ++ lineOf (rd_T37 l x) := by
  have hl : x.toNat < l.length := by omega
  have e : rd_T37 l x = l[x.toNat] := by simp [rd_T37, List.getD, hl]
  rw [e, show (x + 1).toNat = x.toNat + 1 by omega, List.take_succ_eq_append_getElem hl, List.flatMap_append]
  simp
theorem nums_step (l : List Int) (x : Int) (h0 : 0 ≤ x) (h1 : x < l.length) : (l.take (x + 1).toNat).flatMap numB = (l.take x.toNat).flatMap numB ++ numB (l.getD x.toNat 0) := by
  have hl : x.toNat < l.length := by omega
  have e : l.getD x.toNat 0 = l[x.toNat] := by simp [List.getD, hl]
  rw [e, show (x + 1).toNat = x.toNat + 1 by omega, List.take_succ_eq_append_getElem hl, List.flatMap_append]
  simp
theorem cells_add (l m : List UInt8) : Lib.byteCells l ++ Lib.strCells ⟨m.toArray⟩ = Lib.byteCells (l ++ m) := by
  simp [Lib.byteCells, Lib.strCells]
theorem cells_len (l : List UInt8) : (Lib.byteCells l).length = l.length := by
  simp [Lib.byteCells]
end Go.Proofs.YtjhifhnjkpoofaaDoor.M
