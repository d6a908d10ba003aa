/-
  What holds of the pairs of a valid log, plain.
-/
import Derived.Test.YtjhifhnjkpoofaaDoorExtC1
namespace Go.Proofs.YtjhifhnjkpoofaaDoor.M
open Go.RowKit Go.Proofs.YtjhifhnjkpoofaaDoorG Go.Proofs.YtjhifhnjkpoofaaDoorW.PrintWords Go.Proofs.YtjhifhnjkpoofaaDoorW.PrintLast Go.Proofs.YtjhifhnjkpoofaaDoorW.PrintMore
set_option linter.unusedVariables false
set_option linter.unusedSimpArgs false
def msgKey (x : S37) : Int × Int × Int := (x.f1, x.f2, x.f3)
theorem sent_spec (k : Int × Int × Int) : ∀ (l : List S37) (b : Int) (r : Option Int) (i : Int), sentFrom l b r k = some i → r = some i ∨ ∃ (j : Nat) (h : j < l.length), i = b + j ∧ (l[j]).f0 = 1 ∧ msgKey l[j] = k
  | [], b, r, i, h => .inl h
  | x :: l, b, r, i, h => by
    rw [sentFrom] at h
    rcases sent_spec k l (b + 1) _ i h with h1 | ⟨j, hj, h1, h2, h3⟩
    · split at h1
      · rename_i e
        injection h1 with h1
        exact .inr ⟨0, by simp, by simp [h1], e.1, e.2⟩
      · exact .inl h1
    · exact .inr ⟨j + 1, by simp; omega, by omega, by simpa using h2, by simpa using h3⟩
theorem sent_some (k : Int × Int × Int) : ∀ (l : List S37) (b : Int) (r : Option Int), (r ≠ none ∨ ∃ x ∈ l, x.f0 = 1 ∧ msgKey x = k) → sentFrom l b r k ≠ none
  | [], b, r, h => by
    rcases h with h | ⟨x, hx, _⟩
    · exact h
    · cases hx
  | x :: l, b, r, h => by
    rw [sentFrom]
    apply sent_some k l
    split
    · exact .inl (by simp)
    · rename_i e
      rcases h with h | ⟨y, hy, h1, h2⟩
      · exact .inl h
      · rcases List.mem_cons.1 hy with h3 | h3
        · rw [h3] at h1 h2; exact absurd ⟨h1, h2⟩ e
        · exact .inr ⟨y, h3, h1, h2⟩
def recvKey (x : S37) : Int × Int × Int := (x.f2, x.f1, x.f3)
theorem pairs_mem (g : Int × Int × Int → Option Int) : ∀ (l : List S37) (b : Int) (p : S33), p ∈ pairsFrom g l b ↔ ∃ (j : Nat) (h : j < l.length), p.f1 = b + j ∧ (l[j]).f0 = 2 ∧ g (recvKey l[j]) = some p.f0
  | [], b, p => by simp [pairsFrom]
  | x :: l, b, p => by
    have ih := pairs_mem g l (b + 1) p
    have hstep : (∃ (j : Nat) (h : j < (x :: l).length), p.f1 = b + j ∧ ((x :: l)[j]).f0 = 2 ∧ g (recvKey (x :: l)[j]) = some p.f0) ↔ (p.f1 = b ∧ x.f0 = 2 ∧ g (recvKey x) = some p.f0) ∨ ∃ (j : Nat) (h : j < l.length), p.f1 = b + 1 + j ∧ (l[j]).f0 = 2 ∧ g (recvKey l[j]) = some p.f0 := by
      constructor
      · rintro ⟨j, hj, h1, h2, h3⟩
        cases j with
        | zero => exact .inl ⟨by simpa using h1, by simpa using h2, by simpa using h3⟩
        | succ j => exact .inr ⟨j, by simpa using hj, by omega, by simpa using h2, by simpa using h3⟩
      · rintro (⟨h1, h2, h3⟩ | ⟨j, hj, h1, h2, h3⟩)
        · exact ⟨0, by simp, by simpa using h1, by simpa using h2, by simpa using h3⟩
        · exact ⟨j + 1, by simpa using hj, by omega, by simpa using h2, by simpa using h3⟩
    rw [hstep, ← ih]
    rw [show pairsFrom g (x :: l) b = if x.f0 = 2 then (match g (recvKey x) with | some k => (⟨k, b⟩ : S33) :: pairsFrom g l (b + 1) | none => pairsFrom g l (b + 1)) else pairsFrom g l (b + 1) from rfl]
    by_cases c : x.f0 = 2
    · rw [if_pos c]
      show p ∈ (match g (recvKey x) with | some k => (⟨k, b⟩ : S33) :: pairsFrom g l (b + 1) | none => pairsFrom g l (b + 1)) ↔ _
      cases hg : g (recvKey x) with
      | none => simp
      | some k =>
        simp only [List.mem_cons]
        constructor
        · rintro (h | h)
          · rw [h]; exact .inl ⟨rfl, c, rfl⟩
          · exact .inr h
        · rintro (⟨h1, _, h3⟩ | h)
          · injection h3 with h3
            left
            obtain ⟨a, d⟩ := p
            simp only at h1 h3
            rw [h1, h3]
          · exact .inr h
    · rw [if_neg c]
      simp [c]
theorem pairs_sorted (g : Int × Int × Int → Option Int) : ∀ (l : List S37) (b : Int), (pairsFrom g l b).Pairwise (fun p q => p.f1 < q.f1)
  | [], b => by simp [pairsFrom]
  | x :: l, b => by
    have ih := pairs_sorted g l (b + 1)
    unfold pairsFrom
    split
    · split
      · rename_i k hk
        refine List.Pairwise.cons ?_ ih
        intro q hq
        obtain ⟨j, hj, h1, _⟩ := (pairs_mem g l (b + 1) q).1 hq
        simp only
        omega
      · exact ih
    · exact ih
theorem names_apart : ∀ (l pre : List S37), chkFrom pre l = 0 → (∀ x ∈ l, (x.f0 = 1 ∨ x.f0 = 2) → seenIn pre (nameOf x) = false) ∧ l.Pairwise (fun x y => (y.f0 = 1 ∨ y.f0 = 2) → nameOf x ≠ nameOf y)
  | [], pre, _ => ⟨fun x hx => (by cases hx), List.Pairwise.nil⟩
  | x :: l, pre, h => by
    have h2 : ¬ ((x.f0 = 1 ∨ x.f0 = 2) ∧ seenIn pre (nameOf x) = true) ∧ chkFrom (x :: pre) l = 0 := by
      unfold chkFrom at h
      split at h
      · cases h
      · rename_i e
        refine ⟨e, ?_⟩
        split at h
        · split at h
          · cases h
          · exact h
        · exact h
    obtain ⟨ih1, ih2⟩ := names_apart l (x :: pre) h2.2
    have hcons : ∀ k, seenIn (x :: pre) k = false → nameOf x ≠ k ∧ seenIn pre k = false := by
      intro k hk
      unfold seenIn at hk ⊢
      simp only [List.any_cons, Bool.or_eq_false_iff, beq_eq_false_iff_ne] at hk
      exact hk
    refine ⟨?_, List.Pairwise.cons ?_ ih2⟩
    · intro y hy hm
      rcases List.mem_cons.1 hy with e | e
      · rw [e] at hm ⊢
        cases hs : seenIn pre (nameOf x) with
        | false => rfl
        | true => exact absurd ⟨hm, hs⟩ h2.1
      · exact (hcons _ (ih1 y e hm)).2
    · intro y hy hm
      exact (hcons _ (ih1 y hy hm)).1
/-- All that the law asks of the pairs. -/
structure PairsOk (l : List S37) (P : List S33) : Prop where
  low : ∀ p ∈ P, 0 ≤ p.f0 ∧ p.f0 < l.length ∧ 0 ≤ p.f1 ∧ p.f1 < l.length
  kinds : ∀ p ∈ P, (rd_T37 l p.f0).f0 = 1 ∧ (rd_T37 l p.f1).f0 = 2 ∧ (rd_T37 l p.f0).f1 = (rd_T37 l p.f1).f2 ∧ (rd_T37 l p.f0).f2 = (rd_T37 l p.f1).f1 ∧ (rd_T37 l p.f0).f3 = (rd_T37 l p.f1).f3
  rise : P.Pairwise (fun p q => p.f1 < q.f1)
  once : P.Pairwise (fun p q => p.f0 ≠ q.f0)
  all : ∀ i : Int, 0 ≤ i → i < l.length → (rd_T37 l i).f0 = 2 → (∀ p ∈ P, p.f1 ≠ i) → ∀ x ∈ l, ¬ (x.f0 = 1 ∧ x.f1 = (rd_T37 l i).f2 ∧ x.f2 = (rd_T37 l i).f1 ∧ x.f3 = (rd_T37 l i).f3)
theorem rd_nat (l : List S37) (j : Nat) (h : j < l.length) : rd_T37 l (j : Int) = l[j] := by simp [rd_T37, List.getD, h]
theorem pairs_ok (l : List S37) (h : chk l = 0) : PairsOk l (pairsFrom (sentFrom l 0 none) l 0) := by
  have hc : chkFrom [] l = 0 := by
    unfold chk at h
    split at h
    · cases h
    · split at h
      · exact h
      · rename_i a b; exact absurd h b
  have hap := (names_apart l [] hc).2
  have hone : ∀ p, p ∈ pairsFrom (sentFrom l 0 none) l 0 → ∃ (i j : Nat) (hi : i < l.length) (hj : j < l.length), p.f0 = i ∧ p.f1 = j ∧ (l[i]).f0 = 1 ∧ (l[j]).f0 = 2 ∧ msgKey l[i] = recvKey l[j] := by
    intro p hp
    obtain ⟨j, hj, h1, h2, h3⟩ := (pairs_mem _ l 0 p).1 hp
    rcases sent_spec _ l 0 none _ h3 with h4 | ⟨i, hi, h4, h5, h6⟩
    · cases h4
    · exact ⟨i, j, hi, hj, by omega, by omega, h5, h2, h6⟩
  refine ⟨?_, ?_, pairs_sorted _ l 0, ?_, ?_⟩
  · intro p hp
    obtain ⟨i, j, hi, hj, h1, h2, _⟩ := hone p hp
    omega
  · intro p hp
    obtain ⟨i, j, hi, hj, h1, h2, h3, h4, h5⟩ := hone p hp
    rw [h1, h2, rd_nat l i hi, rd_nat l j hj]
    unfold msgKey recvKey at h5
    injection h5 with e1 h5
    injection h5 with e2 e3
    exact ⟨h3, h4, e1, e2, e3⟩
  · refine List.Pairwise.imp_of_mem ?_ (pairs_sorted (sentFrom l 0 none) l 0)
    intro p q hp hq hlt he
    obtain ⟨i, j, hi, hj, h1, h2, h3, h4, h5⟩ := hone p hp
    obtain ⟨i', j', hi', hj', h1', h2', h3', h4', h5'⟩ := hone q hq
    have hii : i = i' := by omega
    subst hii
    have hjj : j < j' := by omega
    have := (List.pairwise_iff_getElem.1 hap) j j' hj hj' hjj (.inr h4')
    apply this
    have h6 : recvKey l[j] = recvKey l[j'] := h5.symm.trans h5'
    unfold recvKey at h6
    injection h6 with e1 h6
    injection h6 with e2 e3
    unfold nameOf
    rw [h4, h4', e1, e2, e3]
  · intro i h0 h1 h2 h3 x hx hxx
    obtain ⟨j, rfl⟩ : ∃ j : Nat, i = j := ⟨i.toNat, by omega⟩
    have hj : j < l.length := by omega
    rw [rd_nat l j hj] at h2 hxx
    have hs : sentFrom l 0 none (recvKey l[j]) ≠ none := by
      refine sent_some _ l 0 none (.inr ⟨x, hx, hxx.1, ?_⟩)
      unfold msgKey recvKey
      rw [hxx.2.1, hxx.2.2.1, hxx.2.2.2]
    cases hv : sentFrom l 0 none (recvKey l[j]) with
    | none => exact hs hv
    | some v => exact h3 ⟨v, j⟩ ((pairs_mem _ l 0 ⟨v, j⟩).2 ⟨j, hj, by simp, h2, hv⟩) rfl
/-! which entries are in a pair -/
def inPairs (P : List S33) (i : Nat) : Bool := P.any fun p => p.f0 == (i : Int) || p.f1 == (i : Int)
def usedCells (n : Nat) (u : Nat → Bool) : Array Value := ((List.range n).map fun i => Value.bool (u i)).toArray
theorem used_get (n : Nat) (u : Nat → Bool) (i : Nat) (h : i < n) : (usedCells n u)[i]? = some (.bool (u i)) := by
  simp [usedCells, h]
theorem used_set (n : Nat) (u : Nat → Bool) (i : Nat) : (usedCells n u).setIfInBounds i (.bool true) = usedCells n (fun j => if j = i then true else u j) := by
  unfold usedCells
  rw [List.setIfInBounds_toArray]
  congr 1
  apply List.ext_getElem
  · simp
  · intro j h1 h2
    simp only [List.length_set, List.length_map, List.length_range] at h1
    rw [List.getElem_set]
    simp only [List.getElem_map, List.getElem_range]
    by_cases c : i = j
    · rw [if_pos c, if_pos c.symm]
    · rw [if_neg c, if_neg (fun e => c e.symm)]
theorem inPairs_snoc (P : List S33) (p : S33) (h0 : 0 ≤ p.f0) (h1 : 0 ≤ p.f1) (j : Nat) : inPairs (P ++ [p]) j = if j = p.f1.toNat then true else if j = p.f0.toNat then true else inPairs P j := by
  unfold inPairs
  rw [List.any_append]
  simp only [List.any_cons, List.any_nil, Bool.or_false]
  by_cases c1 : j = p.f1.toNat
  · have : p.f1 = (j : Int) := by omega
    rw [if_pos c1, this, beq_self_eq_true, Bool.or_true, Bool.or_true]
  · by_cases c0 : j = p.f0.toNat
    · have e0 : (p.f0 == (j : Int)) = true := beq_iff_eq.2 (by omega)
      rw [if_neg c1, if_pos c0, e0]; simp
    · have e0 : (p.f0 == (j : Int)) = false := beq_eq_false_iff_ne.2 (by omega)
      have e1 : (p.f1 == (j : Int)) = false := beq_eq_false_iff_ne.2 (by omega)
      rw [if_neg c1, if_neg c0, e0, e1]; simp
theorem PairsOk.fresh {l : List S37} {P : List S33} (h : PairsOk l P) (z : Nat) (hz : z < P.length) : inPairs (P.take z) (P[z].f0).toNat = false ∧ inPairs (P.take z) (P[z].f1).toNat = false ∧ ∀ q ∈ P.drop (z + 1), P[z].f1 < q.f1 := by
  have hp := List.getElem_mem hz
  have hlow := h.low _ hp
  have hkin := h.kinds _ hp
  have hq : ∀ q ∈ P.take z, q ∈ P ∧ q.f0 ≠ P[z].f0 ∧ q.f1 < P[z].f1 := by
    intro q hq
    obtain ⟨i, hi, rfl⟩ := List.getElem_of_mem hq
    rw [List.length_take] at hi
    rw [List.getElem_take]
    exact ⟨List.getElem_mem _, List.pairwise_iff_getElem.1 h.once i z (by omega) hz (by omega), List.pairwise_iff_getElem.1 h.rise i z (by omega) hz (by omega)⟩
  have hne : ∀ a b : Int, (rd_T37 l a).f0 = 1 → (rd_T37 l b).f0 = 2 → a ≠ b := by
    rintro a b h1 h2 rfl
    rw [h1] at h2
    cases h2
  refine ⟨?_, ?_, ?_⟩
  · unfold inPairs
    rw [List.any_eq_false]
    intro q hq'
    obtain ⟨h1, h2, h3⟩ := hq q hq'
    have h4 := hne _ _ hkin.1 (h.kinds q h1).2.1
    have e1 : (q.f0 == (((P[z].f0).toNat : Nat) : Int)) = false := beq_eq_false_iff_ne.2 (by omega)
    have e2 : (q.f1 == (((P[z].f0).toNat : Nat) : Int)) = false := beq_eq_false_iff_ne.2 (by omega)
    rw [e1, e2]; decide
  · unfold inPairs
    rw [List.any_eq_false]
    intro q hq'
    obtain ⟨h1, h2, h3⟩ := hq q hq'
    have h4 := hne _ _ (h.kinds q h1).1 hkin.2.1
    have e1 : (q.f0 == (((P[z].f1).toNat : Nat) : Int)) = false := beq_eq_false_iff_ne.2 (by omega)
    have e2 : (q.f1 == (((P[z].f1).toNat : Nat) : Int)) = false := beq_eq_false_iff_ne.2 (by omega)
    rw [e1, e2]; decide
  · intro q hq'
    obtain ⟨i, hi, rfl⟩ := List.getElem_of_mem hq'
    rw [List.length_drop] at hi
    rw [List.getElem_drop]
    exact List.pairwise_iff_getElem.1 h.rise z (z + 1 + i) hz (by omega) (by omega)
theorem rd33_nat (P : List S33) (z : Nat) (h : z < P.length) : rd_T33 P (z : Int) = P[z] := by simp [rd_T33, List.getD, h]
theorem PairsOk.none_at {l : List S37} {P : List S33} (h : PairsOk l P) (x : Nat) (hx : x < l.length) (h2 : (rd_T37 l (x : Int)).f0 = 2) (hu : inPairs P x = false) (j : Nat) (hj : j < l.length) :
    ¬ ((rd_T37 l (j : Int)).f0 = 1 ∧ (rd_T37 l (j : Int)).f1 = (rd_T37 l (x : Int)).f2 ∧ (rd_T37 l (j : Int)).f2 = (rd_T37 l (x : Int)).f1 ∧ (rd_T37 l (j : Int)).f3 = (rd_T37 l (x : Int)).f3) := by
  refine h.all x (by omega) (by omega) h2 ?_ _ ?_
  · intro p hp e
    unfold inPairs at hu
    rw [List.any_eq_false] at hu
    apply hu p hp
    rw [e]
    simp
  · rw [rd_nat l j hj]
    exact List.getElem_mem hj
end Go.Proofs.YtjhifhnjkpoofaaDoor.M
