/-
  The pairs of a valid log: what the reference finds is what the program finds.
-/
import Derived.Test.YtjhifhnjkpoofaaDoorExtC1
import Derived.Test.YtjhifhnjkpoofaaDoorPa
import Derived.Test.YtjhifhnjkpoofaaDoorPb
import Derived.Test.YtjhifhnjkpoofaaDoorRowE
namespace Go.Proofs.YtjhifhnjkpoofaaDoor.M
open Go.RowKit Go.Proofs.YtjhifhnjkpoofaaDoorG Go.Proofs.YtjhifhnjkpoofaaDoorW.PrintWords Go.Proofs.YtjhifhnjkpoofaaDoorW.PrintLast Go.Proofs.YtjhifhnjkpoofaaDoorW.PrintMore
set_option linter.unusedVariables false
set_option linter.unusedSimpArgs false
/-- The indices of the sendings of a message. -/
def hitsFrom : List S37 → Int → Int × Int × Int → List Int
  | [], _, _ => []
  | x :: l, i, t => if x.f0 = 1 ∧ (x.f1, x.f2, x.f3) = t then i :: hitsFrom l (i + 1) t else hitsFrom l (i + 1) t
theorem hits_snoc (l : List S37) (x : S37) (t : Int × Int × Int) : ∀ i : Int, hitsFrom (l ++ [x]) i t = hitsFrom l i t ++ (if x.f0 = 1 ∧ (x.f1, x.f2, x.f3) = t then [i + l.length] else []) := by
  induction l with
  | nil => intro i; simp [hitsFrom]
  | cons a l ih =>
    intro i
    rw [List.cons_append, hitsFrom, ih, hitsFrom]
    simp only [List.length_cons]
    rw [show i + 1 + (l.length : Int) = i + ((l.length + 1 : Nat) : Int) by omega]
    split <;> rfl
theorem hits_none (l : List S37) (t : Int × Int × Int) (h : seenIn l (1, t) = false) : ∀ i, hitsFrom l i t = [] := by
  induction l with
  | nil => intro i; rfl
  | cons a l ih =>
    intro i
    unfold seenIn at h
    rw [List.any_cons, Bool.or_eq_false_iff] at h
    rw [hitsFrom, if_neg, ih h.2]
    rintro ⟨h1, h2⟩
    have := h.1
    rw [← h2] at this
    simp [nameOf, h1] at this
theorem chk_names (l : List S37) : ∀ pre, chkFrom pre l = 0 → ∀ (n : Nat) (h : n < l.length), l[n].f0 = 1 ∨ l[n].f0 = 2 → seenIn ((l.take n).reverse ++ pre) (nameOf l[n]) = false := by
  induction l with
  | nil => intro pre _ n h; simp at h
  | cons x l ih =>
    intro pre hc n h hm
    rw [chkFrom] at hc
    by_cases c : (x.f0 = 1 ∨ x.f0 = 2) ∧ seenIn pre (nameOf x) = true
    · rw [if_pos c] at hc; omega
    · rw [if_neg c] at hc
      have hc' : chkFrom (x :: pre) l = 0 := by
        cases hl : lastAt pre x.f1 with
        | none => rw [hl] at hc; exact hc
        | some b =>
          rw [hl] at hc
          simp only at hc
          split at hc
          · omega
          · exact hc
      cases n with
      | zero =>
        simp only [List.take_zero, List.reverse_nil, List.nil_append, List.getElem_cons_zero] at hm ⊢
        rw [Bool.eq_false_iff]
        exact fun e => c ⟨hm, e⟩
      | succ n =>
        have := ih (x :: pre) hc' n (by simpa using h) (by simpa using hm)
        rw [List.take_succ_cons, List.reverse_cons, List.append_assoc, List.singleton_append, List.getElem_cons_succ]
        exact this
theorem hits_sent (l : List S37) (hc : chkFrom [] l = 0) (t : Int × Int × Int) : ∀ n, n ≤ l.length → hitsFrom (l.take n) 0 t = (sentFrom (l.take n) 0 none t).toList := by
  intro n
  induction n with
  | zero => intro _; rfl
  | succ n ih =>
    intro hn
    have hl : n < l.length := by omega
    rw [List.take_succ_eq_append_getElem hl, hits_snoc, sent_snoc, ih (by omega)]
    by_cases m : l[n].f0 = 1 ∧ (l[n].f1, l[n].f2, l[n].f3) = t
    · rw [if_pos m, if_pos m]
      have h := chk_names l [] hc n hl (.inl m.1)
      rw [List.append_nil, seen_rev] at h
      have h2 : seenIn (l.take n) (1, t) = false := by
        have e : nameOf l[n] = (1, t) := by unfold nameOf; rw [← m.2, m.1]
        rw [← e]; exact h
      have h3 := hits_none (l.take n) t h2 0
      rw [ih (by omega)] at h3
      rw [h3]
      rfl
    · rw [if_neg m, if_neg m, List.append_nil]
/-- The reference's inner loop. -/
theorem pairs_l1 (l : List S37) (hl : l.length ≤ 512) (i : Int) (hi0 : 0 ≤ i) (hi : i < l.length) (h2 : (rd_T37 l i).f0 = 2) : ∀ (d k : Nat) (x : Int) (acc : List S33), (l.length - x).toNat = d → 0 ≤ x → x ≤ l.length → acc.length ≤ 600 * i + x →
    timesyncref50_Pairs.l1 (k + 2 * (d + 1)) l acc i x = timesyncref50_Pairs.l0 k l (acc ++ (hitsFrom (l.drop x.toNat) x ((rd_T37 l i).f2, (rd_T37 l i).f1, (rd_T37 l i).f3)).map fun j => ⟨j, i⟩) (i + 1) := by
  intro d
  induction d with
  | zero =>
    intro k x acc hd h0 h1 ha
    have hx : wrap64 (i + 1) = i + 1 := by unfold wrap64; omega
    rw [show k + 2 * (0 + 1) = k + 1 + 1 by omega]
    simp only [timesyncref50_Pairs.l1]
    rw [if_neg (by omega)]
    simp only [timesyncref50_Pairs.j2]
    rw [if_neg (by decide), hx, List.drop_eq_nil_of_le (by omega)]
    simp [hitsFrom]
  | succ d ih =>
    intro k x acc hd h0 h1 ha
    have hx : wrap64 (x + 1) = x + 1 := by unfold wrap64; omega
    have hlt : x < l.length := by omega
    have hltn : x.toNat < l.length := by omega
    have e : rd_T37 l x = l[x.toNat] := by simp [rd_T37, List.getD, hltn]
    rw [show k + 2 * (d + 1 + 1) = (k + 2 * (d + 1)) + 1 + 1 by omega]
    simp only [timesyncref50_Pairs.l1]
    rw [if_pos hlt, if_pos hi0, if_pos hi]
    simp only [timesyncref50_Pairs.j2]
    rw [if_pos (beq_iff_eq.mpr h2), if_pos h0, if_pos hlt, hx, List.drop_eq_getElem_cons hltn, hitsFrom, ← e, show x.toNat + 1 = (x + 1).toNat by omega]
    have next := fun acc' h => ih k (x + 1) acc' (by omega) (by omega) (by omega) h
    by_cases e0 : (rd_T37 l x).f0 = 1
    · rw [if_pos e0, if_pos hi0, if_pos hi]
      by_cases e1 : (rd_T37 l x).f1 = (rd_T37 l i).f2
      · rw [if_pos e1]
        by_cases e2 : (rd_T37 l x).f2 = (rd_T37 l i).f1
        · rw [if_pos e2]
          by_cases e3 : (rd_T37 l x).f3 = (rd_T37 l i).f3
          · rw [if_pos e3, if_pos (by omega), if_pos ⟨e0, by rw [e1, e2, e3]⟩, next _ (by rw [List.length_append]; simp; omega)]
            simp
          · rw [if_neg e3, if_neg (fun h => e3 (by injection h.2 with _ h; injection h with _ h)), next _ (by omega)]
        · rw [if_neg e2, if_neg (fun h => e2 (by injection h.2 with _ h; injection h with h _)), next _ (by omega)]
      · rw [if_neg e1, if_neg (fun h => e1 (by injection h.2 with h _)), next _ (by omega)]
    · rw [if_neg e0, if_neg (fun h => e0 h.1), next _ (by omega)]
theorem hits_len (l : List S37) (t : Int × Int × Int) : ∀ i, (hitsFrom l i t).length ≤ l.length := by
  induction l with
  | nil => intro i; simp [hitsFrom]
  | cons a l ih =>
    intro i
    rw [hitsFrom]
    have := ih (i + 1)
    split <;> simp <;> omega
set_option maxRecDepth 100000 in
theorem pairs_l0 (l : List S37) (hl : l.length ≤ 512) (hc : chkFrom [] l = 0) : ∀ (d k : Nat) (i : Int) (acc : List S33), (l.length - i).toNat = d → 0 ≤ i → i ≤ l.length → acc.length ≤ 600 * i → (d + 1) * 1100 ≤ k →
    timesyncref50_Pairs.l0 k l acc i = some (acc ++ pairsFrom (sentFrom l 0 none) (l.drop i.toNat) i) := by
  intro d
  induction d with
  | zero =>
    intro k i acc hd h0 h1 ha hk
    obtain ⟨k, rfl⟩ : ∃ m, k = m + 1 := ⟨k - 1, by omega⟩
    simp only [timesyncref50_Pairs.l0]
    rw [if_neg (by omega), List.drop_eq_nil_of_le (by omega)]
    simp [pairsFrom]
  | succ d ih =>
    intro k i acc hd h0 h1 ha hk
    have hk1 : (d + 1) * 1100 + 1100 ≤ k := by rw [← Nat.succ_mul]; exact hk
    clear hk
    generalize (d + 1) * 1100 = B at hk1 ih
    have hlt : i < l.length := by omega
    have hltn : i.toNat < l.length := by omega
    have e : rd_T37 l i = l[i.toNat] := by simp [rd_T37, List.getD, hltn]
    have hx : wrap64 (i + 1) = i + 1 := by unfold wrap64; omega
    have hst : pairsFrom (sentFrom l 0 none) (l.drop i.toNat) i = pairsFrom (sentFrom l 0 none) [rd_T37 l i] i ++ pairsFrom (sentFrom l 0 none) (l.drop (i + 1).toNat) (i + 1) := by
      rw [List.drop_eq_getElem_cons hltn, ← e, show i.toNat + 1 = (i + 1).toNat by omega, pairsFrom, pairsFrom]
      split
      · split <;> simp [pairsFrom]
      · simp [pairsFrom]
    by_cases h2 : (rd_T37 l i).f0 = 2
    · obtain ⟨k, rfl⟩ : ∃ m, k = (m + 2 * (l.length + 1)) + 1 := ⟨k - 1 - 2 * (l.length + 1), by omega⟩
      simp only [timesyncref50_Pairs.l0]
      have h := pairs_l1 l hl i h0 hlt h2 l.length k 0 acc (by omega) (by omega) (by omega) (by omega)
      have hs := hits_sent l hc ((rd_T37 l i).f2, (rd_T37 l i).f1, (rd_T37 l i).f3) l.length (Nat.le_refl _)
      rw [List.take_length] at hs
      rw [show (0 : Int).toNat = 0 from rfl, List.drop_zero, hs] at h
      have hlen : (sentFrom l 0 none ((rd_T37 l i).f2, (rd_T37 l i).f1, (rd_T37 l i).f3)).toList.length ≤ 1 := by cases sentFrom l 0 none ((rd_T37 l i).f2, (rd_T37 l i).f1, (rd_T37 l i).f3) <;> simp
      have hk' : B ≤ k := by omega
      have h3 := ih k (i + 1) (acc ++ (sentFrom l 0 none ((rd_T37 l i).f2, (rd_T37 l i).f1, (rd_T37 l i).f3)).toList.map fun j => (⟨j, i⟩ : S33)) (by omega) (by omega) (by omega) (by rw [List.length_append, List.length_map]; omega) hk'
      rw [if_pos hlt, h, h3, hst, List.append_assoc]
      congr 2
      rw [pairsFrom, if_pos h2]
      cases sentFrom l 0 none ((rd_T37 l i).f2, (rd_T37 l i).f1, (rd_T37 l i).f3) <;> simp [pairsFrom]
    · obtain ⟨k, rfl⟩ : ∃ m, k = m + 1 + 1 + 1 := ⟨k - 3, by omega⟩
      simp only [timesyncref50_Pairs.l0]
      rw [if_pos hlt]
      simp only [timesyncref50_Pairs.l1]
      rw [if_pos (by omega), if_pos h0, if_pos hlt]
      simp only [timesyncref50_Pairs.j2]
      have hk' : B ≤ k := by omega
      have h3 := ih k (i + 1) acc (by omega) (by omega) (by omega) (by omega) hk'
      rw [if_neg (by simp [h2]), hx, h3, hst]
      simp [pairsFrom, h2]
theorem refpairs_eq (l : List S37) : timesyncref50_Pairs.f 600000 l = some (if chk l = 0 then pairsFrom (sentFrom l 0 none) l 0 else []) := by
  unfold timesyncref50_Pairs.f
  rw [refcheck_eq l 600000 (by decide), Option.bind_some]
  by_cases c : chk l = 0
  · rw [if_pos c, if_pos c]
    have hc : chkFrom [] l = 0 ∧ l.length ≤ 512 := by
      unfold chk at c
      split at c
      · omega
      · split at c
        · exact ⟨c, by omega⟩
        · rename_i h; exact absurd c h
    rw [pairs_l0 l hc.2 hc.1 _ 600000 0 [] rfl (by omega) (by omega) (by simp) (by omega)]
    rfl
  · rw [if_neg c, if_neg c]
theorem pure_LogbookPairs (l0 : List S37) (h0 : ∀ x ∈ l0, WfE x) : ∃ k, timesynclaw50_LogbookPairs.f k l0 = some true := by
  refine ⟨600000, ?_⟩
  unfold timesynclaw50_LogbookPairs.f
  by_cases c : (l0.length : Int) > 600
  · rw [if_pos c]
  · rw [if_neg c, refpairs_eq l0, awake_at 600000 (by decide)]
    unfold logbook_Pairs.f slices_Equal_2_int_2_int.f
    simp
end Go.Proofs.YtjhifhnjkpoofaaDoor.M
