/-
  Lines and words, plain: where a line is cut, what a line's words are, numbers written and read again.
-/
import Derived.Test.YtjhifhnjkpoofaaDoorExtD
import Derived.Lib.SplitLaws
namespace Go.Proofs.YtjhifhnjkpoofaaDoor.M
open Go.RowKit Go.Proofs.YtjhifhnjkpoofaaDoorG Go.Proofs.YtjhifhnjkpoofaaDoorW.PrintWords Go.Proofs.YtjhifhnjkpoofaaDoorW.PrintLast Go.Proofs.YtjhifhnjkpoofaaDoorW.PrintMore
set_option linter.unusedVariables false
set_option linter.unusedSimpArgs false
theorem index_one (b c : UInt8) (l : List UInt8) : Lib.index (b :: l) [c] = if b = c then 0 else if Lib.index l [c] = -1 then -1 else Lib.index l [c] + 1 := by
  conv => lhs; unfold Lib.index
  by_cases h : b = c
  · subst h
    simp [List.isPrefixOf]
  · have h2 : (c == b) = false := beq_eq_false_iff_ne.mpr (fun e => h e.symm)
    simp [List.isPrefixOf, h, h2]
theorem index_ge' (l m : List UInt8) : -1 ≤ Lib.index l m := Lib.index_ge l m
/-- What stands before the first c, what behind it, and whether there is one. -/
def cutB (c : UInt8) : List UInt8 → List UInt8 × List UInt8 × Bool
  | [] => ([], [], false)
  | b :: l => if b = c then ([], l, true) else (b :: (cutB c l).1, (cutB c l).2.1, (cutB c l).2.2)
theorem cut_eq (c : UInt8) : ∀ l, Lib.cut l [c] = cutB c l
  | [] => rfl
  | b :: l => by
    have ih := cut_eq c l
    unfold Lib.cut at ih ⊢
    rw [index_one]
    unfold cutB
    by_cases h : b = c
    · rw [if_pos h, if_pos h]; simp
    · rw [if_neg h, if_neg h, ← ih]
      have hg := index_ge' l [c]
      by_cases h1 : Lib.index l [c] = -1
      · rw [if_pos h1, h1]; simp
      · rw [if_neg h1, if_pos (by omega), if_pos (by omega)]
        have e : (Lib.index l [c] + 1).toNat = (Lib.index l [c]).toNat + 1 := by omega
        rw [e]
        simp
/-- The words between the c's. -/
def wordsC (c : UInt8) : List UInt8 → List (List UInt8)
  | [] => [[]]
  | b :: l => if b = c then [] :: wordsC c l else (b :: (wordsC c l).headD []) :: (wordsC c l).tail
theorem wordsC_ne (c : UInt8) : ∀ l, wordsC c l ≠ []
  | [] => by simp [wordsC]
  | b :: l => by unfold wordsC; split <;> simp
theorem headTail (l : List (List UInt8)) (h : l ≠ []) : l.headD [] :: l.tail = l := by
  cases l with
  | nil => exact absurd rfl h
  | cons a t => rfl
theorem splitK_succ (sep : List UInt8) (k : Nat) (s : List UInt8) : Lib.splitK sep 0 (k + 1) s = if Lib.index s sep == -1 then [s] else s.take ((Lib.index s sep).toNat + 0) :: Lib.splitK sep 0 k (s.drop ((Lib.index s sep).toNat + sep.length)) := rfl
theorem wordsC_cons (c b : UInt8) (l : List UInt8) : wordsC c (b :: l) = if b = c then [] :: wordsC c l else (b :: (wordsC c l).headD []) :: (wordsC c l).tail := rfl
theorem splitK_eq (c : UInt8) : ∀ (l : List UInt8) (k : Nat), l.count c ≤ k → Lib.splitK [c] 0 k l = wordsC c l
  | [], 0, _ => rfl
  | [], k + 1, _ => by unfold Lib.splitK; simp [Lib.index, wordsC]
  | b :: l, 0, h => by
    have h1 : b ≠ c := by
      intro e; subst e; simp at h
    have h2 : l.count c ≤ 0 := by rw [List.count_cons_of_ne h1] at h; exact h
    have ih := splitK_eq c l 0 h2
    unfold wordsC
    rw [if_neg h1, ← ih]
    rfl
  | b :: l, k + 1, h => by
    rw [splitK_succ, wordsC_cons, index_one]
    by_cases h1 : b = c
    · have h2 : l.count c ≤ k := by subst h1; simp at h; omega
      have ih := splitK_eq c l k h2
      rw [if_pos h1, if_pos h1, ← ih]
      simp
    · have h2 : l.count c ≤ k + 1 := by rw [List.count_cons_of_ne h1] at h; exact h
      have ih := splitK_eq c l (k + 1) h2
      rw [if_neg h1, if_neg h1, ← ih, splitK_succ]
      have hg := index_ge' l [c]
      by_cases h3 : Lib.index l [c] = -1
      · rw [if_pos h3, h3]; simp
      · have e0 : (Lib.index l [c] + 1 == -1) = false := beq_eq_false_iff_ne.mpr (by omega)
        have e1 : (Lib.index l [c] == -1) = false := beq_eq_false_iff_ne.mpr h3
        have e : (Lib.index l [c] + 1).toNat = (Lib.index l [c]).toNat + 1 := by omega
        rw [if_neg h3, e0, e1, e]
        simp
theorem wordsOf_map (l : List UInt8) : ∀ acc, (wordsOf l acc).map (·.data.toList) = (acc ++ (wordsC 32 l).headD []) :: (wordsC 32 l).tail := by
  induction l with
  | nil => intro acc; simp [wordsOf, wordsC]
  | cons b l ih =>
    intro acc
    unfold wordsOf wordsC
    by_cases h : b = 32
    · rw [if_pos h, if_pos h, List.map_cons, ih, List.nil_append, headTail _ (wordsC_ne _ _)]
      simp
    · rw [if_neg h, if_neg h, ih]
      simp
theorem map_data_inj : ∀ {a b : List ByteArray}, a.map (·.data.toList) = b.map (·.data.toList) → a = b
  | [], [], _ => rfl
  | [], _ :: _, h => by simp at h
  | _ :: _, [], h => by simp at h
  | x :: a, y :: b, h => by
    simp only [List.map_cons, List.cons.injEq] at h
    rw [map_data_inj h.2]
    congr 1
    apply ByteArray.ext
    exact Array.toList_inj.1 h.1
theorem words_map (a : ByteArray) : (wordsL a).map (·.data.toList) = wordsC 32 a.data.toList := by
  unfold wordsL
  rw [Lib.splitB_data]
  show Lib.splitK [32] 0 (Lib.count a.data.toList [32]) a.data.toList = _
  exact splitK_eq 32 _ _ (by rw [Lib.count_one]; exact Nat.le_refl _)
theorem words_eq (a : ByteArray) : wordsL a = wordsOf a.data.toList [] := by
  apply map_data_inj
  rw [words_map, wordsOf_map, List.nil_append, headTail _ (wordsC_ne _ _)]
/-! words joined again -/
def joinC (c : UInt8) : List (List UInt8) → List UInt8
  | [] => []
  | [w] => w
  | w :: v :: l => w ++ c :: joinC c (v :: l)
theorem joinC_cons (c b : UInt8) (w : List UInt8) (l : List (List UInt8)) : joinC c ((b :: w) :: l) = b :: joinC c (w :: l) := by
  cases l <;> simp [joinC]
theorem join_words (c : UInt8) : ∀ l, joinC c (wordsC c l) = l
  | [] => rfl
  | b :: l => by
    have ih := join_words c l
    have hn := headTail _ (wordsC_ne c l)
    unfold wordsC
    split
    · rename_i h
      rw [← hn]
      simp only [joinC]
      rw [hn, ih, h]
      rfl
    · rw [joinC_cons, hn, ih]
theorem words_none (c : UInt8) : ∀ {w : List UInt8}, c ∉ w → wordsC c w = [w]
  | [], _ => rfl
  | b :: w, h => by
    have h1 : b ≠ c := fun e => h (by rw [e]; exact List.mem_cons_self)
    have ih := words_none c (w := w) (fun e => h (List.mem_cons_of_mem _ e))
    unfold wordsC
    rw [if_neg h1, ih]; rfl
theorem words_app (c : UInt8) (r : List UInt8) : ∀ {w : List UInt8}, c ∉ w → wordsC c (w ++ c :: r) = w :: wordsC c r
  | [], _ => by simp [wordsC]
  | b :: w, h => by
    have h1 : b ≠ c := fun e => h (by rw [e]; exact List.mem_cons_self)
    have ih := words_app c r (w := w) (fun e => h (List.mem_cons_of_mem _ e))
    rw [List.cons_append, wordsC_cons, if_neg h1, ih]; rfl
theorem words_join (c : UInt8) : ∀ {l : List (List UInt8)}, l ≠ [] → (∀ w ∈ l, c ∉ w) → wordsC c (joinC c l) = l
  | [], h, _ => absurd rfl h
  | [w], _, h => words_none c (h w List.mem_cons_self)
  | w :: v :: l, _, h => by
    have ih := words_join c (l := v :: l) (by simp) (fun u hu => h u (List.mem_cons_of_mem _ hu))
    simp only [joinC]
    rw [words_app c _ (h w List.mem_cons_self), ih]
theorem cut_app (c : UInt8) (r : List UInt8) : ∀ {w : List UInt8}, c ∉ w → cutB c (w ++ c :: r) = (w, r, true)
  | [], _ => by simp [cutB]
  | b :: w, h => by
    have h1 : b ≠ c := fun e => h (by rw [e]; exact List.mem_cons_self)
    have ih := cut_app c r (w := w) (fun e => h (List.mem_cons_of_mem _ e))
    rw [List.cons_append]
    unfold cutB
    rw [if_neg h1, ih]
theorem cut_join (c : UInt8) : ∀ l, (cutB c l).2.2 = true → l = (cutB c l).1 ++ c :: (cutB c l).2.1
  | [], h => by simp [cutB] at h
  | b :: l, h => by
    unfold cutB at h ⊢
    split
    · rename_i e; simp [e]
    · rename_i e
      rw [if_neg e] at h
      simp only [List.cons_append]
      rw [← cut_join c l h]
theorem cut_all (c : UInt8) : ∀ l, (cutB c l).2.2 = false → (cutB c l).1 = l ∧ c ∉ l
  | [], _ => by simp [cutB]
  | b :: l, h => by
    unfold cutB at h ⊢
    split
    · rename_i e; rw [if_pos e] at h; cases h
    · rename_i e
      rw [if_neg e] at h
      have ih := cut_all c l h
      simp only [ih.1, true_and, List.mem_cons, not_or]
      exact ⟨fun x => e x.symm, ih.2⟩
theorem cut_pre (c : UInt8) : ∀ l, c ∉ (cutB c l).1
  | [] => by simp [cutB]
  | b :: l => by
    unfold cutB
    split
    · simp
    · rename_i e
      have ih := cut_pre c l
      simp only [List.mem_cons, not_or]
      exact ⟨fun x => e x.symm, ih⟩
/-! numbers written and read again -/
theorem dec_big {u : Nat} (h : ¬ u < 10) : Lib.decDigits u = Lib.decDigits (u / 10) ++ [UInt8.ofNat (48 + u % 10)] := by rw [Lib.decDigits, dif_neg h]
theorem digit_nat (d : Nat) (h : d < 10) : (UInt8.ofNat (48 + d)).toNat = 48 + d := by
  simp [UInt8.toNat_ofNat']; omega
theorem dec_chars : ∀ (u : Nat), ∀ b ∈ Lib.decDigits u, 48 ≤ b.toNat ∧ b.toNat ≤ 57 := by
  intro u
  induction u using Nat.strongRecOn with
  | _ u ih =>
    intro b hb
    by_cases h : u < 10
    · rw [Lib.decDigits_one h] at hb
      rw [List.mem_singleton.1 hb, digit_nat u h]; omega
    · rw [dec_big h] at hb
      rcases List.mem_append.1 hb with h1 | h1
      · exact ih (u / 10) (by omega) b h1
      · rw [List.mem_singleton.1 h1, digit_nat _ (Nat.mod_lt _ (by decide))]; omega
theorem itoa_chars (n : Int) : ∀ b ∈ Lib.itoa n, b.toNat = 45 ∨ (48 ≤ b.toNat ∧ b.toNat ≤ 57) := by
  intro b hb
  unfold Lib.itoa at hb
  split at hb
  · rcases List.mem_cons.1 hb with h | h
    · rw [h]; left; rfl
    · exact .inr (dec_chars _ b h)
  · exact .inr (dec_chars _ b hb)
theorem dec_ne (u : Nat) : Lib.decDigits u ≠ [] := by
  by_cases h : u < 10
  · rw [Lib.decDigits_one h]; simp
  · rw [dec_big h]; simp
theorem parse_snoc (d : Nat) (hd : d < 10) : ∀ (l : List UInt8) (acc m : Nat), Lib.parseUint10 acc l = .ok m → m < 1000000000000000000 → Lib.parseUint10 acc (l ++ [UInt8.ofNat (48 + d)]) = .ok (m * 10 + d)
  | [], acc, m, h, hm => by
    simp only [Lib.parseUint10] at h
    injection h with h
    subst h
    simp only [List.nil_append, Lib.parseUint10, digit_nat d hd]
    rw [if_pos (by omega), if_neg (by omega), if_neg (by omega)]
    congr 1
    omega
  | c :: l, acc, m, h, hm => by
    simp only [List.cons_append, Lib.parseUint10] at h ⊢
    split at h
    · rename_i h1
      rw [if_pos h1]
      split at h
      · cases h
      · rename_i h2
        rw [if_neg h2]
        split at h
        · cases h
        · rename_i h3
          rw [if_neg h3]
          exact parse_snoc d hd l _ m h hm
    · cases h
theorem parse_dec : ∀ (u : Nat), u < 1000000000000000000 → Lib.parseUint10 0 (Lib.decDigits u) = .ok u := by
  intro u
  induction u using Nat.strongRecOn with
  | _ u ih =>
    intro hu
    by_cases h : u < 10
    · rw [Lib.decDigits_one h]
      have := parse_snoc u h [] 0 0 rfl (by decide)
      simpa using this
    · rw [dec_big h, parse_snoc (u % 10) (Nat.mod_lt _ (by decide)) _ 0 (u / 10) (ih (u / 10) (by omega) (by omega)) (by omega)]
      congr 1
      omega
theorem atoi_itoa (n : Int) (h0 : -1000000000000000000 < n) (h1 : n < 1000000000000000000) : Lib.atoiAll (Lib.itoa n) = .ok n := by
  unfold Lib.itoa
  split
  · rename_i h
    unfold Lib.atoiAll
    have hp : Lib.parseMag (Lib.decDigits n.natAbs) = .ok n.natAbs := by
      unfold Lib.parseMag
      rw [if_neg (dec_ne _), parse_dec _ (by omega)]
    have e : (45 : UInt8).toNat = 45 := rfl
    simp only [e, or_true, if_true, hp]
    rw [if_neg (by simp), if_neg (by omega)]
    congr 1
    omega
  · rename_i h
    have hp : Lib.parseMag (Lib.decDigits n.toNat) = .ok n.toNat := by
      unfold Lib.parseMag
      rw [if_neg (dec_ne _), parse_dec _ (by omega)]
    cases hd : Lib.decDigits n.toNat with
    | nil => exact absurd hd (dec_ne _)
    | cons c r =>
      have hc := dec_chars n.toNat c (by rw [hd]; exact List.mem_cons_self)
      unfold Lib.atoiAll
      have e1 : ¬ (c.toNat = 43) := by omega
      have e2 : ¬ (c.toNat = 45) := by omega
      rw [hd] at hp
      simp only [e1, or_false, if_false, e2]
      rw [hp]
      simp only [not_false_eq_true, true_and, false_and, if_false]
      rw [if_neg (by omega)]
      congr 1
      omega
theorem canon_itoa (n : Int) (h0 : -1000000000000000000 < n) (h1 : n < 1000000000000000000) : canon ⟨(Lib.itoa n).toArray⟩ = some n := by
  unfold canon
  rw [show (⟨(Lib.itoa n).toArray⟩ : ByteArray).data.toList = Lib.itoa n by simp, atoi_itoa n h0 h1]
  simp
theorem canon_some {s : ByteArray} {n : Int} (h : canon s = some n) : s.data.toList = Lib.itoa n := by
  unfold canon at h
  split at h
  · split at h
    · rename_i e
      injection h with h
      rw [← h, e]
    · cases h
  · cases h
theorem canons_map : ∀ {l : List ByteArray} {ns : List Int}, canons l = some ns → l.map (·.data.toList) = ns.map Lib.itoa
  | [], ns, h => by
    unfold canons at h
    injection h with h
    subst h; rfl
  | s :: l, ns, h => by
    unfold canons at h
    split at h
    · rename_i v vs h1 h2
      injection h with h
      subst h
      rw [List.map_cons, List.map_cons, canon_some h1, canons_map h2]
    · cases h
theorem canons_itoa : ∀ (ns : List Int), (∀ n ∈ ns, -1000000000000000000 < n ∧ n < 1000000000000000000) → canons (ns.map fun n => ⟨(Lib.itoa n).toArray⟩) = some ns
  | [], _ => rfl
  | n :: ns, h => by
    have h1 := h n List.mem_cons_self
    rw [List.map_cons]
    unfold canons
    rw [canon_itoa n h1.1 h1.2, canons_itoa ns (fun m hm => h m (List.mem_cons_of_mem _ hm))]
end Go.Proofs.YtjhifhnjkpoofaaDoor.M
