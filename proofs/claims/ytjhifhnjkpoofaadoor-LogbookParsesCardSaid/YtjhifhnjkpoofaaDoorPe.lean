/-
  logbook.Parse, plain: what is read line by line; what is read is written as the same text; a log is read from its own text.
-/
import Derived.Test.YtjhifhnjkpoofaaDoorPd
import Derived.Test.YtjhifhnjkpoofaaDoorMD
namespace Go.Proofs.YtjhifhnjkpoofaaDoor.M
open Go.RowKit Go.Proofs.YtjhifhnjkpoofaaDoorG Go.Proofs.YtjhifhnjkpoofaaDoorW.PrintWords Go.Proofs.YtjhifhnjkpoofaaDoorW.PrintLast Go.Proofs.YtjhifhnjkpoofaaDoorW.PrintMore
set_option linter.unusedVariables false
set_option linter.unusedSimpArgs false
/-- Parse, line by line. -/
def parseP : Nat → List UInt8 → List S37 → Int → List S37 × Int × Int
  | 0, _, _, _ => ([], 0, 0)
  | k + 1, s, acc, n =>
    if s = [] then (if chk acc = 0 then (acc, 0, 0) else ([], 0, chk acc))
    else match entryOf (wordsOf (cutB 10 s).1 []) with
      | some x => if (cutB 10 s).2.2 = true then parseP k (cutB 10 s).2.1 (acc ++ [x]) (n + 1) else ([], n, 19)
      | none => ([], n, 19)
theorem cut_len (c : UInt8) : ∀ l, (cutB c l).1.length + (cutB c l).2.1.length ≤ l.length ∧ ((cutB c l).2.2 = true → (cutB c l).1.length + (cutB c l).2.1.length + 1 = l.length)
  | [] => by simp [cutB]
  | b :: l => by
    have ih := cut_len c l
    unfold cutB
    split
    · simp
    · simp only [List.length_cons]
      exact ⟨by omega, fun h => by have := ih.2 h; omega⟩
theorem size_list (a : ByteArray) : a.data.toList.length = a.size := by
  show a.data.toList.length = a.data.size
  simp
theorem parse_l0 : ∀ (k : Nat) (a : ByteArray) (acc : List S37) (n : Int), a.size < k → a.size ≤ 100000 → acc.length + a.size ≤ 100000 → 0 ≤ n → n + a.size ≤ 1000000 → logbook_Parse.l0 k a acc n = some (parseP k a.data.toList acc n)
  | 0, a, acc, n, hk, _, _, _, _ => by omega
  | k + 1, a, acc, n, hk, h1, h2, h3, h4 => by
    unfold logbook_Parse.l0 parseP
    rw [ByteArray.toList_eq]
    by_cases c : a.data.toList = []
    · rw [if_pos c, if_pos c]
      unfold logbook_Check.f
      rw [Option.bind_some]
      split <;> rfl
    · rw [if_neg c, if_neg c]
      unfold strings_Cut.f
      rw [if_pos (by omega), Option.bind_some]
      have hc : Lib.cut a.data.toList (⟨#[10]⟩ : ByteArray).data.toList = cutB 10 a.data.toList := cut_eq 10 _
      simp only [hc]
      have hl := cut_len 10 a.data.toList
      rw [size_list] at hl
      have hp : 0 < a.size := by
        rw [← size_list]
        exact List.length_pos_iff.2 c
      unfold logbook_readLine.f
      have hs1 : (⟨(cutB 10 a.data.toList).1.toArray⟩ : ByteArray).size = (cutB 10 a.data.toList).1.length := by
        show (cutB 10 a.data.toList).1.toArray.size = _
        simp
      rw [if_pos (by rw [hs1]; omega), Option.bind_some]
      have ho : outL (⟨(cutB 10 a.data.toList).1.toArray⟩ : ByteArray) = match entryOf (wordsOf (cutB 10 a.data.toList).1 []) with
        | some x => (x, true)
        | none => (⟨0, 0, 0, 0, 0, 0⟩, false) := by
        unfold outL
        have e : (⟨(cutB 10 a.data.toList).1.toArray⟩ : ByteArray).data.toList = (cutB 10 a.data.toList).1 := by simp
        rw [words_eq, e]
        rfl
      rw [ho]
      cases he : entryOf (wordsOf (cutB 10 a.data.toList).1 []) with
      | none => simp
      | some x =>
        simp only [if_true]
        by_cases hf : (cutB 10 a.data.toList).2.2 = true
        · rw [if_pos hf, if_pos hf]
          have hl2 := hl.2 hf
          rw [if_pos (by omega)]
          have hs2 : (⟨(cutB 10 a.data.toList).2.1.toArray⟩ : ByteArray).size = (cutB 10 a.data.toList).2.1.length := by
            show (cutB 10 a.data.toList).2.1.toArray.size = _
            simp
          have hw : wrap64 (n + 1) = n + 1 := by unfold wrap64; omega
          rw [hw, parse_l0 k _ _ _ (by rw [hs2]; omega) (by rw [hs2]; omega) (by rw [hs2, List.length_append]; simp only [List.length_cons, List.length_nil]; omega) (by omega) (by rw [hs2]; omega)]
        · rw [if_neg hf, if_neg hf]
theorem parse_f (k : Nat) (a : ByteArray) (hk : a.size < k) (h : a.size ≤ 65536) : logbook_Parse.f k a = some (parseP k a.data.toList [] 1) := by
  unfold logbook_Parse.f
  rw [if_neg (by omega)]
  exact parse_l0 k a [] 1 hk (by omega) (by simp; omega) (by decide) (by omega)
/-- What is read is written as the same text. -/
theorem parse_writes : ∀ (k : Nat) (s : List UInt8) (acc : List S37) (n : Int) (r : List S37 × Int × Int), s.length < k → 0 < n → parseP k s acc n = r →
    (r.2.2 = 0 → r.1.flatMap lineOf = acc.flatMap lineOf ++ s ∧ r.2.1 = 0 ∧ chk r.1 = 0) ∧ (r.2.2 ≠ 0 → r.1 = [] ∧ (decide (r.2.1 > 0) == (r.2.2 == 19)) = true)
  | 0, s, acc, n, r, hk, _, _ => by omega
  | k + 1, s, acc, n, r, hk, hn, hr => by
    unfold parseP at hr
    by_cases c : s = []
    · rw [if_pos c] at hr
      by_cases h : chk acc = 0
      · rw [if_pos h] at hr
        subst hr
        exact ⟨fun _ => ⟨by rw [c]; simp, rfl, h⟩, fun h => absurd rfl h⟩
      · rw [if_neg h] at hr
        subst hr
        refine ⟨fun h' => absurd h' h, fun _ => ⟨rfl, ?_⟩⟩
        have : (chk acc == 19) = false := beq_eq_false_iff_ne.mpr (chk_vals acc)
        simp [this]
    · rw [if_neg c] at hr
      cases he : entryOf (wordsOf (cutB 10 s).1 []) with
      | none =>
        simp only [he] at hr
        subst hr
        exact ⟨fun h => by simp at h, fun _ => ⟨rfl, by simp [hn]⟩⟩
      | some x =>
        simp only [he] at hr
        by_cases hf : (cutB 10 s).2.2 = true
        · rw [if_pos hf] at hr
          have hl := (cut_len 10 s).2 hf
          have ih := parse_writes k (cutB 10 s).2.1 (acc ++ [x]) (n + 1) r (by omega) (by omega) hr
          refine ⟨fun h => ?_, ih.2⟩
          obtain ⟨h1, h2, h3⟩ := ih.1 h
          refine ⟨?_, h2, h3⟩
          rw [h1, List.flatMap_append]
          simp only [List.flatMap_cons, List.flatMap_nil, List.append_nil]
          rw [entry_line he, List.append_assoc]
          congr 1
          conv => rhs; rw [cut_join 10 s hf]
          simp
        · rw [if_neg hf] at hr
          subst hr
          exact ⟨fun h => by simp at h, fun _ => ⟨rfl, by simp [hn]⟩⟩
/-- A log without error is read from its own text. -/
theorem parse_back : ∀ (l : List S37) (k : Nat) (acc : List S37) (n : Int), (l.flatMap lineOf).length < k → (∀ x ∈ l, errOf x = 0) → chk (acc ++ l) = 0 → parseP k (l.flatMap lineOf) acc n = (acc ++ l, 0, 0)
  | [], 0, acc, n, hk, _, _ => by simp at hk
  | [], k + 1, acc, n, hk, _, hc => by
    rw [List.append_nil] at hc ⊢
    unfold parseP
    rw [List.flatMap_nil, if_pos rfl, if_pos hc]
  | x :: l, 0, acc, n, hk, _, _ => by omega
  | x :: l, k + 1, acc, n, hk, he, hc => by
    have hx := he x List.mem_cons_self
    have e : (x :: l).flatMap lineOf = bodyOf x ++ 10 :: l.flatMap lineOf := by
      rw [List.flatMap_cons, line_body hx]; simp
    rw [e] at hk ⊢
    unfold parseP
    rw [if_neg (by simp), cut_app 10 _ (body_no x)]
    simp only [body_entry hx, if_true]
    rw [parse_back l k (acc ++ [x]) (n + 1) (by rw [List.length_append, List.length_cons] at hk; omega) (fun y hy => he y (List.mem_cons_of_mem _ hy)) (by simpa using hc)]
    simp
end Go.Proofs.YtjhifhnjkpoofaaDoor.M
