/-
  The two parses agree.
-/
import Derived.Test.YtjhifhnjkpoofaaDoorPi
import Derived.Test.YtjhifhnjkpoofaaDoorPe
import Derived.Test.YtjhifhnjkpoofaaDoorPb
namespace Go.Proofs.YtjhifhnjkpoofaaDoor.M
open Go.RowKit Go.Proofs.YtjhifhnjkpoofaaDoorG Go.Proofs.YtjhifhnjkpoofaaDoorW.PrintWords Go.Proofs.YtjhifhnjkpoofaaDoorW.PrintLast Go.Proofs.YtjhifhnjkpoofaaDoorW.PrintMore
set_option linter.unusedVariables false
set_option linter.unusedSimpArgs false
theorem cut_none (c : UInt8) : ∀ {w : List UInt8}, c ∉ w → cutB c w = (w, [], false)
  | [], _ => rfl
  | b :: w, h => by
    have h1 : b ≠ c := fun e => h (by rw [e]; exact List.mem_cons_self)
    have ih := cut_none c (w := w) (fun e => h (List.mem_cons_of_mem _ e))
    unfold cutB
    rw [if_neg h1, ih]
theorem wrap_small (n : Int) (h0 : 0 ≤ n) (h1 : n ≤ 1000000000) : wrap64 n = n := by unfold wrap64; omega
theorem wrap_len (n m : Nat) (h : n + m ≤ 100000) : wrap64 ((n : Int) + 1) = (n : Int) + 1 := by unfold wrap64; omega
theorem wrap_at (i : Nat) (h : i ≤ 100000) : wrap64 ((i : Int) + 1) = ((i + 1 : Nat) : Int) := by unfold wrap64; omega
set_option maxHeartbeats 2000000 in
theorem refparse_loop (a : ByteArray) (ha : a.size ≤ 60000) : ∀ (j k K i f : Nat) (acc : List S37), i + j = a.size → j + 3000 ≤ k → j + 2 ≤ K → a.size - f + 2 ≤ K → f ≤ i → acc.length + j ≤ 100000 → (10 : UInt8) ∉ (a.data.toList.take i).drop f →
    timesyncref50_Parse.l0 k a acc (f : Int) (i : Int) = some (parseP K (a.data.toList.drop f) acc ((acc.length : Int) + 1)) := by
  intro j
  induction j with
  | zero =>
    intro k K i f acc hj hk hK hK2 hf hl hno0
    have HNO := Aside0.mk hno0
    clear hno0
    have hs := sizeL a
    obtain ⟨k, rfl⟩ : ∃ q, k = q + 1 := ⟨k - 1, by omega⟩
    obtain ⟨K, rfl⟩ : ∃ q, K = q + 1 := ⟨K - 1, by omega⟩
    have hw : wrap64 ((acc.length : Int) + 1) = (acc.length : Int) + 1 := wrap_len _ _ hl
    have hno := HNO.out
    rw [List.take_of_length_le (by omega)] at hno
    clear HNO
    have HNO := Aside0.mk hno
    clear hno
    simp only [timesyncref50_Parse.l0]
    unfold parseP
    rw [if_neg (by omega), hw]
    by_cases c : f < a.size
    · have hne : a.data.toList.drop f ≠ [] := by
        intro e
        have := congrArg List.length e
        rw [List.length_drop] at this
        simp only [List.length_nil] at this
        omega
      rw [if_pos (by omega), if_neg hne, cut_none 10 HNO.out]
      simp only
      cases entryOf (wordsOf (a.data.toList.drop f) []) with
      | none => rfl
      | some x => rfl
    · have he : a.data.toList.drop f = [] := List.drop_of_length_le (by omega)
      rw [if_neg (by omega), if_pos he, refcheck_eq acc k (by omega), Option.bind_some]
      split <;> rfl
  | succ j ih =>
    intro k K i f acc hj hk hK hK2 hf hl hno0
    have HNO := Aside0.mk hno0
    clear hno0
    have hs := sizeL a
    obtain ⟨k, rfl⟩ : ∃ q, k = q + 1 := ⟨k - 1, by omega⟩
    have hi : i < a.data.toList.length := by omega
    have hb := bt_get a i hi
    have hex : a.extract f i = ⟨((a.data.toList.take i).drop f).toArray⟩ := mk_eq (by rw [Lib.extract_data, List.drop_take])
    have hw : wrap64 ((i : Int) + 1) = ((i + 1 : Nat) : Int) := wrap_at i (by omega)
    have hwl : wrap64 ((acc.length : Int) + 1) = (acc.length : Int) + 1 := wrap_len _ _ hl
    have HBB := Aside0.mk hb
    have HWW := Aside0.mk hw
    have HWL := Aside0.mk hwl
    clear hb hw hwl
    have HTS : Aside0 (a.data.toList.take (i + 1) = a.data.toList.take i ++ [a.data.toList[i]]) := ⟨List.take_succ_eq_append_getElem hi⟩
    have r1 : (i : Int) < (a.size : Int) := by omega
    have r2 : (0 : Int) ≤ (i : Int) := by omega
    have q1 : (0 : Int) ≤ (f : Int) := by omega
    have q2 : (f : Int) ≤ (i : Int) := by omega
    have q3 : (i : Int) ≤ (a.size : Int) := by omega
    have q4 : acc.length < 2932031007402 := Nat.lt_of_le_of_lt (Nat.le_trans (Nat.le_add_right _ _) hl) (by decide)
    have g1 : i + 1 + j = a.size := by omega
    have g2 : j + 3000 ≤ k := by omega
    have g4 : acc.length + 1 + j ≤ 100000 := by omega
    have g5 : f ≤ i + 1 := by omega
    have g6 : f ≤ (a.data.toList.take i).length := by rw [List.length_take]; omega
    have g7 : ((a.data.toList.take i).drop f).length ≤ 100000 := by rw [List.length_drop, List.length_take]; omega
    have g8 : acc.length + j ≤ 100000 := by omega
    simp only [timesyncref50_Parse.l0]
    rw [if_pos r1, if_pos r2, HBB.out]
    by_cases c : a.data.toList[i] = 10
    · have hb10 : ((a.data.toList[i]).toNat : Int) = 10 := by rw [c]; rfl
      rw [if_pos hb10, if_pos q1, if_pos q2, if_pos q3, Int.toNat_natCast, Int.toNat_natCast, hex, HWW.out, HWL.out]
      have hsplit : a.data.toList.drop f = (a.data.toList.take i).drop f ++ 10 :: a.data.toList.drop (i + 1) := by
        have h1 : a.data.toList = a.data.toList.take i ++ a.data.toList[i] :: a.data.toList.drop (i + 1) := by
          rw [← List.drop_eq_getElem_cons hi, List.take_append_drop]
        conv => lhs; rw [h1]
        rw [List.drop_append_of_le_length g6, c]
      obtain ⟨K, rfl⟩ : ∃ q, K = q + 1 := ⟨K - 1, by omega⟩
      unfold parseP timesyncref50_entry.f
      have n1 : ¬ ((a.data.toList.take i).drop f ++ 10 :: a.data.toList.drop (i + 1) = []) := by simp
      have n2 : (⟨((a.data.toList.take i).drop f).toArray⟩ : ByteArray).size ≤ 100000 := by rw [mk_size]; exact g7
      rw [hsplit, if_neg n1, cut_app 10 _ HNO.out, if_pos n2, Option.bind_some]
      rw [show (⟨((a.data.toList.take i).drop f).toArray⟩ : ByteArray).data.toList = (a.data.toList.take i).drop f by simp]
      simp only
      cases he : entryOf (wordsOf ((a.data.toList.take i).drop f) []) with
      | none => rfl
      | some x =>
        simp only [if_true]
        rw [if_pos q4]
        rw [ih k K (i + 1) (i + 1) (acc ++ [x]) g1 g2 (by omega) (by omega) (Nat.le_refl _) (by simp only [List.length_append, List.length_cons, List.length_nil]; exact g4) (by rw [List.drop_of_length_le (by rw [List.length_take]; omega)]; simp)]
        simp only [List.length_append, List.length_cons, List.length_nil]
        congr 2
    · have hc : ¬ ((a.data.toList[i]).toNat : Int) = 10 := by
        intro e
        apply c
        apply UInt8.toNat_inj.1
        have h2 : (10 : UInt8).toNat = 10 := rfl
        omega
      rw [if_neg hc, HWW.out]
      refine ih k K (i + 1) f acc g1 g2 (by omega) hK2 g5 g8 ?_
      rw [HTS.out, List.drop_append_of_le_length g6]
      intro h
      rcases List.mem_append.1 h with h | h
      · exact HNO.out h
      · exact c (List.mem_singleton.1 h).symm
theorem same_eq (l : List S37) : ∀ (k : Nat) (i : Int), 0 ≤ i → i ≤ l.length → l.length < 1000000 → (l.length : Int) - i < k → timesyncref50_Same.l0 k l l i = some true
  | 0, i, h0, h1, _, h2 => by omega
  | k + 1, i, h0, h1, h3, h2 => by
    unfold timesyncref50_Same.l0
    by_cases c : i < (l.length : Int)
    · have hw : wrap64 (i + 1) = i + 1 := by unfold wrap64; omega
      rw [if_pos c, if_pos h0, if_pos c, if_neg (by simp), hw]
      exact same_eq l k (i + 1) (by omega) (by omega) h3 (by omega)
    · rw [if_neg c]
theorem parse_len : ∀ (k : Nat) (s : List UInt8) (acc : List S37) (n : Int), (parseP k s acc n).1.length ≤ acc.length + s.length
  | 0, s, acc, n => by simp [parseP]
  | k + 1, s, acc, n => by
    unfold parseP
    split
    · split <;> simp
    · split
      · split
        · rename_i x hx hf
          have h1 := parse_len k (cutB 10 s).2.1 (acc ++ [x]) (n + 1)
          have h2 := (cut_len 10 s).2 hf
          simp only [List.length_append, List.length_cons, List.length_nil] at h1
          omega
        · simp
      · simp
theorem pure_LogbookParses (a0 : ByteArray) (w0 : a0.size ≤ 140737488351232) : ∃ k, timesynclaw50_LogbookParses.f k a0 = some true := by
  refine ⟨50000, ?_⟩
  unfold timesynclaw50_LogbookParses.f
  rw [awake_at 50000 (by decide)]
  by_cases c : (a0.size : Int) > 20000
  · rw [if_pos c]; rfl
  · have hr : timesyncref50_Parse.f 50000 a0 = some (parseP 50000 a0.data.toList [] 1) := by
      unfold timesyncref50_Parse.f
      rw [if_neg (by omega)]
      have h := refparse_loop a0 (by omega) a0.size 50000 50000 0 0 [] (by omega) (by omega) (by omega) (by omega) (by omega) (by simp; omega) (by simp)
      simpa using h
    rw [if_neg c, parse_f 50000 a0 (by omega) (by omega), hr, Option.bind_some, Option.bind_some]
    have hl := parse_len 50000 a0.data.toList [] 1
    rw [sizeL] at hl
    simp only [List.length_nil] at hl
    have hsame : timesyncref50_Same.f 50000 (parseP 50000 a0.data.toList [] 1).1 (parseP 50000 a0.data.toList [] 1).1 = some true := by
      unfold timesyncref50_Same.f
      rw [if_pos rfl]
      exact same_eq _ 50000 0 (by decide) (by omega) (by omega) (by omega)
    rw [hsame]
    simp
end Go.Proofs.YtjhifhnjkpoofaaDoor.M
