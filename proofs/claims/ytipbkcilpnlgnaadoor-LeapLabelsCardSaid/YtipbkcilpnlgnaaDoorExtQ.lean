/-
  strings.SplitSeq at a separator of one byte, by hand: its iterator writes the rest of the string into a captured variable.
-/
import Derived.Test.YtipbkcilpnlgnaaDoorExtN
import Derived.Lib.IndexLaws
namespace Go.Proofs.YtipbkcilpnlgnaaDoor.M
open Go.RowKit Go.Shelf Go.Proofs.YtipbkcilpnlgnaaDoorG Go.Proofs.YtipbkcilpnlgnaaDoorW.PA Go.Proofs.YtipbkcilpnlgnaaDoorW.PB Go.Proofs.YtipbkcilpnlgnaaDoorW.PC
open Go.Proofs.YtipbkcilpnlgnaaDoor.RF
set_option linter.unusedVariables false
set_option linter.unusedSimpArgs false
attribute [local go_sem] Oper.semAt_some
theorem wordsC_none (c : UInt8) : ∀ l : List UInt8, (∀ k : Nat, l[k]? ≠ some c) → wordsC c l = [l]
  | [], _ => rfl
  | b :: l, h => by
    have hb : b ≠ c := fun e => h 0 (by rw [e]; rfl)
    have hl := wordsC_none c l (fun k => by have := h (k + 1); simpa using this)
    unfold wordsC
    rw [if_neg hb, hl]
    rfl
theorem wordsC_at (c : UInt8) : ∀ (l : List UInt8) (k : Nat), l[k]? = some c → (∀ j, j < k → l[j]? ≠ some c) → wordsC c l = l.take k :: wordsC c (l.drop (k + 1))
  | [], k, h, _ => by simp at h
  | b :: l, 0, h, _ => by
    have hb : b = c := by simpa using h
    rw [wordsC, if_pos hb]
    simp
  | b :: l, k + 1, h, hj => by
    have hb : b ≠ c := fun e => hj 0 (by omega) (by rw [e]; rfl)
    have hl := wordsC_at c l k (by simpa using h) (fun j hjk => by have := hj (j + 1) (by omega); simpa using this)
    rw [wordsC, if_neg hb, hl]
    simp
theorem Step.setCell {A : World} {bs j : Nat} {v : Value} : Step bs A (A.setCell ⟨bs, j, none⟩ v) :=
  ⟨rfl, rfl, rfl, (KeepsOthers.setCell A ⟨bs, j, none⟩ v).size, fun k hk _ => Below.heap_setCell A ⟨bs, j, none⟩ v k hk⟩
/-- How much is left of the string in a box. -/
def leftAt (b : Nat) (W : World) : Nat := match W.cell? ⟨b, 0, none⟩ with
  | some (.string t) => t.size
  | _ => 0
set_option maxHeartbeats 3200000 in
set_option maxRecDepth 100000 in
theorem split_seq (n : Nat) (hn : 1 ≤ n) (c : UInt8) (s : ByteArray) (lo : Nat) (w : World) (hs : s.size ≤ 1000000)
    (h0 : w.heap[lo]? = some (.cells #[.string s] 9 (0, 0))) (h1 : w.heap[lo + 1]? = some (.cells #[.string ⟨#[c]⟩] 9 (0, 0))) (h2 : w.heap[lo + 2]? = some (.cells #[.int .i64 0] 3 (0, 0))) :
    SeqC Fence.wide n Tryd.prog 56 #[.pointer (some ⟨lo + 1, 0, none⟩), .pointer (some ⟨lo, 0, none⟩), .pointer (some ⟨lo + 2, 0, none⟩)] (fun x : List UInt8 => #[.string (strOf x)]) (KpR lo (lo + 3)) (wordsC c s.data.toList) lo w := by
  intro l J Jx W hW hJ hJx hY hJ0
  have e0 := (hW.block _ (blk_lt h0)).trans h0
  have e1 := (hW.block _ (blk_lt h1)).trans h1
  have e2 := (hW.block _ (blk_lt h2)).trans h2
  clear h0 h1 h2
  have hc0 : W.cell? ⟨lo, 0, none⟩ = some (.string s) := (bcl e0 0).trans rfl
  have hc1 : W.cell? ⟨lo + 1, 0, none⟩ = some (.string ⟨#[c]⟩) := (bcl e1 0).trans rfl
  have hc2 : W.cell? ⟨lo + 2, 0, none⟩ = some (.int .i64 0) := (bcl e2 0).trans rfl
  refine callsIn_of_wp Tryd.func56 rfl trivial ?_ rfl
  simp only [Tryd.ntmps56, List.size_toArray, List.length_cons, List.length_nil, Nat.reduceAdd, Nat.reduceSub, Array.replicate_succ, Array.replicate_zero, List.push_toArray, List.append_toArray, List.nil_append, List.cons_append]
  gi_wp2
  gi_loopw [7] (fun p wr => ∃ (t : ByteArray) (pre : List (List UInt8)), t.size ≤ 1000000 ∧ wordsC c s.data.toList = pre ++ wordsC c t.data.toList ∧ J pre wr ∧ wr.heap[lo]? = some (.cells #[.string t] 9 (0, 0)) ∧ wr.heap[lo + 1]? = some (.cells #[.string ⟨#[c]⟩] 9 (0, 0)) ∧ wr.heap[lo + 2]? = some (.cells #[.int .i64 0] 3 (0, 0)))
    (fun p wr => leftAt lo wr)
  case atStart =>
    exact ⟨s, [], hs, rfl, hJ0, e0, e1, e2⟩
  case round =>
    obtain ⟨t, pre, ht, hw1, hJ1, k0, k1, k2⟩ := hrel
    have hd0 : wr.cell? ⟨lo, 0, none⟩ = some (.string t) := (bcl k0 0).trans rfl
    have hd1 : wr.cell? ⟨lo + 1, 0, none⟩ = some (.string ⟨#[c]⟩) := (bcl k1 0).trans rfl
    have hd2 : wr.cell? ⟨lo + 2, 0, none⟩ = some (.int .i64 0) := (bcl k2 0).trans rfl
    have hg0 := bfz k0 0
    have K0 := Ad.mk k0
    have K1 := Ad.mk k1
    have K2 := Ad.mk k2
    have HW := Ad.mk hw1
    clear k0 k1 k2 hw1 e0 e1 e2 hc0 hc1 hc2
    rcases Int.lt_or_le (Lib.indexByte t.data.toList c) 0 with hi | hi
    · have hi1 : Lib.indexByte t.data.toList c = -1 := by have := Lib.indexByte_ge t.data.toList c; omega
      have hwt : wordsC c t.data.toList = [t.data.toList] := wordsC_none c _ (Lib.indexByte_none hi1)
      have hrest : wordsC c s.data.toList = pre ++ t.data.toList :: [] := by rw [HW.out, hwt]
      obtain ⟨fn, tmps, assign, body, hy, hR⟩ := hY pre _ _ wr hrest hJ1
      rw [strOf_data] at hy
      have HR := Ad.mk hrest
      clear hrest hwt hi
      gi_wp2_with (refine ⟨trivial, ?_⟩; gi_at_call 58; refine (callsIn_wide.2 (Tryd.strings_Index_one t c _)).mono ?_; rintro e w' ⟨rfl, rfl⟩; rw [hi1])
      refine hR.mono ?_
      rintro e W3 (⟨rfl, hJ3, hk3⟩ | ⟨rfl, hJx3⟩)
      · gi_wp2
        go_end0
        exact ⟨⟨_, rfl⟩, .inl (by rw [HR.out]; exact hJ3)⟩
      · gi_wp2
        go_end0
        exact ⟨⟨_, rfl⟩, .inr ⟨pre, _, _, HR.out, hJx3⟩⟩
    · obtain ⟨i, hi1⟩ : ∃ i : Nat, Lib.indexByte t.data.toList c = i := ⟨_, (Int.toNat_of_nonneg hi).symm⟩
      obtain ⟨hat, hbe⟩ := Lib.indexByte_some hi1
      have hlt : i < t.size := by
        have := (List.getElem?_eq_some_iff.1 hat).1
        rw [Array.length_toList] at this
        exact this
      have hwt := wordsC_at c t.data.toList i hat hbe
      have hrest : wordsC c s.data.toList = pre ++ (t.extract 0 i).data.toList :: wordsC c (t.extract (i + 1) t.size).data.toList := by
        rw [HW.out, hwt, extract_list, extract_list]
        simp only [List.drop_zero, Nat.sub_zero]
        rw [List.take_of_length_le (l := t.data.toList.drop (i + 1)) (by rw [List.length_drop, Array.length_toList]; exact Nat.le_refl _)]
      obtain ⟨fn, tmps, assign, body, hy, hR⟩ := hY pre _ _ wr hrest hJ1
      rw [strOf_data] at hy
      have HR := Ad.mk hrest
      have HL := Ad.mk hlt
      clear hrest hwt hi hat hbe
      have HM : Ad (leftAt lo wr = t.size) := ⟨by unfold leftAt; rw [hd0]⟩
      have q1 : decide ((i : Int) < 0) = false := decide_eq_false (by omega)
      have q2 : wrap64 ((i : Int) + 0) = (i : Int) := by unfold wrap64; omega
      have q3 : wrap64 ((i : Int) + 1) = ((i + 1 : Nat) : Int) := by unfold wrap64; omega
      have q4 : (i : Int) ≤ (t.size : Int) := by omega
      gi_wp2_with (refine ⟨trivial, ?_⟩; gi_at_call 58; refine (callsIn_wide.2 (Tryd.strings_Index_one t c _)).mono ?_; rintro e w' ⟨rfl, rfl⟩; rw [hi1])
      refine hR.mono ?_
      rintro e W3 (⟨rfl, hJ3, hk3⟩ | ⟨rfl, hJx3⟩)
      · have k0 := (hk3 lo (Nat.le_refl _) (by omega)).trans K0.out
        have k1 := (hk3 (lo + 1) (by omega) (by omega)).trans K1.out
        have k2 := (hk3 (lo + 2) (by omega) (by omega)).trans K2.out
        have hd0 : W3.cell? ⟨lo, 0, none⟩ = some (.string t) := (bcl k0 0).trans rfl
        have hd1 : W3.cell? ⟨lo + 1, 0, none⟩ = some (.string ⟨#[c]⟩) := (bcl k1 0).trans rfl
        have hd2 : W3.cell? ⟨lo + 2, 0, none⟩ = some (.int .i64 0) := (bcl k2 0).trans rfl
        have hg0 := bfz k0 0
        have K0 := Ad.mk k0
        have K1 := Ad.mk k1
        have K2 := Ad.mk k2
        have q5 : ((i + 1 : Nat) : Int) ≤ (t.size : Int) := by have := HL.out; omega
        clear k0 k1 k2
        gi_wp2
        have hlt := HL.out
        have k0' := blk_put (cs := #[.string t]) K0.out 0 (.string (t.extract (i + 1) t.size)) rfl
        refine ⟨⟨t.extract (i + 1) t.size, pre ++ [(t.extract 0 i).data.toList], ?_, ?_, hJ _ _ _ hJ3 Step.setCell, k0', blk_far K1.out (by simp) _, blk_far K2.out (by simp) _⟩, ?_⟩
        · rw [ByteArray.size_extract]; omega
        · rw [HR.out]; simp
        · have a1 : leftAt lo (W3.setCell ⟨lo, 0, none⟩ (.string (t.extract (i + 1) t.size))) = (t.extract (i + 1) t.size).size := by unfold leftAt; rw [show (W3.setCell ⟨lo, 0, none⟩ (.string (t.extract (i + 1) t.size))).cell? ⟨lo, 0, none⟩ = some (.string (t.extract (i + 1) t.size)) from (bcl k0' 0).trans rfl]
          rw [a1, HM.out, ByteArray.size_extract]
          omega
      · gi_wp2
        refine bodyPost_ret (results_none rfl _ _ _) rfl ?_
        exact ⟨⟨_, rfl⟩, .inr ⟨pre, _, _, HR.out, hJx3⟩⟩
set_option maxHeartbeats 3200000 in
set_option maxRecDepth 100000 in
theorem split45_calls (s t : ByteArray) (w : World) : Calls Tryd.prog 45 #[.string s, .string t, .int .i64 0] w fun e w' => e = .returned (.func (.func 56) #[] #[.pointer (some ⟨w.heap.size + 1, 0, none⟩), .pointer (some ⟨w.heap.size, 0, none⟩), .pointer (some ⟨w.heap.size + 2, 0, none⟩)]) ∧ w' = ((w.alloc (.cells #[.string s] 9)).alloc (.cells #[.string t] 9)).alloc (.cells #[.int .i64 0] 3) := by
  go_enter Tryd.func45, Tryd.ntmps45
  go_wp2
  go_ret
  exact ⟨by first | rfl | simp, rfl⟩
set_option maxHeartbeats 3200000 in
set_option maxRecDepth 100000 in
theorem split34_calls (s t : ByteArray) (w : World) : Calls Tryd.prog 34 #[.string s, .string t] w fun e w' => e = .returned (.func (.func 56) #[] #[.pointer (some ⟨w.heap.size + 1, 0, none⟩), .pointer (some ⟨w.heap.size, 0, none⟩), .pointer (some ⟨w.heap.size + 2, 0, none⟩)]) ∧ w' = ((w.alloc (.cells #[.string s] 9)).alloc (.cells #[.string t] 9)).alloc (.cells #[.int .i64 0] 3) := by
  go_enter Tryd.func34, Tryd.ntmps34
  go_wp2_with fail
  refine (split45_calls s t _).mono ?_
  rintro e w' ⟨rfl, rfl⟩
  go_wp2
  go_ret
  exact ⟨by first | rfl | simp, rfl⟩
end Go.Proofs.YtipbkcilpnlgnaaDoor.M
