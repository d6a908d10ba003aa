/-
  leap.blank, leap.fields and its iterator by hand.
-/
import Derived.Test.YtipbkcilpnlgnaaDoorM0
import Derived.Test.YtipbkcilpnlgnaaDoorExtD
import Derived.Test.YtipbkcilpnlgnaaDoorRF
import Derived.RangeFuncNested
import Derived.RangeFuncBound
import Derived.RangeFuncCalls
import Derived.RangeFuncLeaves
import Derived.Shelf.Abstract
import Derived.Shelf.RegionOpen
import Derived.WalkKit
import Derived.OwnWalkIn
import Derived.TacticsInMore
import Derived.LoopNIn
import Derived.LoopIn
namespace Go.Proofs.YtipbkcilpnlgnaaDoor.M
open Go.RowKit Go.Shelf Go.Proofs.YtipbkcilpnlgnaaDoorG Go.Proofs.YtipbkcilpnlgnaaDoorW.PA Go.Proofs.YtipbkcilpnlgnaaDoorW.PB Go.Proofs.YtipbkcilpnlgnaaDoorW.PC
open Go.Proofs.YtipbkcilpnlgnaaDoor.RF
set_option linter.unusedVariables false
set_option linter.unusedSimpArgs false
attribute [local go_sem] Oper.semAt_some
theorem u8_eq (c : UInt8) (k : Nat) (hk : k < 256) : ((c.toNat : Int) = k) ↔ c = k.toUInt8 := by
  constructor
  · intro h
    have h' : c.toNat = k := by omega
    apply UInt8.toNat_inj.1
    rw [h']
    simp [Nat.toUInt8, Nat.mod_eq_of_lt hk]
  · intro h
    rw [h]
    simp [Nat.toUInt8, Nat.mod_eq_of_lt hk]
theorem blankB_eq (c : UInt8) : blankB c = (((c.toNat : Int) == 32) || ((c.toNat : Int) == 9)) := by
  unfold blankB
  have h1 := u8_eq c 32 (by decide)
  have h2 := u8_eq c 9 (by decide)
  rw [Bool.eq_iff_iff]
  simp only [Bool.or_eq_true, beq_iff_eq]
  exact or_congr h1.symm h2.symm
set_option maxHeartbeats 3200000 in
set_option maxRecDepth 100000 in
theorem blank_calls (c : Int) (w : World) : Calls Tryd.prog 35 #[.int .u8 c] w fun e w' => e = .returned (.bool ((c == 32) || (c == 9))) ∧ w' = w := by
  go_enter Tryd.func35, Tryd.ntmps35
  by_cases h : c = 32
  · have hb : (c == 32) = true := beq_iff_eq.mpr h
    clear h
    go_wp2
    go_ret
    exact ⟨by rw [hb]; rfl, rfl⟩
  · have hb : (c == 32) = false := beq_eq_false_iff_ne.mpr h
    clear h
    go_wp2
    go_ret
    exact ⟨by rw [hb]; rfl, rfl⟩
def strOf (l : List UInt8) : ByteArray := ⟨l.toArray⟩
/-- Blocks from lo on and below hi lie as they lay. -/
def KpR (lo hi : Nat) (A B : World) : Prop := ∀ k, lo ≤ k → k < hi → B.heap[k]? = A.heap[k]?
theorem cell_of_heap {A B : World} {k i : Nat} {v : Value} (h : B.heap[k]? = A.heap[k]?) (hc : A.cell? ⟨k, i, none⟩ = some v) : B.cell? ⟨k, i, none⟩ = some v := by
  rw [← hc]; unfold World.cell?; simp only [h]
theorem drop_at (s : ByteArray) (i : Nat) (h : i < s.size) : s.data.toList.drop i = s[i] :: s.data.toList.drop (i + 1) := by
  rw [List.drop_eq_getElem_cons (by rw [Array.length_toList]; exact h)]
  rfl
theorem take_ne (s : ByteArray) (i j : Nat) (h : i < j) (hi : i < s.size) : (s.data.toList.drop i).take (j - i) ≠ [] := by
  rw [drop_at s i hi, show j - i = (j - i - 1) + 1 by omega, List.take_succ_cons]
  exact List.cons_ne_nil _ _
theorem take_more (s : ByteArray) (i j : Nat) (h : i ≤ j) (hj : j < s.size) : (s.data.toList.drop i).take (j + 1 - i) = (s.data.toList.drop i).take (j - i) ++ [s[j]] := by
  rw [show j + 1 - i = (j - i) + 1 by omega, List.take_succ_eq_append_getElem (by rw [List.length_drop, Array.length_toList]; have : s.data.size = s.size := rfl; omega)]
  congr 2
  rw [List.getElem_drop]
  simp only [show i + (j - i) = j by omega]
  rfl
theorem extract_list (s : ByteArray) (i j : Nat) : (s.extract i j).data.toList = (s.data.toList.drop i).take (j - i) := by
  rw [ByteArray.data_extract, Array.toList_extract]
theorem strOf_data (s : ByteArray) : strOf s.data.toList = s := rfl
set_option maxHeartbeats 3200000 in
set_option maxRecDepth 100000 in
theorem fields_seq (n : Nat) (hn : 1 ≤ n) (s : ByteArray) (hs : s.size ≤ 1000000) (b : Nat) (w : World) (hb : w.cell? ⟨b, 0, none⟩ = some (.string s)) (hlt : b < w.heap.size) :
    SeqC Fence.wide n Tryd.prog 60 #[.pointer (some ⟨b, 0, none⟩)] (fun x : List UInt8 => #[.string (strOf x)]) (KpR b (b + 1)) (fieldsB [] s.data.toList) b w := by
  intro l J Jx W hW hJ hJx hY h0
  have hc : W.cell? ⟨b, 0, none⟩ = some (.string s) := cell_of_heap (hW.block b hlt) hb
  refine callsIn_of_wp Tryd.func60 rfl trivial ?_ rfl
  simp only [Tryd.ntmps60, List.size_toArray, List.length_cons, List.length_nil, Nat.reduceAdd, Nat.reduceSub, Array.replicate_succ, Array.replicate_zero, List.push_toArray, List.append_toArray, List.nil_append, List.cons_append]
  gi_wp2
  gi_loopw [3] (fun p wr => ∃ (i : Nat) (pre rest : List (List UInt8)), p = .int .i64 i ∧ i ≤ s.size ∧ fieldsB [] s.data.toList = pre ++ rest ∧ fieldsB [] (s.data.toList.drop i) = rest ∧ J pre wr ∧ wr.cell? ⟨b, 0, none⟩ = some (.string s))
    (fun p wr => s.size - (intOf p).toNat)
  case atStart =>
    exact ⟨0, [], _, rfl, by omega, rfl, rfl, h0, hc⟩
  case round =>
    obtain ⟨i, pre, rest, rfl, hi, hw1, hw2, hJ1, hc1⟩ := hrel
    by_cases hlt1 : i < s.size
    · have d1 : decide ((i : Int) < (s.size : Int)) = true := decide_eq_true (by omega)
      by_cases hbl : blankB s[i] = true
      · have hbl' := hbl
        rw [blankB_eq] at hbl'
        have hstep : fieldsB [] (s.data.toList.drop (i + 1)) = rest := by rw [← hw2, drop_at s i hlt1, fieldsB, if_pos hbl, if_pos rfl]
        have hwr : wrap64 ((i : Int) + 1) = ((i + 1 : Nat) : Int) := by unfold wrap64; omega
        have HH := Ad.mk hstep
        clear hstep hw2 hbl
        gi_wp2_with (refine ⟨trivial, ?_⟩; gi_at_call 35; refine (callsIn_wide.2 (blank_calls _ _)).mono ?_; rintro e w' ⟨rfl, rfl⟩)
        exact ⟨⟨i + 1, pre, rest, by simp, by omega, hw1, HH.out, hJ1, hc1⟩, by simp only [intOf]; omega⟩
      · have hbl' := Bool.eq_false_iff.mpr hbl
        rw [blankB_eq] at hbl'
        have H2 := Ad.mk hw2
        clear hw2
        gi_wp2_with (refine ⟨trivial, ?_⟩; gi_at_call 35; refine (callsIn_wide.2 (blank_calls _ _)).mono ?_; rintro e w' ⟨rfl, rfl⟩)
        gi_loopw [4] (fun p wq => ∃ (j : Nat), p = .int .i64 j ∧ i ≤ j ∧ j ≤ s.size ∧ fieldsB ((s.data.toList.drop i).take (j - i)) (s.data.toList.drop j) = rest ∧ wq = w')
          (fun p wq => s.size - (intOf p).toNat)
        case atStart =>
          exact ⟨i, rfl, Nat.le_refl _, by omega, by rw [Nat.sub_self, List.take_zero]; exact H2.out, rfl⟩
        obtain ⟨j, rfl, hij, hj, hw3, rfl⟩ := hrel
        by_cases hlt2 : j < s.size
        · have d2 : decide ((j : Int) < (s.size : Int)) = true := decide_eq_true (by omega)
          by_cases hbj : blankB s[j] = true
          · have hij' : i ≠ j := fun e => by subst e; exact hbl hbj
            have hrest0 : (s.data.toList.drop i).take (j - i) :: fieldsB [] (s.data.toList.drop j) = rest := by
              rw [← hw3, drop_at s j hlt2, fieldsB, if_pos hbj, fieldsB, if_pos hbj, if_pos rfl, if_neg (take_ne s i j (by omega) hlt1)]
            rw [blankB_eq] at hbj
            clear hw3
            have hq : Ad (i < j) := ⟨by omega⟩
            have hacc : (s.data.toList.drop i).take (j - i) = (s.extract i j).data.toList := (extract_list s i j).symm
            have hrest : fieldsB [] s.data.toList = pre ++ (s.extract i j).data.toList :: fieldsB [] (s.data.toList.drop j) := by rw [hw1, ← hrest0, hacc]
            obtain ⟨fn, tmps, assign, body, hy, hR⟩ := hY pre _ _ wr hrest hJ1
            rw [strOf_data] at hy
            have HR := Ad.mk hrest
            clear hw1 hacc hrest hrest0 hij' hbl
            have q1 : (i : Int) ≤ (j : Int) := by omega
            have q2 : (j : Int) ≤ (s.size : Int) := by omega
            gi_wp2_with (refine ⟨trivial, ?_⟩; gi_at_call 35; refine (callsIn_wide.2 (blank_calls _ _)).mono ?_; rintro e w' ⟨rfl, rfl⟩)
            refine hR.mono ?_
            rintro e W3 (⟨rfl, hJ3, hk3⟩ | ⟨rfl, hJx3⟩)
            · have hc3 : W3.cell? ⟨b, 0, none⟩ = some (.string s) := cell_of_heap (hk3 b (Nat.le_refl _) (Nat.lt_succ_self _)) hc1
              gi_wp2
              have hrest := HR.out
              have hij := hq.out
              exact ⟨⟨j, pre ++ [(s.extract i j).data.toList], fieldsB [] (s.data.toList.drop j), rfl, hj, by rw [hrest]; simp, rfl, hJ3, hc3⟩, by simp only [intOf]; omega⟩
            · gi_wp2
              refine bodyPost_ret (results_none rfl _ _ _) rfl ?_
              exact ⟨⟨_, rfl⟩, .inr ⟨pre, _, _, HR.out, hJx3⟩⟩
          · have hbj' := Bool.eq_false_iff.mpr hbj
            rw [blankB_eq] at hbj'
            have hstep : fieldsB ((s.data.toList.drop i).take (j + 1 - i)) (s.data.toList.drop (j + 1)) = rest := by
              rw [← hw3, drop_at s j hlt2, fieldsB, if_neg hbj, take_more s i j hij hlt2]
            have hwr : wrap64 ((j : Int) + 1) = ((j + 1 : Nat) : Int) := by unfold wrap64; omega
            have HH := Ad.mk hstep
            clear hstep hw3 hbj
            have hq := Ad.mk hij
            clear hij hbl
            gi_wp2_with (refine ⟨trivial, ?_⟩; gi_at_call 35; refine (callsIn_wide.2 (blank_calls _ _)).mono ?_; rintro e w' ⟨rfl, rfl⟩)
            have hij := hq.out
            exact ⟨⟨j + 1, by simp, by omega, by omega, HH.out, by first | rfl | trivial⟩, by simp only [intOf]; omega⟩
        · have d2 : decide ((j : Int) < (s.size : Int)) = false := decide_eq_false (by omega)
          have hij' : i ≠ j := by omega
          have hrest0 : (s.data.toList.drop i).take (j - i) :: fieldsB [] (s.data.toList.drop j) = rest := by
            rw [← hw3, show s.data.toList.drop j = [] from List.drop_eq_nil_of_le (by rw [Array.length_toList]; exact Nat.not_lt.1 hlt2), fieldsB, if_pos rfl, fieldsB, if_neg (take_ne s i j (by omega) hlt1)]
          clear hw3
          have hq : Ad (i < j) := ⟨by omega⟩
          have hacc : (s.data.toList.drop i).take (j - i) = (s.extract i j).data.toList := (extract_list s i j).symm
          have hrest : fieldsB [] s.data.toList = pre ++ (s.extract i j).data.toList :: fieldsB [] (s.data.toList.drop j) := by rw [hw1, ← hrest0, hacc]
          obtain ⟨fn, tmps, assign, body, hy, hR⟩ := hY pre _ _ wr hrest hJ1
          rw [strOf_data] at hy
          have HR := Ad.mk hrest
          clear hw1 hacc hrest hrest0 hij' hbl
          have q1 : (i : Int) ≤ (j : Int) := by omega
          have q2 : (j : Int) ≤ (s.size : Int) := by omega
          gi_wp2_with (refine ⟨trivial, ?_⟩; gi_at_call 35; refine (callsIn_wide.2 (blank_calls _ _)).mono ?_; rintro e w' ⟨rfl, rfl⟩)
          refine ⟨trivial, ?_⟩
          gi_wp2
          refine hR.mono ?_
          rintro e W3 (⟨rfl, hJ3, hk3⟩ | ⟨rfl, hJx3⟩)
          · have hc3 : W3.cell? ⟨b, 0, none⟩ = some (.string s) := cell_of_heap (hk3 b (Nat.le_refl _) (Nat.lt_succ_self _)) hc1
            gi_wp2
            have hrest := HR.out
            have hij := hq.out
            exact ⟨⟨j, pre ++ [(s.extract i j).data.toList], fieldsB [] (s.data.toList.drop j), rfl, hj, by rw [hrest]; simp, rfl, hJ3, hc3⟩, by simp only [intOf]; omega⟩
          · gi_wp2
            refine bodyPost_ret (results_none rfl _ _ _) rfl ?_
            exact ⟨⟨_, rfl⟩, .inr ⟨pre, _, _, HR.out, hJx3⟩⟩
    · have d1 : decide ((i : Int) < (s.size : Int)) = false := decide_eq_false (by omega)
      gi_wp2
      go_end0
      exact ⟨⟨_, rfl⟩, .inl (by
        have : rest = [] := by rw [← hw2, List.drop_eq_nil_of_le (by rw [Array.length_toList]; exact Nat.not_lt.1 hlt1)]; rfl
        rw [this, List.append_nil] at hw1
        rw [hw1]; exact hJ1)⟩
end Go.Proofs.YtipbkcilpnlgnaaDoor.M
