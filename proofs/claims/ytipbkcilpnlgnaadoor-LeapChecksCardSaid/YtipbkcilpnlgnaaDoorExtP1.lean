/-
  What leap.Parse needs, plain: the blocks laid ahead of the loop; where a line is cut; how a round ends.
-/
import Derived.Test.YtipbkcilpnlgnaaDoorExtP0
import Derived.Test.YtipbkcilpnlgnaaDoorM3
import Derived.Lib.SplitLaws
namespace Go.Proofs.YtipbkcilpnlgnaaDoor.M
open Go.RowKit Go.Shelf Go.Proofs.YtipbkcilpnlgnaaDoorG Go.Proofs.YtipbkcilpnlgnaaDoorW.PrintWords Go.Proofs.YtipbkcilpnlgnaaDoorW.PrintLast Go.Proofs.YtipbkcilpnlgnaaDoorW.PrintMore
open Go.Proofs.YtipbkcilpnlgnaaDoor.RF
set_option linter.unusedVariables false
set_option linter.unusedSimpArgs false
theorem allocs : ∀ (os : List Obj) (w : World), (os.foldl World.alloc w).heap.size = w.heap.size + os.length ∧ Below w.heap.size w (os.foldl World.alloc w) ∧ ∀ (i : Nat) (o : Obj), os[i]? = some o → (os.foldl World.alloc w).heap[w.heap.size + i]? = some o
  | [], w => ⟨rfl, Below.refl _ _, fun i o h => by simp at h⟩
  | o :: os, w => by
    obtain ⟨h1, h2, h3⟩ := allocs os (w.alloc o)
    rw [List.foldl_cons]
    have hs : (w.alloc o).heap.size = w.heap.size + 1 := World.size_alloc w o
    refine ⟨by rw [h1, hs, List.length_cons]; omega, below_step (below_alloc (Below.refl _ _) o) h2, fun i o' hi => ?_⟩
    cases i with
    | zero =>
      obtain rfl : o = o' := by simpa using hi
      exact (h2.block _ (by omega)).trans (World.alloc_heap_new w o)
    | succ i =>
      have := h3 i o' (by simpa using hi)
      rw [hs] at this
      rw [show w.heap.size + (i + 1) = w.heap.size + 1 + i by omega]
      exact this
theorem index_one (b c : UInt8) (l : List UInt8) : Lib.index (b :: l) [c] = if b = c then 0 else if Lib.index l [c] = -1 then -1 else Lib.index l [c] + 1 := by
  conv => lhs; unfold Lib.index
  by_cases h : b = c
  · subst h
    simp [List.isPrefixOf]
  · have h2 : (c == b) = false := beq_eq_false_iff_ne.mpr (fun e => h e.symm)
    simp [List.isPrefixOf, h, h2]
theorem index_ge' (l m : List UInt8) : -1 ≤ Lib.index l m := Lib.index_ge l m
theorem cut_eq (c : UInt8) : ∀ l, Lib.cut l [c] = cutB c l
  | [] => rfl
  | b :: l => by
    have ih := cut_eq c l
    unfold Lib.cut at ih ⊢
    rw [index_one]
    unfold cutB
    by_cases h : b = c
    · rw [if_pos h, if_pos h]; simp
    · rw [if_neg h, if_neg h, ← ih]
      have hg := index_ge' l [c]
      by_cases h1 : Lib.index l [c] = -1
      · rw [if_pos h1, h1]; simp
      · rw [if_neg h1, if_pos (by omega), if_pos (by omega)]
        have e : (Lib.index l [c] + 1).toNat = (Lib.index l [c]).toNat + 1 := by omega
        rw [e]
        simp
theorem cutB_len (c : UInt8) : ∀ l : List UInt8, (cutB c l).1.length ≤ l.length
  | [] => by simp [cutB]
  | b :: l => by
    have h := cutB_len c l
    unfold cutB
    split
    · simp
    · simp only [List.length_cons]; omega
theorem cut_f (x : List UInt8) (h : x.length ≤ 1000000) : strings_Cut.f (strOf x) ⟨#[35]⟩ = some (strOf (cutB 35 x).1, strOf (cutB 35 x).2.1, (cutB 35 x).2.2) := by
  unfold strings_Cut.f
  have hz : (strOf x).size = x.length := by simp [strOf, ByteArray.size]
  rw [if_pos (by omega)]
  rw [show (strOf x).data.toList = x from rfl, show (⟨#[35]⟩ : ByteArray).data.toList = [35] from rfl, cut_eq]
  rfl
theorem sub_eq (x : List UInt8) : ((strOf x).extract 0 2).toList = x.take 2 := by
  rw [ByteArray.toList_eq, extract_list]
  simp [strOf]
theorem drop_eq (x : List UInt8) : ((strOf x).extract 2 (strOf x).size).data.toList = x.drop 2 := by
  rw [extract_list]
  have hz : (strOf x).size = x.length := by simp [strOf, ByteArray.size]
  rw [hz, show (strOf x).data.toList = x from rfl]
  exact List.take_of_length_le (by simp)
theorem par_cells {w W w2 : World} {r : Rd} {vv : Value} (hb : Below W.heap.size W w2) (hl : w.heap.size + 8 ≤ W.heap.size)
    (k0 : W.heap[w.heap.size]? = some (.cells #[.int .i64 0, .int .i64 0, .slice none 0 0] 24 (0, 0))) (k1 : W.heap[w.heap.size + 1]? = some (.cells #[.int .i64 0] 27 (0, 0)))
    (k2 : W.heap[w.heap.size + 2]? = some (.cells #[.int .i64 r.base, .int .i64 r.exp, vv] 24 (0, 0))) (k3 : W.heap[w.heap.size + 3]? = some (.cells #[.bool r.kE] 4 (0, 0))) (k4 : W.heap[w.heap.size + 4]? = some (.cells #[.bool r.kB] 4 (0, 0))) :
    w2.cell? ⟨w.heap.size, 0, none⟩ = some (.int .i64 0) ∧ w2.cell? ⟨w.heap.size, 1, none⟩ = some (.int .i64 0) ∧ w2.cell? ⟨w.heap.size, 2, none⟩ = some (.slice none 0 0) ∧ w2.cell? ⟨w.heap.size + 1, 0, none⟩ = some (.int .i64 0) ∧
    w2.cell? ⟨w.heap.size + 2, 0, none⟩ = some (.int .i64 r.base) ∧ w2.cell? ⟨w.heap.size + 2, 1, none⟩ = some (.int .i64 r.exp) ∧ w2.cell? ⟨w.heap.size + 2, 2, none⟩ = some vv ∧ w2.cell? ⟨w.heap.size + 3, 0, none⟩ = some (.bool r.kE) ∧ w2.cell? ⟨w.heap.size + 4, 0, none⟩ = some (.bool r.kB) ∧
    w2.frozen? ⟨w.heap.size, 0, none⟩ = false ∧ w2.frozen? ⟨w.heap.size, 1, none⟩ = false ∧ w2.frozen? ⟨w.heap.size, 2, none⟩ = false ∧ w2.frozen? ⟨w.heap.size + 1, 0, none⟩ = false ∧ w2.frozen? ⟨w.heap.size + 2, 0, none⟩ = false ∧ w2.frozen? ⟨w.heap.size + 2, 1, none⟩ = false ∧ w2.frozen? ⟨w.heap.size + 2, 2, none⟩ = false ∧ w2.frozen? ⟨w.heap.size + 3, 0, none⟩ = false ∧ w2.frozen? ⟨w.heap.size + 4, 0, none⟩ = false ∧
    Aside0 (w2.heap[w.heap.size]? = some (.cells #[.int .i64 0, .int .i64 0, .slice none 0 0] 24 (0, 0))) ∧ Aside0 (w2.heap[w.heap.size + 1]? = some (.cells #[.int .i64 0] 27 (0, 0))) ∧ Aside0 (w2.heap[w.heap.size + 2]? = some (.cells #[.int .i64 r.base, .int .i64 r.exp, vv] 24 (0, 0))) ∧ Aside0 (w2.heap[w.heap.size + 3]? = some (.cells #[.bool r.kE] 4 (0, 0))) ∧ Aside0 (w2.heap[w.heap.size + 4]? = some (.cells #[.bool r.kB] 4 (0, 0))) := by
  have e0 := (hb.block w.heap.size (by omega)).trans k0
  have e1 := (hb.block (w.heap.size + 1) (by omega)).trans k1
  have e2 := (hb.block (w.heap.size + 2) (by omega)).trans k2
  have e3 := (hb.block (w.heap.size + 3) (by omega)).trans k3
  have e4 := (hb.block (w.heap.size + 4) (by omega)).trans k4
  exact ⟨blk_cell e0 0, blk_cell e0 1, blk_cell e0 2, blk_cell e1 0, blk_cell e2 0, blk_cell e2 1, blk_cell e2 2, blk_cell e3 0, blk_cell e4 0, blk_frozen e0 0, blk_frozen e0 1, blk_frozen e0 2, blk_frozen e1 0, blk_frozen e2 0, blk_frozen e2 1, blk_frozen e2 2, blk_frozen e3 0, blk_frozen e4 0, ⟨e0⟩, ⟨e1⟩, ⟨e2⟩, ⟨e3⟩, ⟨e4⟩⟩
theorem par_fail {w W W1 : World} {B0 : Nat} {a : Act} {pre rest words : List (List UInt8)} {x : List UInt8} {r : Rd} (hB : B0 = w.heap.size + 8) (hw : words = pre ++ x :: rest) (hr : readLines rd0 pre = some r) (hst : stepLine r x = none) (hlt : w.heap.size + 8 ≤ W.heap.size)
    (k0 : W.heap[w.heap.size]? = some (.cells #[.int .i64 0, .int .i64 0, .slice none 0 0] 24 (0, 0))) (k1 : W.heap[w.heap.size + 1]? = some (.cells #[.int .i64 0] 27 (0, 0))) (h6 : Below w.heap.size w W) (hb : Below W.heap.size W W1) :
    postC B0 (KpR (w.heap.size + 5) (w.heap.size + 5 + 3)) (fun pre W => ParI w pre W) (fun c pre W => ParX w words c W) (pre ++ [x]) W .ret a
      ((((W1.setCell ⟨w.heap.size, 0, none⟩ (.int .i64 0)).setCell ⟨w.heap.size, 1, none⟩ (.int .i64 0)).setCell ⟨w.heap.size, 2, none⟩ (.slice none 0 0)).setCell ⟨w.heap.size + 1, 0, none⟩ (.int .i64 19)) := by
  subst hB
  refine ⟨(Hi.below hb (Nat.le_refl _)).trans ((Hi.others (KeepsOthers.setCell _ _ _)).trans ((Hi.others (KeepsOthers.setCell _ _ _)).trans ((Hi.others (KeepsOthers.setCell _ _ _)).trans (Hi.others (KeepsOthers.setCell _ _ _))))), rfl, ?_, ?_, ?_, ?_⟩
  · rw [hw, show pre ++ x :: rest = (pre ++ [x]) ++ rest by simp]
    exact readLines_none _ _ _ (by rw [readLines_snoc _ _ _ _ hr, hst])
  · refine blk_far (blk_put (cs := #[.int .i64 0, .int .i64 0, .slice none 0 0]) (blk_put (cs := #[.int .i64 0, .int .i64 0, .slice none 0 0]) (blk_put (cs := #[.int .i64 0, .int .i64 0, .slice none 0 0]) ?_ 0 _ rfl) 1 _ rfl) 2 _ rfl) (by simp) _
    exact (hb.block _ (by omega)).trans k0
  · refine blk_put (cs := #[.int .i64 0]) ?_ 0 _ rfl
    refine blk_far (blk_far (blk_far ?_ (by simp) _) (by simp) _) (by simp) _
    exact (hb.block _ (by omega)).trans k1
  · exact below_set (below_set (below_set (below_set (h6.trans (hb.mono (by omega))) (Nat.le_refl _)) (Nat.le_refl _)) (Nat.le_refl _)) (by omega)
theorem par_next {w W W9 : World} {B0 : Nat} {a : Act} {pre words : List (List UInt8)} {x : List UInt8} {r r' : Rd} {v' : Value} (hB : B0 = w.heap.size + 8) (hr : readLines rd0 pre = some r) (hst : stepLine r x = some r') (hlen : r'.ent.length ≤ pre.length + 1)
    (k0 : W9.heap[w.heap.size]? = some (.cells #[.int .i64 0, .int .i64 0, .slice none 0 0] 24 (0, 0))) (k1 : W9.heap[w.heap.size + 1]? = some (.cells #[.int .i64 0] 27 (0, 0)))
    (k2 : W9.heap[w.heap.size + 2]? = some (.cells #[.int .i64 r'.base, .int .i64 r'.exp, v'] 24 (0, 0))) (k3 : W9.heap[w.heap.size + 3]? = some (.cells #[.bool r'.kE] 4 (0, 0))) (k4 : W9.heap[w.heap.size + 4]? = some (.cells #[.bool r'.kB] 4 (0, 0)))
    (hR : k44.R 44 W9 w.heap.size (fun k => w.heap.size + 8 ≤ k) v' r'.ent) (h6 : Below w.heap.size w W9) (hi : Hi (w.heap.size + 8) W W9) (hkp : ∀ k, w.heap.size + 5 ≤ k → k < w.heap.size + 8 → W9.heap[k]? = W.heap[k]?) :
    postC B0 (KpR (w.heap.size + 5) (w.heap.size + 5 + 3)) (fun pre W => ParI w pre W) (fun c pre W => ParX w words c W) (pre ++ [x]) W .normal a W9 := by
  subst hB
  exact ⟨hi, fun k h1 h2 => hkp k h1 (by omega), r', v', by rw [readLines_snoc _ _ _ _ hr, hst], by simpa using hlen, k0, k1, k2, k3, k4, hR, h6⟩
end Go.Proofs.YtipbkcilpnlgnaaDoor.M
