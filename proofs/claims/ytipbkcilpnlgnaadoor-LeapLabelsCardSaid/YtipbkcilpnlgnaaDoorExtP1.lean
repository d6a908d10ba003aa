/-
  leap.head by hand: it writes through two pointers.
-/
/-
  What leap.Parse needs, plain: what it keeps between two rounds; a drawn region in a round.
-/
/-
  What leap.Parse needs, plain: the blocks laid ahead of the loop; where a line is cut; how a round ends.
-/
import Derived.Test.YtipbkcilpnlgnaaDoorExtQ
import Derived.Test.YtipbkcilpnlgnaaDoorExtS
import Derived.Test.YtipbkcilpnlgnaaDoorM3
import Derived.Lib.SplitLaws
section
namespace Go.Proofs.YtipbkcilpnlgnaaDoor.M
open Go.RowKit Go.Shelf Go.Proofs.YtipbkcilpnlgnaaDoorG Go.Proofs.YtipbkcilpnlgnaaDoorW.PA Go.Proofs.YtipbkcilpnlgnaaDoorW.PB Go.Proofs.YtipbkcilpnlgnaaDoorW.PC
set_option linter.unusedVariables false
set_option linter.unusedSimpArgs false
/-- What leap.head leaves. -/
def HeadPost (s : List UInt8) (kn : Bool) (tb j kb : Nat) (w : World) (e : Ending) (w' : World) : Prop :=
  (headNum s kn = none ∧ e = .returned (.bool false) ∧ Below w.heap.size w w') ∨
  (∃ n w1, headNum s kn = some n ∧ e = .returned (.bool true) ∧ Below w.heap.size w w1 ∧ w' = (w1.setCell ⟨tb, j, none⟩ (.int .i64 n)).setCell ⟨kb, 0, none⟩ (.bool true))
set_option maxHeartbeats 3200000 in
set_option maxRecDepth 100000 in
theorem head_calls (s : ByteArray) (hs : s.size ≤ 1000000) (tb j kb : Nat) (m : Int) (kn : Bool) (w : World) (hG : Glob w) (hp : w.cell? ⟨tb, j, none⟩ = some (.int .i64 m)) (hf : w.frozen? ⟨tb, j, none⟩ = false)
    (hk : w.cell? ⟨kb, 0, none⟩ = some (.bool kn)) (hkf : w.frozen? ⟨kb, 0, none⟩ = false) (htl : tb < w.heap.size) (hkl : kb < w.heap.size) (hne : kb ≠ tb) :
    Calls Tryd.prog 36 #[.string s, .pointer (some ⟨tb, j, none⟩), .pointer (some ⟨kb, 0, none⟩)] w fun e w' => HeadPost s.data.toList kn tb j kb w e w' := by
  have hN := numbers_calls s hs w hG
  have HP := Ad.mk hp
  have HK := Ad.mk hk
  have HF := Ad.mk hf
  have HKF := Ad.mk hkf
  have HT := Ad.mk htl
  have HKL := Ad.mk hkl
  clear hp hk hf hkf hG
  go_enter Tryd.func36, Tryd.ntmps36
  go_wp2_with fail
  refine hN.mono ?_
  rintro e w1 ⟨v0, rfl, hR, hb⟩
  have HB := Ad.mk hb
  have hc1 := (hb.cell (p := ⟨tb, j, none⟩) HT.out).trans HP.out
  have hc2 := (hb.cell (p := ⟨kb, 0, none⟩) HKL.out).trans HK.out
  have hf1 : w1.frozen? ⟨tb, j, none⟩ = false := by
    have e := hb.block tb HT.out
    have h := HF.out
    unfold World.frozen? at h ⊢
    simp only [e]
    exact h
  have hf2 : w1.frozen? ⟨kb, 0, none⟩ = false := by
    have e := hb.block kb HKL.out
    have h := HKF.out
    unfold World.frozen? at h ⊢
    simp only [e]
    exact h
  clear hb hN htl hkl
  unfold numOut at hR ⊢
  cases hl : lineNums s.data.toList with
  | none =>
    rw [hl] at hR
    have hres : headNum s.data.toList kn = none := by unfold headNum; rw [hl]
    obtain ⟨A, c, rfl⟩ := Kd.R_slice hR
    clear hl hR
    simp only
    go_wp2
    go_ret
    exact .inl ⟨hres, rfl, HB.out⟩
  | some l =>
    rw [hl] at hR
    simp only at hR ⊢
    match l, hl, hR with
    | [], hl, hR =>
      have hres : headNum s.data.toList kn = none := by unfold headNum; rw [hl]
      obtain ⟨A, c, rfl⟩ := Kd.R_slice hR
      clear hl hR
      go_wp2
      go_ret
      exact .inl ⟨hres, rfl, HB.out⟩
    | n :: m :: t, hl, hR =>
      have hres : headNum s.data.toList kn = none := by unfold headNum; rw [hl]
      obtain ⟨A, c, rfl⟩ := Kd.R_slice hR
      have q : (((n :: m :: t).length : Int) == 1) = false := beq_eq_false_iff_ne.mpr (by simp only [List.length_cons]; omega)
      have q1 : (((n :: m :: t).length : Int) != 1) = true := by unfold bne; rw [q]; rfl
      clear hl hR
      generalize (n :: m :: t).length = k at *
      go_wp2
      go_ret
      exact .inl ⟨hres, rfl, HB.out⟩
    | [n], hl, hR =>
      obtain ⟨g, cap, rfl, -⟩ := Kd.R_form hR (by simp)
      have hx : w1.cell? ⟨g, 0, none⟩ = some (.int .i64 n) := (Kd.R_cell 0 hR 0 (by decide) (by simp)).1
      clear hR
      cases kn with
      | true =>
        have hres : headNum s.data.toList true = none := by unfold headNum; rw [hl]; rfl
        clear hl
        go_wp2
        go_ret
        exact .inl ⟨hres, rfl, HB.out⟩
      | false =>
        have hres : headNum s.data.toList false = some n := by unfold headNum; rw [hl]; rfl
        clear hl
        go_wp2
        go_ret
        exact .inr ⟨n, w1, hres, rfl, HB.out, rfl⟩
end Go.Proofs.YtipbkcilpnlgnaaDoor.M
end
section
namespace Go.Proofs.YtipbkcilpnlgnaaDoor.M
open Go.RowKit Go.Shelf Go.Proofs.YtipbkcilpnlgnaaDoorG Go.Proofs.YtipbkcilpnlgnaaDoorW.PA Go.Proofs.YtipbkcilpnlgnaaDoorW.PB Go.Proofs.YtipbkcilpnlgnaaDoorW.PC
open Go.Proofs.YtipbkcilpnlgnaaDoor.RF
set_option linter.unusedVariables false
set_option linter.unusedSimpArgs false
section
variable {P : Program} {ops : Array Oper} {Q : Exit → Act → World → Prop} {r nF : Nat}
theorem rows_in {row : String} {args : Array Value} {w : World} {R : Value → World → Prop} (h : Rows P row args w R) : RowsIn (Fence.wide.inRound r) nF P row args w R :=
  fun c cs _ => let ⟨v, w', r, s⟩ := h c cs; ⟨v, w', r, stepsIn_wide.2 s⟩
theorem oper_in {o : Oper} {a : Act} {w : World} {K : Act → World → Prop} (hd : ∀ c, o.op ≠ .defer c) (h : o.wp P a w K Q) : o.wpIn (Fence.wide.inRound r) nF P a w K Q := by
  unfold Oper.wp at h
  unfold Oper.wpIn
  refine ⟨fun _ _ => trivial, ?_⟩
  rw [show (Fence.wide.inRound r).round = some r from rfl, Oper.semAt_some r _ _ hd]
  revert h
  generalize (execOp a.eval o).run P w = res
  intro h
  match res, h with
  | .ok (.value v) w', h => exact h
  | .ok .skip w', h => exact h
  | .ok (.defer d) w', h => exact h
  | .ok (.enter f args) w', h => exact ⟨fun h => (by cases h), (callsIn_wide.2 h)⟩
  | .ok (.row row args) w', h => exact ⟨fun h => (by cases h), rows_in h⟩
  | .halt (.panic v) w', h => exact h
theorem any_in (hno : ¬ LetsOut Q) (hd : ∀ (i : Nat) (o : Oper), ops[i]? = some o → ∀ c, o.op ≠ .defer c) {md : Region.Mode} : ∀ (fuel : Nat) (listed : Array Bool) (a : Act) (w : World), wpAny P md ops Q fuel listed a w → wpAnyIn (Fence.wide.inRound r) nF P md ops Q fuel listed a w
  | 0, listed, a, w, h => h
  | fuel + 1, listed, a, w, h => by
    refine ⟨h.1, fun i hi => ?_⟩
    have h2 := h.2 i hi
    unfold wpOp at h2
    unfold wpOpIn
    cases ho : ops[i]? with
    | none =>
      rw [ho] at h2
      exact any_in hno hd fuel _ a w h2
    | some o =>
      rw [ho] at h2
      simp only at h2 ⊢
      split
      · rename_i hw
        rw [if_pos hw] at h2
        rcases h2 with h2 | h2
        · exact Oper.wpIn_mono (fun a w h => any_in hno hd fuel _ a w h) (oper_in (hd i o ho) h2)
        · exact (hno h2.2).elim
      · rename_i hw
        rw [if_neg hw] at h2
        exact ⟨fun _ _ => trivial, any_in hno hd fuel _ _ w h2⟩
theorem startIn_ {id n : Nat} {S : World → Prop} {ds : List Nat} {a : Act} {w : World} (l : Array Bool) (hm : P.follows .mixedOrders = true) (hn : ops.size = n) (hl : Array.replicate n false = l)
    (hd : ops.all (fun o => match o.op with | .defer _ => false | _ => true) = true) (hno : ¬ LetsOut Q) (hS : S w.drew)
    (h : S w.drew → wpAnyLast P .any ops Q S ds n l a w.drew) : (Code.region id ops true).wpIn (Fence.wide.inRound r) nF P Q a w := by
  subst hn
  subst hl
  refine wpIn_region_any hm (any_in hno ?_ _ _ _ _ (wpAny_of_last _ _ _ _ (h hS)))
  intro i o ho c hc
  have := (Array.all_eq_true_iff_forall_mem.1 hd) o (Array.mem_of_getElem? ho)
  rw [hc] at this
  cases this
end
theorem wordsC_len (c : UInt8) : ∀ (l x : List UInt8), x ∈ wordsC c l → x.length ≤ l.length
  | [], x, h => by
    have : x = [] := by simpa [wordsC] using h
    rw [this]; simp
  | b :: l, x, h => by
    unfold wordsC at h
    by_cases hb : b = c
    · rw [if_pos hb] at h
      rcases List.mem_cons.1 h with rfl | h
      · simp
      · have := wordsC_len c l x h
        simp only [List.length_cons]; omega
    · rw [if_neg hb] at h
      cases hw : wordsC c l with
      | nil =>
        rw [hw] at h
        have : x = [b] := by simpa using h
        rw [this]; simp
      | cons y t =>
        rw [hw] at h
        rcases List.mem_cons.1 h with rfl | h
        · have := wordsC_len c l y (by rw [hw]; simp)
          simp only [List.headD_cons, List.length_cons]; omega
        · have := wordsC_len c l x (by rw [hw]; exact List.mem_cons_of_mem _ h)
          simp only [List.length_cons]; omega
theorem wordsC_ne (c : UInt8) (l : List UInt8) : wordsC c l ≠ [] := by
  cases l with
  | nil => simp [wordsC]
  | cons b l =>
    unfold wordsC
    split <;> simp
theorem wordsC_count (c : UInt8) : ∀ (l : List UInt8), (wordsC c l).length ≤ l.length + 1
  | [] => by simp [wordsC]
  | b :: l => by
    have h := wordsC_count c l
    have hn := wordsC_ne c l
    unfold wordsC
    split
    · simp only [List.length_cons]; omega
    · cases hw : wordsC c l with
      | nil => exact absurd hw hn
      | cons y t => rw [hw] at h; simp only [List.tail_cons, List.length_cons] at *; omega
theorem readLines_snoc : ∀ (l : List (List UInt8)) (x : List UInt8) (a r : Rd), readLines a l = some r → readLines a (l ++ [x]) = stepLine r x
  | [], x, a, r, h => by
    obtain rfl := Option.some.inj h
    rw [List.nil_append]
    unfold readLines
    cases stepLine a x <;> rfl
  | w :: l, x, a, r, h => by
    rw [List.cons_append]
    unfold readLines at h
    rw [readLines]
    split at h
    · exact readLines_snoc l x _ r h
    · cases h
theorem readLines_none : ∀ (l m : List (List UInt8)) (a : Rd), readLines a l = none → readLines a (l ++ m) = none
  | [], m, a, h => by cases h
  | w :: l, m, a, h => by
    rw [List.cons_append]
    unfold readLines at h
    rw [readLines]
    split at h
    · exact readLines_none l m _ h
    · rfl
def rd0 : Rd := ⟨0, 0, [], false, false⟩
def resZ : Obj := .cells #[.int .i64 0, .int .i64 0, .slice none 0 0] 24 (0, 0)
/-- What leap.Parse keeps between two rounds: n is the first block of its own. -/
def ParI (w : World) (pre : List (List UInt8)) (W : World) : Prop :=
  ∃ (r : Rd) (v : Value), readLines rd0 pre = some r ∧ r.ent.length ≤ pre.length ∧
    W.heap[w.heap.size]? = some (.cells #[.int .i64 0, .int .i64 0, .slice none 0 0] 24 (0, 0)) ∧ W.heap[w.heap.size + 1]? = some (.cells #[.int .i64 0] 27 (0, 0)) ∧
    W.heap[w.heap.size + 2]? = some (.cells #[.int .i64 r.base, .int .i64 r.exp, v] 24 (0, 0)) ∧ W.heap[w.heap.size + 3]? = some (.cells #[.bool r.kE] 4 (0, 0)) ∧ W.heap[w.heap.size + 4]? = some (.cells #[.bool r.kB] 4 (0, 0)) ∧
    k44.R 44 W w.heap.size (fun k => w.heap.size + 8 ≤ k) v r.ent ∧ Below w.heap.size w W
theorem ParI.kept {w A B : World} {pre : List (List UInt8)} (h : ParI w pre A) (hk : Kept (w.heap.size + 5) (w.heap.size + 8) A B) : ParI w pre B := by
  obtain ⟨r, v, h1, h2, k0, k1, k2, k3, k4, h5, h6⟩ := h
  exact ⟨r, v, h1, h2, blk_at k0 hk (by omega), blk_at k1 hk (by omega), blk_at k2 hk (by omega), blk_at k3 hk (by omega), blk_at k4 hk (by omega), R_kept h5 hk (by omega), below_kept h6 hk (by omega) (by omega) (Nat.le_refl _)⟩
/-- What it leaves when a line is bad. -/
def ParX (w : World) (words : List (List UInt8)) (c : Code) (W : World) : Prop :=
  c = .ret ∧ readLines rd0 words = none ∧ W.heap[w.heap.size]? = some (.cells #[.int .i64 0, .int .i64 0, .slice none 0 0] 24 (0, 0)) ∧ W.heap[w.heap.size + 1]? = some (.cells #[.int .i64 19] 27 (0, 0)) ∧ Below w.heap.size w W
theorem ParX.kept {w A B : World} {words : List (List UInt8)} {c : Code} (h : ParX w words c A) (hk : Kept (w.heap.size + 5) (w.heap.size + 8) A B) : ParX w words c B := by
  obtain ⟨h0, h1, k0, k1, h6⟩ := h
  exact ⟨h0, h1, blk_at k0 hk (by omega), blk_at k1 hk (by omega), below_kept h6 hk (by omega) (by omega) (Nat.le_refl _)⟩
end Go.Proofs.YtipbkcilpnlgnaaDoor.M
end
section
namespace Go.Proofs.YtipbkcilpnlgnaaDoor.M
open Go.RowKit Go.Shelf Go.Proofs.YtipbkcilpnlgnaaDoorG Go.Proofs.YtipbkcilpnlgnaaDoorW.PA Go.Proofs.YtipbkcilpnlgnaaDoorW.PB Go.Proofs.YtipbkcilpnlgnaaDoorW.PC
open Go.Proofs.YtipbkcilpnlgnaaDoor.RF
set_option linter.unusedVariables false
set_option linter.unusedSimpArgs false
theorem allocs : ∀ (os : List Obj) (w : World), (os.foldl World.alloc w).heap.size = w.heap.size + os.length ∧ Below w.heap.size w (os.foldl World.alloc w) ∧ ∀ (i : Nat) (o : Obj), os[i]? = some o → (os.foldl World.alloc w).heap[w.heap.size + i]? = some o
  | [], w => ⟨rfl, Below.refl _ _, fun i o h => by simp at h⟩
  | o :: os, w => by
    obtain ⟨h1, h2, h3⟩ := allocs os (w.alloc o)
    rw [List.foldl_cons]
    have hs : (w.alloc o).heap.size = w.heap.size + 1 := World.size_alloc w o
    refine ⟨by rw [h1, hs, List.length_cons]; omega, pbt (pba (Below.refl _ _) o) h2, fun i o' hi => ?_⟩
    cases i with
    | zero =>
      obtain rfl : o = o' := by simpa using hi
      exact (h2.block _ (by omega)).trans (World.alloc_heap_new w o)
    | succ i =>
      have := h3 i o' (by simpa using hi)
      rw [hs] at this
      rw [show w.heap.size + (i + 1) = w.heap.size + 1 + i by omega]
      exact this
theorem index_one (b c : UInt8) (l : List UInt8) : Lib.index (b :: l) [c] = if b = c then 0 else if Lib.index l [c] = -1 then -1 else Lib.index l [c] + 1 := by
  conv => lhs; unfold Lib.index
  by_cases h : b = c
  · subst h
    simp [List.isPrefixOf]
  · have h2 : (c == b) = false := beq_eq_false_iff_ne.mpr (fun e => h e.symm)
    simp [List.isPrefixOf, h, h2]
theorem index_ge' (l m : List UInt8) : -1 ≤ Lib.index l m := Lib.index_ge l m
theorem cut_eq (c : UInt8) : ∀ l, Lib.cut l [c] = cutB c l
  | [] => rfl
  | b :: l => by
    have ih := cut_eq c l
    unfold Lib.cut at ih ⊢
    rw [index_one]
    unfold cutB
    by_cases h : b = c
    · rw [if_pos h, if_pos h]; simp
    · rw [if_neg h, if_neg h, ← ih]
      have hg := index_ge' l [c]
      by_cases h1 : Lib.index l [c] = -1
      · rw [if_pos h1, h1]; simp
      · rw [if_neg h1, if_pos (by omega), if_pos (by omega)]
        have e : (Lib.index l [c] + 1).toNat = (Lib.index l [c]).toNat + 1 := by omega
        rw [e]
        simp
theorem cutB_len (c : UInt8) : ∀ l : List UInt8, (cutB c l).1.length ≤ l.length
  | [] => by simp [cutB]
  | b :: l => by
    have h := cutB_len c l
    unfold cutB
    split
    · simp
    · simp only [List.length_cons]; omega
theorem cut_f (x : List UInt8) (h : x.length ≤ 1000000) : strings_Cut.f (strOf x) ⟨#[35]⟩ = some (strOf (cutB 35 x).1, strOf (cutB 35 x).2.1, (cutB 35 x).2.2) := by
  unfold strings_Cut.f
  have hz : (strOf x).size = x.length := by simp [strOf, ByteArray.size]
  rw [if_pos (by omega)]
  rw [show (strOf x).data.toList = x from rfl, show (⟨#[35]⟩ : ByteArray).data.toList = [35] from rfl, cut_eq]
  rfl
theorem sub_eq (x : List UInt8) : ((strOf x).extract 0 2).toList = x.take 2 := by
  rw [ByteArray.toList_eq, extract_list]
  simp [strOf]
theorem drop_eq (x : List UInt8) : ((strOf x).extract 2 (strOf x).size).data.toList = x.drop 2 := by
  rw [extract_list]
  have hz : (strOf x).size = x.length := by simp [strOf, ByteArray.size]
  rw [hz, show (strOf x).data.toList = x from rfl]
  exact List.take_of_length_le (by simp)
theorem par_cells {w W w2 : World} {r : Rd} {vv : Value} (hb : Below W.heap.size W w2) (hl : w.heap.size + 8 ≤ W.heap.size)
    (k0 : W.heap[w.heap.size]? = some (.cells #[.int .i64 0, .int .i64 0, .slice none 0 0] 24 (0, 0))) (k1 : W.heap[w.heap.size + 1]? = some (.cells #[.int .i64 0] 27 (0, 0)))
    (k2 : W.heap[w.heap.size + 2]? = some (.cells #[.int .i64 r.base, .int .i64 r.exp, vv] 24 (0, 0))) (k3 : W.heap[w.heap.size + 3]? = some (.cells #[.bool r.kE] 4 (0, 0))) (k4 : W.heap[w.heap.size + 4]? = some (.cells #[.bool r.kB] 4 (0, 0))) :
    w2.cell? ⟨w.heap.size, 0, none⟩ = some (.int .i64 0) ∧ w2.cell? ⟨w.heap.size, 1, none⟩ = some (.int .i64 0) ∧ w2.cell? ⟨w.heap.size, 2, none⟩ = some (.slice none 0 0) ∧ w2.cell? ⟨w.heap.size + 1, 0, none⟩ = some (.int .i64 0) ∧
    w2.cell? ⟨w.heap.size + 2, 0, none⟩ = some (.int .i64 r.base) ∧ w2.cell? ⟨w.heap.size + 2, 1, none⟩ = some (.int .i64 r.exp) ∧ w2.cell? ⟨w.heap.size + 2, 2, none⟩ = some vv ∧ w2.cell? ⟨w.heap.size + 3, 0, none⟩ = some (.bool r.kE) ∧ w2.cell? ⟨w.heap.size + 4, 0, none⟩ = some (.bool r.kB) ∧
    w2.frozen? ⟨w.heap.size, 0, none⟩ = false ∧ w2.frozen? ⟨w.heap.size, 1, none⟩ = false ∧ w2.frozen? ⟨w.heap.size, 2, none⟩ = false ∧ w2.frozen? ⟨w.heap.size + 1, 0, none⟩ = false ∧ w2.frozen? ⟨w.heap.size + 2, 0, none⟩ = false ∧ w2.frozen? ⟨w.heap.size + 2, 1, none⟩ = false ∧ w2.frozen? ⟨w.heap.size + 2, 2, none⟩ = false ∧ w2.frozen? ⟨w.heap.size + 3, 0, none⟩ = false ∧ w2.frozen? ⟨w.heap.size + 4, 0, none⟩ = false ∧
    Ad (w2.heap[w.heap.size]? = some (.cells #[.int .i64 0, .int .i64 0, .slice none 0 0] 24 (0, 0))) ∧ Ad (w2.heap[w.heap.size + 1]? = some (.cells #[.int .i64 0] 27 (0, 0))) ∧ Ad (w2.heap[w.heap.size + 2]? = some (.cells #[.int .i64 r.base, .int .i64 r.exp, vv] 24 (0, 0))) ∧ Ad (w2.heap[w.heap.size + 3]? = some (.cells #[.bool r.kE] 4 (0, 0))) ∧ Ad (w2.heap[w.heap.size + 4]? = some (.cells #[.bool r.kB] 4 (0, 0))) := by
  have e0 := (hb.block w.heap.size (by omega)).trans k0
  have e1 := (hb.block (w.heap.size + 1) (by omega)).trans k1
  have e2 := (hb.block (w.heap.size + 2) (by omega)).trans k2
  have e3 := (hb.block (w.heap.size + 3) (by omega)).trans k3
  have e4 := (hb.block (w.heap.size + 4) (by omega)).trans k4
  exact ⟨bcl e0 0, bcl e0 1, bcl e0 2, bcl e1 0, bcl e2 0, bcl e2 1, bcl e2 2, bcl e3 0, bcl e4 0, bfz e0 0, bfz e0 1, bfz e0 2, bfz e1 0, bfz e2 0, bfz e2 1, bfz e2 2, bfz e3 0, bfz e4 0, ⟨e0⟩, ⟨e1⟩, ⟨e2⟩, ⟨e3⟩, ⟨e4⟩⟩
theorem par_fail {w W W1 : World} {B0 : Nat} {a : Act} {pre rest words : List (List UInt8)} {x : List UInt8} {r : Rd} (hB : B0 = w.heap.size + 8) (hw : words = pre ++ x :: rest) (hr : readLines rd0 pre = some r) (hst : stepLine r x = none) (hlt : w.heap.size + 8 ≤ W.heap.size)
    (k0 : W.heap[w.heap.size]? = some (.cells #[.int .i64 0, .int .i64 0, .slice none 0 0] 24 (0, 0))) (k1 : W.heap[w.heap.size + 1]? = some (.cells #[.int .i64 0] 27 (0, 0))) (h6 : Below w.heap.size w W) (hb : Below W.heap.size W W1) :
    postC B0 (KpR (w.heap.size + 5) (w.heap.size + 5 + 3)) (fun pre W => ParI w pre W) (fun c pre W => ParX w words c W) (pre ++ [x]) W .ret a
      ((((W1.setCell ⟨w.heap.size, 0, none⟩ (.int .i64 0)).setCell ⟨w.heap.size, 1, none⟩ (.int .i64 0)).setCell ⟨w.heap.size, 2, none⟩ (.slice none 0 0)).setCell ⟨w.heap.size + 1, 0, none⟩ (.int .i64 19)) := by
  subst hB
  refine ⟨(Hi.below hb (Nat.le_refl _)).trans ((Hi.others (KeepsOthers.setCell _ _ _)).trans ((Hi.others (KeepsOthers.setCell _ _ _)).trans ((Hi.others (KeepsOthers.setCell _ _ _)).trans (Hi.others (KeepsOthers.setCell _ _ _))))), rfl, ?_, ?_, ?_, ?_⟩
  · rw [hw, show pre ++ x :: rest = (pre ++ [x]) ++ rest by simp]
    exact readLines_none _ _ _ (by rw [readLines_snoc _ _ _ _ hr, hst])
  · refine blk_far (blk_put (cs := #[.int .i64 0, .int .i64 0, .slice none 0 0]) (blk_put (cs := #[.int .i64 0, .int .i64 0, .slice none 0 0]) (blk_put (cs := #[.int .i64 0, .int .i64 0, .slice none 0 0]) ?_ 0 _ rfl) 1 _ rfl) 2 _ rfl) (by simp) _
    exact (hb.block _ (by omega)).trans k0
  · refine blk_put (cs := #[.int .i64 0]) ?_ 0 _ rfl
    refine blk_far (blk_far (blk_far ?_ (by simp) _) (by simp) _) (by simp) _
    exact (hb.block _ (by omega)).trans k1
  · exact pbs (pbs (pbs (pbs (h6.trans (hb.mono (by omega))) (Nat.le_refl _)) (Nat.le_refl _)) (Nat.le_refl _)) (by omega)
theorem par_next {w W W9 : World} {B0 : Nat} {a : Act} {pre words : List (List UInt8)} {x : List UInt8} {r r' : Rd} {v' : Value} (hB : B0 = w.heap.size + 8) (hr : readLines rd0 pre = some r) (hst : stepLine r x = some r') (hlen : r'.ent.length ≤ pre.length + 1)
    (k0 : W9.heap[w.heap.size]? = some (.cells #[.int .i64 0, .int .i64 0, .slice none 0 0] 24 (0, 0))) (k1 : W9.heap[w.heap.size + 1]? = some (.cells #[.int .i64 0] 27 (0, 0)))
    (k2 : W9.heap[w.heap.size + 2]? = some (.cells #[.int .i64 r'.base, .int .i64 r'.exp, v'] 24 (0, 0))) (k3 : W9.heap[w.heap.size + 3]? = some (.cells #[.bool r'.kE] 4 (0, 0))) (k4 : W9.heap[w.heap.size + 4]? = some (.cells #[.bool r'.kB] 4 (0, 0)))
    (hR : k44.R 44 W9 w.heap.size (fun k => w.heap.size + 8 ≤ k) v' r'.ent) (h6 : Below w.heap.size w W9) (hi : Hi (w.heap.size + 8) W W9) (hkp : ∀ k, w.heap.size + 5 ≤ k → k < w.heap.size + 8 → W9.heap[k]? = W.heap[k]?) :
    postC B0 (KpR (w.heap.size + 5) (w.heap.size + 5 + 3)) (fun pre W => ParI w pre W) (fun c pre W => ParX w words c W) (pre ++ [x]) W .normal a W9 := by
  subst hB
  exact ⟨hi, fun k h1 h2 => hkp k h1 (by omega), r', v', by rw [readLines_snoc _ _ _ _ hr, hst], by simpa using hlen, k0, k1, k2, k3, k4, hR, h6⟩
end Go.Proofs.YtipbkcilpnlgnaaDoor.M
end
