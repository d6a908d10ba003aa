/-
  What leap.Parse needs, plain: what it keeps between two rounds; a drawn region in a round.
-/
import Derived.Test.YtipbkcilpnlgnaaDoorExtO
import Derived.Test.YtipbkcilpnlgnaaDoorExtS
namespace Go.Proofs.YtipbkcilpnlgnaaDoor.M
open Go.RowKit Go.Shelf Go.Proofs.YtipbkcilpnlgnaaDoorG Go.Proofs.YtipbkcilpnlgnaaDoorW.PrintWords Go.Proofs.YtipbkcilpnlgnaaDoorW.PrintLast Go.Proofs.YtipbkcilpnlgnaaDoorW.PrintMore
open Go.Proofs.YtipbkcilpnlgnaaDoor.RF
set_option linter.unusedVariables false
set_option linter.unusedSimpArgs false
section
variable {P : Program} {ops : Array Oper} {Q : Exit → Act → World → Prop} {r nF : Nat}
theorem rows_in {row : String} {args : Array Value} {w : World} {R : Value → World → Prop} (h : Rows P row args w R) : RowsIn (Fence.wide.inRound r) nF P row args w R :=
  fun c cs _ => let ⟨v, w', r, s⟩ := h c cs; ⟨v, w', r, stepsIn_wide.2 s⟩
theorem oper_in {o : Oper} {a : Act} {w : World} {K : Act → World → Prop} (hd : ∀ c, o.op ≠ .defer c) (h : o.wp P a w K Q) : o.wpIn (Fence.wide.inRound r) nF P a w K Q := by
  unfold Oper.wp at h
  unfold Oper.wpIn
  refine ⟨fun _ _ => trivial, ?_⟩
  rw [show (Fence.wide.inRound r).round = some r from rfl, Oper.semAt_some r _ _ hd]
  revert h
  generalize (execOp a.eval o).run P w = res
  intro h
  match res, h with
  | .ok (.value v) w', h => exact h
  | .ok .skip w', h => exact h
  | .ok (.defer d) w', h => exact h
  | .ok (.enter f args) w', h => exact ⟨fun h => (by cases h), (callsIn_wide.2 h)⟩
  | .ok (.row row args) w', h => exact ⟨fun h => (by cases h), rows_in h⟩
  | .halt (.panic v) w', h => exact h
theorem any_in (hno : ¬ LetsOut Q) (hd : ∀ (i : Nat) (o : Oper), ops[i]? = some o → ∀ c, o.op ≠ .defer c) {md : Region.Mode} : ∀ (fuel : Nat) (listed : Array Bool) (a : Act) (w : World), wpAny P md ops Q fuel listed a w → wpAnyIn (Fence.wide.inRound r) nF P md ops Q fuel listed a w
  | 0, listed, a, w, h => h
  | fuel + 1, listed, a, w, h => by
    refine ⟨h.1, fun i hi => ?_⟩
    have h2 := h.2 i hi
    unfold wpOp at h2
    unfold wpOpIn
    cases ho : ops[i]? with
    | none =>
      rw [ho] at h2
      exact any_in hno hd fuel _ a w h2
    | some o =>
      rw [ho] at h2
      simp only at h2 ⊢
      split
      · rename_i hw
        rw [if_pos hw] at h2
        rcases h2 with h2 | h2
        · exact Oper.wpIn_mono (fun a w h => any_in hno hd fuel _ a w h) (oper_in (hd i o ho) h2)
        · exact (hno h2.2).elim
      · rename_i hw
        rw [if_neg hw] at h2
        exact ⟨fun _ _ => trivial, any_in hno hd fuel _ _ w h2⟩
theorem startIn_ {id n : Nat} {S : World → Prop} {ds : List Nat} {a : Act} {w : World} (l : Array Bool) (hm : P.follows .mixedOrders = true) (hn : ops.size = n) (hl : Array.replicate n false = l)
    (hd : ops.all (fun o => match o.op with | .defer _ => false | _ => true) = true) (hno : ¬ LetsOut Q) (hS : S w.drew)
    (h : S w.drew → wpAnyLast P .any ops Q S ds n l a w.drew) : (Code.region id ops true).wpIn (Fence.wide.inRound r) nF P Q a w := by
  subst hn
  subst hl
  refine wpIn_region_any hm (any_in hno ?_ _ _ _ _ (wpAny_of_last _ _ _ _ (h hS)))
  intro i o ho c hc
  have := (Array.all_eq_true_iff_forall_mem.1 hd) o (Array.mem_of_getElem? ho)
  rw [hc] at this
  cases this
end
theorem wordsC_len (c : UInt8) : ∀ (l x : List UInt8), x ∈ wordsC c l → x.length ≤ l.length
  | [], x, h => by
    have : x = [] := by simpa [wordsC] using h
    rw [this]; simp
  | b :: l, x, h => by
    unfold wordsC at h
    by_cases hb : b = c
    · rw [if_pos hb] at h
      rcases List.mem_cons.1 h with rfl | h
      · simp
      · have := wordsC_len c l x h
        simp only [List.length_cons]; omega
    · rw [if_neg hb] at h
      cases hw : wordsC c l with
      | nil =>
        rw [hw] at h
        have : x = [b] := by simpa using h
        rw [this]; simp
      | cons y t =>
        rw [hw] at h
        rcases List.mem_cons.1 h with rfl | h
        · have := wordsC_len c l y (by rw [hw]; simp)
          simp only [List.headD_cons, List.length_cons]; omega
        · have := wordsC_len c l x (by rw [hw]; exact List.mem_cons_of_mem _ h)
          simp only [List.length_cons]; omega
theorem wordsC_ne (c : UInt8) (l : List UInt8) : wordsC c l ≠ [] := by
  cases l with
  | nil => simp [wordsC]
  | cons b l =>
    unfold wordsC
    split <;> simp
theorem wordsC_count (c : UInt8) : ∀ (l : List UInt8), (wordsC c l).length ≤ l.length + 1
  | [] => by simp [wordsC]
  | b :: l => by
    have h := wordsC_count c l
    have hn := wordsC_ne c l
    unfold wordsC
    split
    · simp only [List.length_cons]; omega
    · cases hw : wordsC c l with
      | nil => exact absurd hw hn
      | cons y t => rw [hw] at h; simp only [List.tail_cons, List.length_cons] at *; omega
theorem readLines_snoc : ∀ (l : List (List UInt8)) (x : List UInt8) (a r : Rd), readLines a l = some r → readLines a (l ++ [x]) = stepLine r x
  | [], x, a, r, h => by
    obtain rfl := Option.some.inj h
    rw [List.nil_append]
    unfold readLines
    cases stepLine a x <;> rfl
  | w :: l, x, a, r, h => by
    rw [List.cons_append]
    unfold readLines at h
    rw [readLines]
    split at h
    · exact readLines_snoc l x _ r h
    · cases h
theorem readLines_none : ∀ (l m : List (List UInt8)) (a : Rd), readLines a l = none → readLines a (l ++ m) = none
  | [], m, a, h => by cases h
  | w :: l, m, a, h => by
    rw [List.cons_append]
    unfold readLines at h
    rw [readLines]
    split at h
    · exact readLines_none l m _ h
    · rfl
def rd0 : Rd := ⟨0, 0, [], false, false⟩
def resZ : Obj := .cells #[.int .i64 0, .int .i64 0, .slice none 0 0] 24 (0, 0)
/-- What leap.Parse keeps between two rounds: n is the first block of its own. -/
def ParI (w : World) (pre : List (List UInt8)) (W : World) : Prop :=
  ∃ (r : Rd) (v : Value), readLines rd0 pre = some r ∧ r.ent.length ≤ pre.length ∧
    W.heap[w.heap.size]? = some (.cells #[.int .i64 0, .int .i64 0, .slice none 0 0] 24 (0, 0)) ∧ W.heap[w.heap.size + 1]? = some (.cells #[.int .i64 0] 27 (0, 0)) ∧
    W.heap[w.heap.size + 2]? = some (.cells #[.int .i64 r.base, .int .i64 r.exp, v] 24 (0, 0)) ∧ W.heap[w.heap.size + 3]? = some (.cells #[.bool r.kE] 4 (0, 0)) ∧ W.heap[w.heap.size + 4]? = some (.cells #[.bool r.kB] 4 (0, 0)) ∧
    k44.R 44 W w.heap.size (fun k => w.heap.size + 8 ≤ k) v r.ent ∧ Below w.heap.size w W
theorem ParI.kept {w A B : World} {pre : List (List UInt8)} (h : ParI w pre A) (hk : Kept (w.heap.size + 5) (w.heap.size + 8) A B) : ParI w pre B := by
  obtain ⟨r, v, h1, h2, k0, k1, k2, k3, k4, h5, h6⟩ := h
  exact ⟨r, v, h1, h2, blk_at k0 hk (by omega), blk_at k1 hk (by omega), blk_at k2 hk (by omega), blk_at k3 hk (by omega), blk_at k4 hk (by omega), R_kept h5 hk (by omega), below_kept h6 hk (by omega) (by omega) (Nat.le_refl _)⟩
/-- What it leaves when a line is bad. -/
def ParX (w : World) (words : List (List UInt8)) (c : Code) (W : World) : Prop :=
  c = .ret ∧ readLines rd0 words = none ∧ W.heap[w.heap.size]? = some (.cells #[.int .i64 0, .int .i64 0, .slice none 0 0] 24 (0, 0)) ∧ W.heap[w.heap.size + 1]? = some (.cells #[.int .i64 19] 27 (0, 0)) ∧ Below w.heap.size w W
theorem ParX.kept {w A B : World} {words : List (List UInt8)} {c : Code} (h : ParX w words c A) (hk : Kept (w.heap.size + 5) (w.heap.size + 8) A B) : ParX w words c B := by
  obtain ⟨h0, h1, k0, k1, h6⟩ := h
  exact ⟨h0, h1, blk_at k0 hk (by omega), blk_at k1 hk (by omega), below_kept h6 hk (by omega) (by omega) (Nat.le_refl _)⟩
end Go.Proofs.YtipbkcilpnlgnaaDoor.M
