/-
  A range over a function whose iterator WRITES ONE CAPTURED BLOCK between two rounds (strings.SplitSeq keeps the rest of its string so): the contract SeqC and the caller's law rangeC.
  The kit's laws ask that the caller's invariant abide the turn of blocks that are no cells; here the iterator may besides turn the block bs, of which the caller's invariant says nothing.
-/
import Derived.RangeFuncNested
import Derived.RangeFuncBound
import Derived.RangeFuncCalls
import Derived.RangeFuncLeaves
namespace Go.Proofs.YtipbkcilpnlgnaaDoor.RF
set_option linter.unusedVariables false
open Go Go.RowKit

/-- What an iterator's own step may turn: the block bs; new blocks. -/
structure Step (bs : Nat) (A B : World) : Prop where
  os : B.os = A.os
  tape : B.tape = A.tape
  output : B.output = A.output
  size : A.heap.size ≤ B.heap.size
  block : ∀ k, k ≠ bs → k < A.heap.size → B.heap[k]? = A.heap[k]?
theorem Step.refl (bs : Nat) (A : World) : Step bs A A := ⟨rfl, rfl, rfl, Nat.le_refl _, fun _ _ _ => rfl⟩
theorem Step.trans {bs : Nat} {A B C : World} (h : Step bs A B) (k : Step bs B C) : Step bs A C :=
  ⟨k.os.trans h.os, k.tape.trans h.tape, k.output.trans h.output, Nat.le_trans h.size k.size, fun i hi hl => (k.block i hi (Nat.lt_of_lt_of_le hl h.size)).trans (h.block i hi hl)⟩
theorem Step.below {bs n : Nat} {A B : World} (h : Below n A B) (hn : A.heap.size ≤ n) : Step bs A B :=
  ⟨h.os, h.tape, h.output, h.size, fun k _ hl => h.block k (Nat.lt_of_lt_of_le hl hn)⟩
/-- What the caller's invariant must abide: blocks below B0 and cells lie as they lay, but for bs. -/
structure Kept (bs B0 : Nat) (A B : World) : Prop where
  os : B.os = A.os
  tape : B.tape = A.tape
  output : B.output = A.output
  size : A.heap.size ≤ B.heap.size
  block : ∀ k o, k ≠ bs → A.heap[k]? = some o → (k < B0 ∨ o.isCells = true) → B.heap[k]? = some o
theorem Kept.refl (bs B0 : Nat) (A : World) : Kept bs B0 A A := ⟨rfl, rfl, rfl, Nat.le_refl _, fun _ _ _ h _ => h⟩
theorem Kept.trans {bs B0 : Nat} {A B C : World} (h : Kept bs B0 A B) (k : Kept bs B0 B C) : Kept bs B0 A C :=
  ⟨k.os.trans h.os, k.tape.trans h.tape, k.output.trans h.output, Nat.le_trans h.size k.size, fun i o hi ho hc => k.block i o hi (h.block i o hi ho hc) hc⟩
theorem Kept.of_step {bs B0 : Nat} {A B : World} (h : Step bs A B) : Kept bs B0 A B :=
  ⟨h.os, h.tape, h.output, h.size, fun k o hk ho _ => (h.block k hk (Array.getElem?_eq_some_iff.1 ho).1).trans ho⟩
theorem Step.alloc (bs : Nat) (A : World) (o : Obj) : Step bs A (A.alloc o) := Step.below ((Below.refl _ A).alloc (Nat.le_refl _) o) (Nat.le_refl _)
theorem Kept.putObj {bs B0 : Nat} {A : World} {l : Nat} {o : Obj} (o' : Obj) (hB : B0 ≤ l) (hl : A.heap[l]? = some o) (ho : o.isCells = false) : Kept bs B0 A (A.putObj l o') :=
  ⟨rfl, rfl, rfl, by simp [World.putObj], fun k q hk hq hc => by
    by_cases e : k = l
    · subst e
      rw [hl] at hq; cases hq
      rcases hc with hc | hc
      · omega
      · rw [ho] at hc; cases hc
    · exact (World.putObj_heap_other e).trans hq⟩
/-- What a round's body keeps of what was laid since the loop began. -/
structure Hi (B0 : Nat) (A B : World) : Prop where
  size : A.heap.size ≤ B.heap.size
  block : ∀ k, B0 ≤ k → k < A.heap.size → (∀ o, A.heap[k]? = some o → o.isCells = false) → B.heap[k]? = A.heap[k]?
theorem Hi.refl (B0 : Nat) (A : World) : Hi B0 A A := ⟨Nat.le_refl _, fun _ _ _ _ => rfl⟩
theorem Hi.trans {B0 : Nat} {A B C : World} (h : Hi B0 A B) (k : Hi B0 B C) : Hi B0 A C :=
  ⟨Nat.le_trans h.size k.size, fun i hi hl hc => by
    have e := h.block i hi hl hc
    exact (k.block i hi (Nat.lt_of_lt_of_le hl h.size) (by rw [e]; exact hc)).trans e⟩
theorem Hi.below {B0 n : Nat} {A B : World} (h : Below n A B) (hn : A.heap.size ≤ n) : Hi B0 A B := ⟨h.size, fun k _ hl _ => h.block k (Nat.lt_of_lt_of_le hl hn)⟩
theorem Hi.others {B0 : Nat} {A B : World} (h : KeepsOthers A B) : Hi B0 A B := ⟨h.size, fun k _ hl hc => by
  obtain ⟨o, ho⟩ : ∃ o, A.heap[k]? = some o := ⟨_, Array.getElem?_eq_some_iff.2 ⟨hl, rfl⟩⟩
  rw [ho]; exact h.same k o ho (hc o ho)⟩

def postC {α : Type} (B0 : Nat) (Kp : World → World → Prop) (I : List α → World → Prop) (Ix : Code → List α → World → Prop) (xs : List α) (W : World) : Exit → Act → World → Prop
  | .normal, _, W' => Hi B0 W W' ∧ Kp W W' ∧ I xs W'
  | .ret, _, W' => Hi B0 W W' ∧ Ix .ret xs W'
  | .exit id, _, W' => Hi B0 W W' ∧ Ix (.exit id) xs W'
  | .goto t, _, W' => Hi B0 W W' ∧ Ix (.goto t) xs W'
  | .panic _, _, _ => False
  | .outgrown, _, _ => False

/-- The contract of an iterator that gives just the list 'words', and between two rounds writes the block bs alone. -/
def SeqC {α : Type} (F : Fence) (n : Nat) (P : Program) (g : Nat) (lb : Array Value) (encs : α → Array Value) (Kp : World → World → Prop) (words : List α) (bs : Nat) (w : World) : Prop :=
  ∀ (l : Nat) (J Jx : List α → World → Prop) (W : World), Below w.heap.size w W → (∀ s A B, J s A → Step bs A B → J s B) → (∀ s A B, Jx s A → Step bs A B → Jx s B) →
    (∀ pre x rest W1, words = pre ++ x :: rest → J pre W1 → YieldAt F (n - 1) P l (encs x) W1 fun e W' =>
      (e = .returned (.bool true) ∧ J (pre ++ [x]) W' ∧ Kp W1 W') ∨ (e = .returned (.bool false) ∧ Jx (pre ++ [x]) W')) →
    J [] W →
    CallsIn F n P g (#[.func (.yield l) #[] #[]] ++ lb) W fun e W' => (∃ v, e = .returned v) ∧ (J words W' ∨ (∃ pre x rest, words = pre ++ x :: rest ∧ Jx (pre ++ [x]) W'))

variable {F : Fence} {n : Nat} {P : Program}

theorem rangeC {α : Type} {g : Operand} {ps : Array Tmp} {assign body : Code} {Q : Exit → Act → World → Prop} {a : Act} {w : World}
    (hro : F.round = none) (h1 : 1 ≤ n) {gf : Nat} {lb : Array Value} (hg : a.eval g = .func (.func gf) #[] lb) (hFg : F.fn gf) (eg : ∀ args w, (callFunc gf args).run P w = .ok (.enter gf args) w)
    {encs : α → Array Value} {Kp : World → World → Prop} {words : List α} {bs : Nat} {w0 : World} (hseq : SeqC F (n - 1) P gf lb encs Kp words bs w0)
    (hKt : ∀ {A B C : World}, Kp A B → Kp B C → Kp A C) (hKb : ∀ (W : World) (l : Nat) (o' : Obj), w.heap.size ≤ l → Kp W (W.putObj l o')) (hbs : bs < w.heap.size) (hb0 : Below w0.heap.size w0 w) (hps : ∀ x, (encs x).size = ps.size)
    (I : List α → World → Prop) (Ix : Code → List α → World → Prop) (hI : ∀ s A B, I s A → Kept bs w.heap.size A B → I s B) (hIx : ∀ c s A B, Ix c s A → Kept bs w.heap.size A B → Ix c s B) (h0 : I [] w) (a₁ : α → Act)
    (hassign : ∀ (l : Nat) (x : α) (W : World) (K : Act → World → Prop), K (a₁ x) W →
      assign.wpIn (F.inRound l) (n - 1 - 1) P (Exit.then K (fun _ _ _ => False)) { tmps := (ps.zip (encs x)).foldl (fun t (p, v) => t.setIfInBounds p v) a.tmps, defers := [] } W)
    (hbody : ∀ (l : Nat) (pre : List α) (x : α) (rest : List α) (W : World), words = pre ++ x :: rest → I pre W → w.heap.size ≤ W.heap.size → body.wpIn (F.inRound l) (n - 1 - 1) P (postC w.heap.size Kp I Ix (pre ++ [x]) W) (a₁ x) W)
    (hdone : ∀ (D : Nat) (W : World), w.heap.size ≤ D → I words W → W.heap[D]? = some (.deferred (some [])) → Q .normal { a with defers := { target := .collected D, args := #[] } :: a.defers } W)
    (hstop : ∀ (D : Nat) (c : Code) (pre : List α) (x : α) (rest : List α) (W : World), w.heap.size ≤ D → words = pre ++ x :: rest → Ix c (pre ++ [x]) W → W.heap[D]? = some (.deferred (some [])) → c.wpIn F n P Q { a with defers := { target := .collected D, args := #[] } :: a.defers } W) :
    (Code.rangeFunc g ps assign body).wpIn F n P Q a w := by
  refine wpIn_rangeFunc ?_
  intro fn hfn
  rw [hro]
  obtain ⟨rec, hrec⟩ : ∃ rec : LoopState → Option Code → Loop, rec = fun st pe => { state := st, pending := pe, fn, tmps := a.tmps, params := ps, assign, body, defers := w.heap.size } := ⟨_, rfl⟩
  obtain ⟨W1, hW1⟩ : ∃ W1, (w.alloc (.deferred (some []))).alloc (.loop (rec .ready none)) = W1 := ⟨_, rfl⟩
  have hL1 : W1.heap[w.heap.size + 1]? = some (.loop (rec .ready none)) := by
    rw [← hW1]; have := World.alloc_heap_new (w.alloc (.deferred (some []))) (.loop (rec .ready none)); rwa [World.size_alloc] at this
  have hK1 : W1.heap[w.heap.size]? = some (.deferred (some [])) := by
    rw [← hW1]; exact (Below.heap_alloc _ _ _ (by simp)).trans (World.alloc_heap_new w _)
  have hI1 : I [] W1 := by rw [← hW1]; exact hI _ _ _ (hI _ _ _ h0 (Kept.of_step (Step.alloc _ _ _))) (Kept.of_step (Step.alloc _ _ _))
  have hb1 : Below w0.heap.size w0 W1 := by
    rw [← hW1]; exact hb0.trans ((((Below.refl _ w).alloc (Nat.le_refl _) _).alloc (by simp) _).mono hb0.size)
  refine ⟨w.heap.size + 1, [{ target := .collected w.heap.size, args := #[] }], W1, { target := .fn (.func gf) lb, args := #[.func (.yield (w.heap.size + 1)) #[] #[]] }, W1, gf,
    #[.func (.yield (w.heap.size + 1)) #[] #[]] ++ lb, W1, ?_, ?_, ?_, ?_, fun _ => h1, ?_⟩
  · rw [← hW1, hrec]; exact run_enterLoop_outer _ _ _ _ _
  · simp only [resolve, hg]
    simp [go_sem]
  · intro f' hf'; simp [Target.leads] at hf'; subst hf'; exact hFg
  · simp [invoke, go_sem, eg]
  · have hst : ∀ {A B : World} {k : Nat} {o : Obj}, Step bs A B → w.heap.size ≤ k → A.heap[k]? = some o → B.heap[k]? = some o :=
      fun hs hk ho => (hs.block _ (by omega) (Array.getElem?_eq_some_iff.1 ho).1).trans ho
    refine (hseq (w.heap.size + 1)
      (fun pre W => I pre W ∧ W.heap[w.heap.size + 1]? = some (.loop (rec .ready none)) ∧ W.heap[w.heap.size]? = some (.deferred (some [])))
      (fun pre W => ∃ c, Ix c pre W ∧ W.heap[w.heap.size + 1]? = some (.loop (rec .done (some c))) ∧ W.heap[w.heap.size]? = some (.deferred (some [])))
      W1 hb1
      (fun s A B hs hg' => ⟨hI s A B hs.1 (Kept.of_step hg'), hst hg' (by omega) hs.2.1, hst hg' (Nat.le_refl _) hs.2.2⟩)
      (fun s A B hs hg' => by
        obtain ⟨c, hc, hl, hk⟩ := hs
        exact ⟨c, hIx c s A B hc (Kept.of_step hg'), hst hg' (by omega) hl, hst hg' (Nat.le_refl _) hk⟩)
      ?_ ⟨hI1, hL1, hK1⟩).mono ?_
    · rintro pre x rest W hw ⟨hi, hl, hk⟩
      have hlt : w.heap.size + 1 < W.heap.size := (Array.getElem?_eq_some_iff.1 hl).1
      have hy := run_yield (P := P) (args := encs x) hl (by rw [hrec]; exact hps x)
      rw [hrec] at hy
      refine ⟨fn, _, assign, body, hy, roundIn_of_wpIn hfn (hassign _ x W _ ⟨_, run_beginRound hl (by rw [hrec]), ?_⟩)⟩
      have hl2 : (W.putObj (w.heap.size + 1) (.loop { rec .ready none with state := .busy })).heap[w.heap.size + 1]? = some (.loop { rec .ready none with state := .busy }) := World.putObj_heap_same hlt
      have hk2 : (W.putObj (w.heap.size + 1) (.loop { rec .ready none with state := .busy })).heap[w.heap.size]? = some (.deferred (some [])) := (World.putObj_heap_other (by omega)).trans hk
      have hsz2 : (W.putObj (w.heap.size + 1) (.loop { rec .ready none with state := .busy })).heap.size = W.heap.size := by simp [World.putObj]
      have hw2 : Kp W (W.putObj (w.heap.size + 1) (.loop { rec .ready none with state := .busy })) := hKb _ _ _ (by omega)
      refine wpIn_mono (hbody _ pre x rest _ hw (hI _ _ _ hi (Kept.putObj _ (by omega) hl rfl)) (by rw [hsz2]; omega)) ?_
      have fin : ∀ (jump : Option Code) (W3 : World), Hi w.heap.size (W.putObj (w.heap.size + 1) (.loop { rec .ready none with state := .busy })) W3 →
          (Instr.endRound (w.heap.size + 1) jump).run P W3 = .ok (.bool jump.isNone) (W3.putObj (w.heap.size + 1) (.loop (rec (if jump.isNone then .ready else .done) jump))) ∧
          W3.heap[w.heap.size + 1]? = some (.loop { rec .ready none with state := .busy }) ∧
          (W3.putObj (w.heap.size + 1) (.loop (rec (if jump.isNone then .ready else .done) jump))).heap[w.heap.size + 1]? = some (.loop (rec (if jump.isNone then .ready else .done) jump)) ∧
          (W3.putObj (w.heap.size + 1) (.loop (rec (if jump.isNone then .ready else .done) jump))).heap[w.heap.size]? = some (.deferred (some [])) := fun jump W3 hk3 => by
        have hl3 := (hk3.block _ (by omega) (Array.getElem?_eq_some_iff.1 hl2).1 (fun o ho => by rw [hl2] at ho; cases ho; rfl)).trans hl2
        have hk4 := (hk3.block _ (Nat.le_refl _) (Array.getElem?_eq_some_iff.1 hk2).1 (fun o ho => by rw [hk2] at ho; cases ho; rfl)).trans hk2
        have := run_endRound (P := P) jump hl3
        rw [hrec] at this ⊢
        exact ⟨this, by rw [hrec] at hl3; exact hl3, World.putObj_heap_same (Array.getElem?_eq_some_iff.1 hl3).1, (World.putObj_heap_other (by omega)).trans hk4⟩
      rintro e a3 W3 hp
      cases e with
      | normal =>
        obtain ⟨hk3, hkp3, hi3⟩ := hp
        obtain ⟨hr, hl3, hl4, hk4⟩ := fin none W3 hk3
        exact ⟨_, _, hr, .inl ⟨rfl, ⟨hI _ _ _ hi3 (Kept.putObj _ (by omega) hl3 rfl), hl4, hk4⟩, hKt (hKt hw2 hkp3) (hKb _ _ _ (by omega))⟩⟩
      | ret =>
        obtain ⟨hk3, hi3⟩ := hp
        obtain ⟨hr, hl3, hl4, hk4⟩ := fin (some .ret) W3 hk3
        exact ⟨_, _, hr, .inr ⟨rfl, .ret, hIx _ _ _ _ hi3 (Kept.putObj _ (by omega) hl3 rfl), hl4, hk4⟩⟩
      | exit id =>
        obtain ⟨hk3, hi3⟩ := hp
        obtain ⟨hr, hl3, hl4, hk4⟩ := fin (some (.exit id)) W3 hk3
        exact ⟨_, _, hr, .inr ⟨rfl, .exit id, hIx _ _ _ _ hi3 (Kept.putObj _ (by omega) hl3 rfl), hl4, hk4⟩⟩
      | goto t =>
        obtain ⟨hk3, hi3⟩ := hp
        obtain ⟨hr, hl3, hl4, hk4⟩ := fin (some (.goto t)) W3 hk3
        exact ⟨_, _, hr, .inr ⟨rfl, .goto t, hIx _ _ _ _ hi3 (Kept.putObj _ (by omega) hl3 rfl), hl4, hk4⟩⟩
      | panic ch => exact hp.elim
      | outgrown => exact hp.elim
    · rintro e W2 ⟨⟨v, rfl⟩, (⟨hi, hl, hk⟩ | ⟨pre, x, rest, hw, c, hi, hl, hk⟩)⟩
      · exact ⟨none, _, by have := run_endLoop (P := P) hl (by rw [hrec]; simp); rw [hrec] at this; exact this, hdone _ _ (Nat.le_refl _) (hI _ _ _ hi (Kept.putObj _ (by omega) hl rfl)) ((World.putObj_heap_other (by omega)).trans hk)⟩
      · exact ⟨some c, _, by have := run_endLoop (P := P) hl (by rw [hrec]; simp); rw [hrec] at this; exact this, hstop _ c pre x rest _ (Nat.le_refl _) hw (hIx c _ _ _ hi (Kept.putObj _ (by omega) hl rfl)) ((World.putObj_heap_other (by omega)).trans hk)⟩

end Go.Proofs.YtipbkcilpnlgnaaDoor.RF
