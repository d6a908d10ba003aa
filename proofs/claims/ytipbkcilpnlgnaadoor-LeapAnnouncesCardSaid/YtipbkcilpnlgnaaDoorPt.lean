/-
  leap.TAI, leap.UTC, leap.Offset, plain: by recursion over the entries.
-/
import Derived.Test.YtipbkcilpnlgnaaDoorPa
namespace Go.Proofs.YtipbkcilpnlgnaaDoor.M
open Go.RowKit Go.Proofs.YtipbkcilpnlgnaaDoorG Go.Proofs.YtipbkcilpnlgnaaDoorW.PrintWords Go.Proofs.YtipbkcilpnlgnaaDoorW.PrintLast Go.Proofs.YtipbkcilpnlgnaaDoorW.PrintMore
set_option linter.unusedVariables false
set_option linter.unusedSimpArgs false
theorem chk_ok {b e : Int} {l : List S44} (h : chk b e l = 0) : l.length ≤ 64 ∧ (-1000 ≤ b ∧ b ≤ 1000) ∧ (-8000000000 ≤ e ∧ e ≤ 8000000000) ∧ (∀ x ∈ l, EntOk x) ∧ chkL b none l = 0 := by
  unfold chk at h
  split at h
  · cases h
  · split at h
    · rename_i h1 h2
      exact ⟨by omega, h2.1, h2.2.1, h2.2.2, h⟩
    · cases h
def cnt : List S44 → Int → Nat
  | [], _ => 0
  | e :: t, u => if e.f0 ≤ u then cnt t u + 1 else 0
def offR (o : Int) : List S44 → Int → Int
  | [], _ => o
  | e :: t, u => if e.f0 ≤ u then offR e.f1 t u else o
theorem cnt_le : ∀ (l : List S44) (u : Int), cnt l u ≤ l.length
  | [], _ => Nat.le_refl _
  | e :: t, u => by
    have := cnt_le t u
    unfold cnt
    split
    · simp only [List.length_cons]; omega
    · omega
theorem count_l0 (b e : Int) (l : List S44) (hl : l.length ≤ 1000) (u : Int) : ∀ (t : List S44) (i k : Nat), l.drop i = t → t.length + 1 ≤ k → i ≤ l.length → leap_count.l0 k u i b e l = some (((i + cnt t u : Nat)) : Int)
  | [], i, k, hd, hk, hi => by
    obtain ⟨k, rfl⟩ : ∃ j, k = j + 1 := ⟨k - 1, by omega⟩
    have : l.length ≤ i := by
      have := congrArg List.length hd
      rw [List.length_drop] at this
      simp only [List.length_nil] at this
      omega
    simp only [leap_count.l0]
    rw [if_neg (by omega)]
    rfl
  | x :: t, i, k, hd, hk, hi => by
    obtain ⟨k, rfl⟩ : ∃ j, k = j + 1 := ⟨k - 1, by omega⟩
    obtain ⟨hx, hlt, hd2⟩ := rd_drop l i x t hd
    have hw1 : wrap64 ((i : Int) + 1) = ((i + 1 : Nat) : Int) := by unfold wrap64; omega
    simp only [leap_count.l0]
    rw [if_pos (by omega), if_pos (by omega), hx, hw1]
    unfold cnt
    by_cases c : x.f0 ≤ u
    · rw [if_pos c, if_pos c, count_l0 b e l hl u t (i + 1) k hd2 (by simp only [List.length_cons] at hk; omega) hlt]
      congr 2; omega
    · rw [if_neg c, if_neg c]; rfl
theorem count_eq (k : Nat) (hk : 100 ≤ k) (b e : Int) (l : List S44) (hl : l.length ≤ 64) (u : Int) : leap_count.f k b e l u = some ((cnt l u : Nat) : Int) := by
  unfold leap_count.f
  have := count_l0 b e l (by omega) u l 0 k rfl (by omega) (by omega)
  rw [Nat.zero_add] at this
  exact this
theorem oldAt_cnt (b : Int) (l : List S44) (u : Int) : ∀ (t : List S44) (i : Nat), l.drop i = t → oldAt b l (i + cnt t u) = offR (oldAt b l i) t u
  | [], i, hd => rfl
  | x :: t, i, hd => by
    obtain ⟨hx, hlt, hd2⟩ := rd_drop l i x t hd
    unfold cnt offR
    by_cases c : x.f0 ≤ u
    · rw [if_pos c, if_pos c, show i + (cnt t u + 1) = (i + 1) + cnt t u by omega, oldAt_cnt b l u t (i + 1) hd2]
      show offR (rd_T44 l i).f1 t u = _
      rw [hx]
    · rw [if_neg c, if_neg c]; rfl
theorem off_eq (k : Nat) (hk : 400 ≤ k) (b e : Int) (l : List S44) (hc : chk b e l = 0) (u : Int) : leap_Offset.f k b e l u = some (offR b l u) := by
  obtain ⟨h1, h2, h3, h4, h5⟩ := chk_ok hc
  unfold leap_Offset.f
  rw [check_eq k hk, Option.bind_some, if_pos hc, count_eq k (by omega) b e l h1, Option.bind_some, old_eq b e l _ (cnt_le l u) (by omega), Option.bind_some]
  have := oldAt_cnt b l u l 0 rfl
  rw [Nat.zero_add] at this
  rw [this]; rfl
/-! TAI -/
def taiF (o : Int) (r : List S44) (u : Int) (x : Bool) : Option Int := match r with
  | [] => if x = true then none else some (u + o)
  | e :: _ => if x = true then (if e.f0 = u + 1 ∧ e.f1 - o = 1 then some (u + o + 1) else none) else (if e.f0 = u + 1 ∧ e.f1 - o = -1 then none else some (u + o))
def taiR (o : Int) : List S44 → Int → Bool → Option Int
  | [], u, x => taiF o [] u x
  | e :: t, u, x => if e.f0 ≤ u then taiR e.f1 t u x else taiF o (e :: t) u x
theorem taiR_eq : ∀ (l : List S44) (o u : Int) (x : Bool), taiR o l u x = taiF (offR o l u) (l.drop (cnt l u)) u x
  | [], o, u, x => rfl
  | e :: t, o, u, x => by
    unfold taiR offR cnt
    by_cases c : e.f0 ≤ u
    · rw [if_pos c, if_pos c, if_pos c, taiR_eq t]; rfl
    · rw [if_neg c, if_neg c, if_neg c]; rfl
def tai (b : Int) (l : List S44) (u : Int) (x : Bool) : Int × Int :=
  if -8000000000 ≤ u ∧ u ≤ 8000000000 then (match taiR b l u x with | some T => (T, 0) | none => (0, 11)) else (0, 3)
theorem offR_b {b : Int} {l : List S44} (hb : -1000 ≤ b ∧ b ≤ 1000) (hE : ∀ x ∈ l, EntOk x) (u : Int) : -1000 ≤ offR b l u ∧ offR b l u ≤ 1000 := by
  induction l generalizing b with
  | nil => exact hb
  | cons e t ih =>
    unfold offR
    split
    · exact ih (hE e List.mem_cons_self).2 (fun x hx => hE x (List.mem_cons_of_mem _ hx))
    · exact hb
theorem tai_eq (k : Nat) (hk : 400 ≤ k) (b e : Int) (l : List S44) (hc : chk b e l = 0) (u : Int) (x : Bool) : leap_TAI.f k b e l u x = some (tai b l u x) := by
  obtain ⟨h1, h2, h3, h4, h5⟩ := chk_ok hc
  obtain ⟨k, rfl⟩ : ∃ j, k = j + 1 := ⟨k - 1, by omega⟩
  unfold leap_TAI.f tai
  rw [check_eq _ hk, Option.bind_some, if_pos hc, inside_eq, Option.bind_some]
  by_cases c : -8000000000 ≤ u ∧ u ≤ 8000000000
  · rw [if_pos (decide_eq_true c), if_pos c]
    have ho := offR_b h2 h4 u
    have hold := old_eq b e l (cnt l u) (cnt_le l u) (by omega)
    have hoc := oldAt_cnt b l u l 0 rfl
    rw [Nat.zero_add] at hoc
    rw [show oldAt b l 0 = b from rfl] at hoc
    rw [hoc] at hold
    have hw : wrap64 (u + offR b l u) = u + offR b l u := by unfold wrap64; omega
    have hw2 : wrap64 (u + offR b l u + 1) = u + offR b l u + 1 := by unfold wrap64; omega
    have hw3 : wrap64 (u + 1) = u + 1 := by unfold wrap64; omega
    have hch : ∃ ch : Int, leap_changes.f (k + 1) b e l u = some ch ∧ (∀ T, taiR b l u true = some T ↔ ch = 1 ∧ T = u + offR b l u + 1) ∧ (∀ T, taiR b l u false = some T ↔ ch ≠ -1 ∧ T = u + offR b l u) := by
      unfold leap_changes.f
      rw [count_eq _ (by omega) b e l h1, Option.bind_some]
      have hcl := cnt_le l u
      by_cases cn : cnt l u = l.length
      · refine ⟨0, by rw [if_pos (by omega)], ?_, ?_⟩
        · intro T
          rw [taiR_eq, cn, List.drop_length]
          simp [taiF]
        · intro T
          rw [taiR_eq, cn, List.drop_length]
          simp [taiF, eq_comm]
      · have hlt : cnt l u < l.length := by omega
        rw [if_neg (by omega), if_pos (by omega), if_pos (by omega), hw3]
        have hd : l.drop (cnt l u) = l[cnt l u] :: l.drop (cnt l u + 1) := List.drop_eq_getElem_cons hlt
        obtain ⟨hx, -, -⟩ := rd_drop l _ _ _ hd
        rw [hx]
        generalize hy : l[cnt l u] = y at *
        have hym := (h4 y (by rw [← hy]; exact List.getElem_mem hlt)).2
        by_cases cy : y.f0 = u + 1
        · rw [if_pos cy, hold, Option.bind_some]
          have hw4 : wrap64 (y.f1 - offR b l u) = y.f1 - offR b l u := by unfold wrap64; omega
          rw [hw4]
          refine ⟨_, rfl, ?_, ?_⟩
          · intro T
            rw [taiR_eq, hd]
            simp only [taiF, if_true, cy, true_and]
            by_cases c1 : y.f1 - offR b l u = 1
            · rw [if_pos c1]; simp [c1, eq_comm]
            · rw [if_neg c1]; simp [c1]
          · intro T
            rw [taiR_eq, hd]
            simp only [taiF, Bool.false_eq_true, if_false, cy, true_and]
            by_cases c1 : y.f1 - offR b l u = -1
            · rw [if_pos c1]; simp [c1]
            · rw [if_neg c1]; simp [c1, eq_comm]
        · rw [if_neg cy]
          refine ⟨0, rfl, ?_, ?_⟩
          · intro T
            rw [taiR_eq, hd]
            simp [taiF, cy]
          · intro T
            rw [taiR_eq, hd]
            simp [taiF, cy, eq_comm]
    obtain ⟨ch, hch, ht, hf⟩ := hch
    rw [hch, Option.bind_some, count_eq _ (by omega) b e l h1, Option.bind_some, hold, Option.bind_some, hw]
    cases x with
    | true =>
      rw [if_pos rfl]
      simp only [leap_TAI.j0]
      by_cases c1 : ch = 1
      · rw [if_pos (beq_iff_eq.mpr c1), hw2, (ht _).2 ⟨c1, rfl⟩]
      · rw [if_neg (by simpa using c1), if_pos trivial]
        cases hr : taiR b l u true with
        | none => rfl
        | some T => exact (c1 ((ht T).1 hr).1).elim
    | false =>
      rw [if_neg (by decide)]
      simp only [leap_TAI.j0]
      rw [if_neg (by decide), if_neg (by decide)]
      by_cases c1 : ch = -1
      · rw [if_pos c1]
        cases hr : taiR b l u false with
        | none => rfl
        | some T => exact (((hf T).1 hr).1 c1).elim
      · rw [if_neg c1, (hf _).2 ⟨c1, rfl⟩]
  · rw [if_neg (by rw [decide_eq_false c]; decide), if_neg c]
/-! UTC -/
def utcR (o : Int) : List S44 → Int → Int × Bool
  | [], T => (T - o, false)
  | e :: t, T => if T < e.f0 + e.f1 then (if e.f1 > o ∧ T = e.f0 + e.f1 - 1 then (e.f0 - 1, true) else (T - o, false)) else utcR e.f1 t T
def utc (b : Int) (l : List S44) (T : Int) : Int × Bool × Int :=
  if T < -8000002000 ∨ T > 8000002000 then (0, false, 3)
  else if -8000000000 ≤ (utcR b l T).1 ∧ (utcR b l T).1 ≤ 8000000000 then ((utcR b l T).1, (utcR b l T).2, 0) else (0, false, 3)
theorem j2_eq (k : Nat) (T o u : Int) (x : Bool) (hT : -8000002000 ≤ T ∧ T ≤ 8000002000) (ho : -1000 ≤ o ∧ o ≤ 1000) : leap_UTC.j2 (k + 1) T o u x = some (if -8000000000 ≤ (if x = true then u else T - o) ∧ (if x = true then u else T - o) ≤ 8000000000 then ((if x = true then u else T - o), x, 0) else (0, false, 3)) := by
  have hw : wrap64 (T - o) = T - o := by unfold wrap64; omega
  simp only [leap_UTC.j2, hw]
  cases x with
  | true =>
    simp only [if_true]
    rw [inside_eq, Option.bind_some]
    by_cases c : -8000000000 ≤ u ∧ u ≤ 8000000000
    · rw [if_pos (decide_eq_true c), if_pos c]
    · rw [if_neg (by rw [decide_eq_false c]; decide), if_neg c]
  | false =>
    simp only [Bool.false_eq_true, if_false]
    rw [inside_eq, Option.bind_some]
    by_cases c : -8000000000 ≤ T - o ∧ T - o ≤ 8000000000
    · rw [if_pos (decide_eq_true c), if_pos c]
    · rw [if_neg (by rw [decide_eq_false c]; decide), if_neg c]
theorem utc_l0 (l : List S44) (hl : l.length ≤ 64) (hE : ∀ x ∈ l, EntOk x) (T u0 : Int) (hT : -8000002000 ≤ T ∧ T ≤ 8000002000) : ∀ (t : List S44) (i k : Nat) (o : Int), l.drop i = t → t.length + 2 ≤ k → i ≤ l.length → (-1000 ≤ o ∧ o ≤ 1000) →
    leap_UTC.l0 k T o u0 false l (l.length : Int) i = some (if -8000000000 ≤ (utcR o t T).1 ∧ (utcR o t T).1 ≤ 8000000000 then ((utcR o t T).1, (utcR o t T).2, 0) else (0, false, 3))
  | [], i, k, o, hd, hk, hi, ho => by
    obtain ⟨k, rfl⟩ : ∃ j, k = j + 2 := ⟨k - 2, by simp only [List.length_nil] at hk; omega⟩
    have : l.length ≤ i := by
      have := congrArg List.length hd
      rw [List.length_drop] at this
      simp only [List.length_nil] at this
      omega
    simp only [leap_UTC.l0]
    rw [if_neg (by omega), j2_eq k T o u0 false hT ho]
    simp only [Bool.false_eq_true, if_false, utcR]
    rfl
  | x :: t, i, k, o, hd, hk, hi, ho => by
    obtain ⟨k, rfl⟩ : ∃ j, k = j + 2 := ⟨k - 2, by simp only [List.length_cons] at hk; omega⟩
    obtain ⟨hx, hlt, hd2⟩ := rd_drop l i x t hd
    have hxe := hE x (List.mem_of_mem_drop (by rw [hd]; exact List.mem_cons_self))
    have hw1 : wrap64 ((i : Int) + 1) = ((i + 1 : Nat) : Int) := by unfold wrap64; omega
    have hw2 : wrap64 (x.f0 + x.f1) = x.f0 + x.f1 := by have := hxe.1; have := hxe.2; unfold wrap64; omega
    have hw3 : wrap64 (x.f0 + x.f1 - 1) = x.f0 + x.f1 - 1 := by have := hxe.1; have := hxe.2; unfold wrap64; omega
    have hw4 : wrap64 (x.f0 - 1) = x.f0 - 1 := by have := hxe.1; unfold wrap64; omega
    simp only [leap_UTC.l0]
    rw [if_pos (by omega), if_pos (by omega), if_pos (by omega), hx, hw1, hw2, hw3, hw4]
    unfold utcR
    by_cases c : T < x.f0 + x.f1
    · rw [if_pos c, if_pos c]
      by_cases c2 : x.f1 > o
      · rw [if_pos c2, j2_eq k T o _ _ hT ho]
        by_cases c3 : T = x.f0 + x.f1 - 1
        · rw [if_pos (show x.f1 > o ∧ T = x.f0 + x.f1 - 1 from ⟨c2, c3⟩), beq_iff_eq.mpr c3]; simp only [if_true]
        · rw [if_neg (show ¬ (x.f1 > o ∧ T = x.f0 + x.f1 - 1) from fun h => c3 h.2), beq_eq_false_iff_ne.mpr c3]; simp only [Bool.false_eq_true, if_false]
      · rw [if_neg c2, j2_eq k T o _ _ hT ho, if_neg (show ¬ (x.f1 > o ∧ T = x.f0 + x.f1 - 1) from fun h => c2 h.1)]; simp only [Bool.false_eq_true, if_false]
    · rw [if_neg c, if_neg c]
      exact utc_l0 l hl hE T u0 hT t (i + 1) (k + 1) x.f1 hd2 (by simp only [List.length_cons] at hk; omega) hlt hxe.2
theorem utc_eq (k : Nat) (hk : 400 ≤ k) (b e : Int) (l : List S44) (hc : chk b e l = 0) (T : Int) : leap_UTC.f k b e l T = some (utc b l T) := by
  obtain ⟨h1, h2, h3, h4, h5⟩ := chk_ok hc
  obtain ⟨k, rfl⟩ : ∃ j, k = j + 1 := ⟨k - 1, by omega⟩
  unfold leap_UTC.f utc
  rw [check_eq _ hk, Option.bind_some, if_pos hc]
  by_cases c1 : T < -8000002000
  · rw [if_pos c1, if_pos (Or.inl c1)]
    simp [leap_UTC.j0]
  · rw [if_neg c1]
    by_cases c2 : T > 8000002000
    · rw [if_pos (Or.inr c2)]
      simp [leap_UTC.j0, c2]
    · rw [if_neg (show ¬ (T < -8000002000 ∨ T > 8000002000) by omega)]
      simp only [leap_UTC.j0]
      rw [if_neg (by simpa using c2)]
      exact utc_l0 l h1 h4 T 0 ⟨by omega, by omega⟩ l 0 k b rfl (by omega) (by omega) h2
end Go.Proofs.YtipbkcilpnlgnaaDoor.M
