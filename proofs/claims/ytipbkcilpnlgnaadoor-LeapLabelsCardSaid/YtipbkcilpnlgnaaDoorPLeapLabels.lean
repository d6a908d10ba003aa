/-
  LeapLabels, plain: the reference's TAI and UTC are the program's.
-/
import Derived.Test.YtipbkcilpnlgnaaDoorPr
import Derived.Test.YtipbkcilpnlgnaaDoorPg
namespace Go.Proofs.YtipbkcilpnlgnaaDoor.M
open Go.RowKit Go.Proofs.YtipbkcilpnlgnaaDoorG Go.Proofs.YtipbkcilpnlgnaaDoorW.PA Go.Proofs.YtipbkcilpnlgnaaDoorW.PB Go.Proofs.YtipbkcilpnlgnaaDoorW.PC
set_option linter.unusedVariables false
set_option linter.unusedSimpArgs false
theorem good_lt' : ∀ (l : List S44) (o p : Int), Good o (some p) l → ∀ x ∈ l, p < x.f0
  | [], o, p, _, x, hx => by cases hx
  | e :: t, o, p, hg, x, hx => by
    obtain ⟨h1, h2, h3⟩ := hg
    have h1 := h1 p rfl
    rcases List.mem_cons.1 hx with rfl | hx
    · omega
    · have := good_lt' t e.f1 e.f0 h3 x hx
      omega
def chR (o m : Int) : List S44 → Int
  | [] => 0
  | e :: t => if e.f0 = m then e.f1 - o else chR e.f1 m t
theorem change_l0 (b e : Int) (l : List S44) (hl : l.length ≤ 64) (hE : ∀ x ∈ l, EntOk x) (hb : -1000 ≤ b ∧ b ≤ 1000) (m : Int) : ∀ (t : List S44) (i k : Nat), l.drop i = t → t.length + 1 ≤ k → i ≤ l.length →
    r6_change.l0 k m i b e l = some (chR (oldAt b l i) m t)
  | [], i, k, hd, hk, hi => by
    obtain ⟨k, rfl⟩ : ∃ j, k = j + 1 := ⟨k - 1, by omega⟩
    have : l.length ≤ i := by
      have := congrArg List.length hd
      rw [List.length_drop] at this
      simp only [List.length_nil] at this
      omega
    simp only [r6_change.l0]
    rw [if_neg (by omega)]
    rfl
  | x :: t, i, k, hd, hk, hi => by
    obtain ⟨k, rfl⟩ : ∃ j, k = j + 1 := ⟨k - 1, by omega⟩
    obtain ⟨hx, hlt, hd2⟩ := rd_drop l i x t hd
    have hxe := (hE x (List.mem_of_mem_drop (by rw [hd]; exact List.mem_cons_self))).2
    have hob : -1000 ≤ oldAt b l i ∧ oldAt b l i ≤ 1000 := by
      cases i with
      | zero => exact hb
      | succ j => exact (hE _ (mem_rd (by omega) (by omega))).2
    have hw1 : wrap64 ((i : Int) + 1) = ((i + 1 : Nat) : Int) := by unfold wrap64; omega
    have hw2 : wrap64 (x.f1 - oldAt b l i) = x.f1 - oldAt b l i := by unfold wrap64; omega
    have hnx : oldAt b l (i + 1) = x.f1 := by show (rd_T44 l i).f1 = _; rw [hx]
    simp only [r6_change.l0]
    rw [if_pos (by omega), if_pos (by omega), hx, hw1, chR]
    by_cases c : x.f0 = m
    · rw [if_pos c, if_pos c, refold_eq b e l i (by omega) (by omega), Option.bind_some, hw2]
    · rw [if_neg c, if_neg c, change_l0 b e l hl hE hb m t (i + 1) k hd2 (by simp only [List.length_cons] at hk; omega) hlt, hnx]
def offN (o u : Int) : List S44 → Int
  | [] => o
  | e :: t => if e.f0 ≤ u then offN e.f1 u t else offN o u t
theorem offset_l0 (b e : Int) (l : List S44) (hl : l.length ≤ 64) (u : Int) : ∀ (t : List S44) (i k : Nat) (o : Int), l.drop i = t → t.length + 1 ≤ k → i ≤ l.length →
    r6_offset.l0 k u o i b e l = some (offN o u t)
  | [], i, k, o, hd, hk, hi => by
    obtain ⟨k, rfl⟩ : ∃ j, k = j + 1 := ⟨k - 1, by omega⟩
    have : l.length ≤ i := by
      have := congrArg List.length hd
      rw [List.length_drop] at this
      simp only [List.length_nil] at this
      omega
    simp only [r6_offset.l0]
    rw [if_neg (by omega)]
    rfl
  | x :: t, i, k, o, hd, hk, hi => by
    obtain ⟨k, rfl⟩ : ∃ j, k = j + 1 := ⟨k - 1, by omega⟩
    obtain ⟨hx, hlt, hd2⟩ := rd_drop l i x t hd
    have hw1 : wrap64 ((i : Int) + 1) = ((i + 1 : Nat) : Int) := by unfold wrap64; omega
    have ih := fun o => offset_l0 b e l hl u t (i + 1) k o hd2 (by simp only [List.length_cons] at hk; omega) hlt
    simp only [r6_offset.l0]
    rw [if_pos (by omega), if_pos (by omega), hx, hw1, offN]
    by_cases c : x.f0 ≤ u
    · rw [if_pos c, if_pos c, ih]
    · rw [if_neg c, if_neg c, ih]
theorem offN_none (o u : Int) : ∀ (t : List S44), (∀ x ∈ t, u < x.f0) → offN o u t = o
  | [], _ => rfl
  | e :: t, h => by
    have := h e List.mem_cons_self
    rw [offN, if_neg (by omega)]
    exact offN_none o u t (fun x hx => h x (List.mem_cons_of_mem _ hx))
theorem offN_eq (u : Int) : ∀ (l : List S44) (o : Int) (p : Option Int), Good o p l → offN o u l = offR o l u
  | [], o, p, _ => rfl
  | e :: t, o, p, hg => by
    obtain ⟨h1, h2, h3⟩ := hg
    rw [offN, offR]
    by_cases c : e.f0 ≤ u
    · rw [if_pos c, if_pos c, offN_eq u t _ _ h3]
    · rw [if_neg c, if_neg c, offN_none o u t (fun x hx => by have := good_lt' t e.f1 e.f0 h3 x hx; omega)]
theorem chR_none (m : Int) : ∀ (t : List S44) (o : Int), (∀ x ∈ t, m < x.f0) → chR o m t = 0
  | [], o, _ => rfl
  | e :: t, o, h => by
    have := h e List.mem_cons_self
    rw [chR, if_neg (by omega)]
    exact chR_none m t _ (fun x hx => h x (List.mem_cons_of_mem _ hx))
theorem taiR_ch (u : Int) (x : Bool) : ∀ (l : List S44) (o : Int) (p : Option Int), Good o p l →
    taiR o l u x = if x = true then (if chR o (u + 1) l = 1 then some (u + offR o l u + 1) else none) else (if chR o (u + 1) l = -1 then none else some (u + offR o l u))
  | [], o, p, _ => by
    rw [taiR_nil, taiF_nil]
    cases x <;> simp [chR, offR]
  | e :: t, o, p, hg => by
    obtain ⟨h1, h2, h3⟩ := hg
    rw [taiR_cons]
    by_cases c : e.f0 ≤ u
    · have ec : chR o (u + 1) (e :: t) = chR e.f1 (u + 1) t := by rw [chR, if_neg (by omega)]
      have eo : offR o (e :: t) u = offR e.f1 t u := by rw [offR, if_pos c]
      rw [if_pos c, ec, eo]
      exact taiR_ch u x t _ _ h3
    · have eo : offR o (e :: t) u = o := by rw [offR, if_neg c]
      rw [if_neg c, taiF_cons, eo]
      by_cases c1 : e.f0 = u + 1
      · have ec : chR o (u + 1) (e :: t) = e.f1 - o := by rw [chR, if_pos c1]
        rw [ec]
        simp only [c1, true_and]
      · have ec : chR o (u + 1) (e :: t) = 0 := by
          rw [chR, if_neg c1]
          exact chR_none _ t _ (fun y hy => by have := good_lt' t e.f1 e.f0 h3 y hy; omega)
        rw [ec, if_neg (show ¬ (e.f0 = u + 1 ∧ e.f1 - o = 1) from fun h => c1 h.1), if_neg (show ¬ (e.f0 = u + 1 ∧ e.f1 - o = -1) from fun h => c1 h.1), if_neg (show ¬ ((0 : Int) = 1) by decide), if_neg (show ¬ ((0 : Int) = -1) by decide)]
theorem reftai_eq (k : Nat) (hk : 2500 ≤ k) (b e : Int) (l : List S44) (hc : chk b e l = 0) (u : Int) (x : Bool) : r6_TAI.f k b e l u x = some (tai b l u x) := by
  obtain ⟨h1, h2, h3, h4, h5⟩ := chk_ok hc
  have hg := good_of l b none (fun q hq => by cases hq) h5
  obtain ⟨k, rfl⟩ : ∃ j, k = j + 1 := ⟨k - 1, by omega⟩
  unfold r6_TAI.f tai
  rw [refcheck_eq _ (by omega), Option.bind_some, if_pos hc, in_eq _ _ (by decide), Option.bind_some]
  by_cases c : -8000000000 ≤ u ∧ u ≤ 8000000000
  · rw [if_pos (decide_eq_true c), if_pos c]
    have hw3 : wrap64 (u + 1) = u + 1 := by unfold wrap64; omega
    have ho := offR_b h2 h4 u
    have hw : wrap64 (u + offR b l u) = u + offR b l u := by unfold wrap64; omega
    have hw2 : wrap64 (u + offR b l u + 1) = u + offR b l u + 1 := by unfold wrap64; omega
    have hch : r6_change.f (k + 1) b e l (u + 1) = some (chR b (u + 1) l) := change_l0 b e l h1 h4 h2 (u + 1) l 0 (k + 1) rfl (by omega) (by omega)
    have hof : r6_offset.f k b e l u = some (offR b l u) := by
      have := offset_l0 b e l h1 u l 0 k b rfl (by omega) (by omega)
      rw [offN_eq u l b none hg] at this
      exact this
    rw [hw3, hch, Option.bind_some, taiR_ch u x l b none hg]
    cases x with
    | true =>
      rw [if_pos rfl, if_pos rfl]
      simp only [r6_TAI.j0]
      by_cases c1 : chR b (u + 1) l = 1
      · rw [if_pos c1, if_pos c1, if_neg (by decide), if_pos trivial, hof, Option.bind_some, hw, hw2]
      · rw [if_neg c1, if_neg c1, if_pos trivial]
    | false =>
      rw [if_neg (by decide), if_neg (by decide)]
      simp only [r6_TAI.j0]
      by_cases c1 : chR b (u + 1) l = -1
      · rw [if_pos (beq_iff_eq.mpr c1), if_pos c1]
      · rw [if_neg (by simpa using c1), if_neg c1, if_neg (by decide), hof, Option.bind_some, hw]
  · rw [if_neg (by rw [decide_eq_false c]; decide), if_neg c]
theorem reftai_bad (k : Nat) (hk : 2500 ≤ k) (b e : Int) (l : List S44) (hc : chk b e l ≠ 0) (u : Int) (x : Bool) : r6_TAI.f k b e l u x = some (0, chk b e l) := by
  unfold r6_TAI.f
  rw [refcheck_eq _ (by omega), Option.bind_some, if_neg hc]
def uscan (b : Int) (l : List S44) (T : Int) : List Int → Int × Bool × Int
  | [] => (0, false, 3)
  | c :: cs => if tai b l (T - c) false = (T, 0) then (T - c, false, 0) else if tai b l (T - c - 1) true = (T, 0) then (T - c - 1, true, 0) else uscan b l T cs
theorem scan_one (k : Nat) (hk : 2510 ≤ k) (b e : Int) (l : List S44) (hc : chk b e l = 0) (T : Int) (i c : Int) (hT : -8000002000 ≤ T ∧ T ≤ 8000002000) (hcb : -1000 ≤ c ∧ c ≤ 1000) (hi : -1 ≤ i ∧ i ≤ 100) (cs : List Int)
    (ih : r6_UTC.l0 (k - 2) T (i + 1) b e l = some (uscan b l T cs)) : r6_UTC.j1 k T i (T - c) b e l = some (uscan b l T (c :: cs)) := by
  obtain ⟨k, rfl⟩ : ∃ j, k = j + 2 := ⟨k - 2, by omega⟩
  rw [show k + 2 - 2 = k from rfl] at ih
  have hw1 : wrap64 (T - c - 1) = T - c - 1 := by unfold wrap64; omega
  have hw2 : wrap64 (i + 1) = i + 1 := by unfold wrap64; omega
  simp only [r6_UTC.j1]
  rw [reftai_eq (k + 1) (by omega) b e l hc, Option.bind_some, uscan]
  have hj2 : r6_UTC.j2 (k + 1) T i (T - c) false b e l = some (if tai b l (T - c - 1) true = (T, 0) then (T - c - 1, true, 0) else uscan b l T cs) := by
    simp only [r6_UTC.j2]
    rw [if_neg (by decide), hw1, hw2, reftai_eq k (by omega) b e l hc, Option.bind_some, ih]
    by_cases c1 : (tai b l (T - c - 1) true).2 = 0
    · rw [if_pos c1]
      by_cases c2 : (tai b l (T - c - 1) true).1 = T
      · rw [if_pos c2, if_pos (Prod.ext c2 c1)]
      · rw [if_neg c2, if_neg (fun h => c2 (by rw [h]))]
    · rw [if_neg c1, if_neg (fun h => c1 (by rw [h]))]
  by_cases c1 : (tai b l (T - c) false).2 = 0
  · rw [if_pos c1]
    by_cases c2 : (tai b l (T - c) false).1 = T
    · rw [if_pos (Prod.ext c2 c1), beq_iff_eq.mpr c2]
      simp only [r6_UTC.j2]
      rw [if_pos trivial]
    · rw [if_neg (show ¬ tai b l (T - c) false = (T, 0) from fun h => c2 (by rw [h])), beq_eq_false_iff_ne.mpr c2, hj2]
  · rw [if_neg c1, if_neg (show ¬ tai b l (T - c) false = (T, 0) from fun h => c1 (by rw [h])), hj2]
theorem scan_l0 (b e : Int) (l : List S44) (hc : chk b e l = 0) (T : Int) (hT : -8000002000 ≤ T ∧ T ≤ 8000002000) : ∀ (t : List S44) (i k : Nat), l.drop i = t → 3 * t.length + 2600 ≤ k → i ≤ l.length →
    r6_UTC.l0 k T i b e l = some (uscan b l T (t.map (·.f1)))
  | [], i, k, hd, hk, hi => by
    obtain ⟨k, rfl⟩ : ∃ j, k = j + 1 := ⟨k - 1, by omega⟩
    have : l.length ≤ i := by
      have := congrArg List.length hd
      rw [List.length_drop] at this
      simp only [List.length_nil] at this
      omega
    simp only [r6_UTC.l0]
    rw [if_neg (by omega)]
    rfl
  | x :: t, i, k, hd, hk, hi => by
    obtain ⟨h1, h2, h3, h4, h5⟩ := chk_ok hc
    obtain ⟨k, rfl⟩ : ∃ j, k = j + 3 := ⟨k - 3, by omega⟩
    obtain ⟨hx, hlt, hd2⟩ := rd_drop l i x t hd
    have hxe := (h4 x (List.mem_of_mem_drop (by rw [hd]; exact List.mem_cons_self))).2
    have ih := scan_l0 b e l hc T hT t (i + 1) k hd2 (by simp only [List.length_cons] at hk; omega) hlt
    have hw : wrap64 (T - x.f1) = T - x.f1 := by unfold wrap64; omega
    simp only [r6_UTC.l0]
    rw [if_pos (by omega), if_pos (by omega), if_pos (by omega), hx, hw]
    exact scan_one (k + 2) (by omega) b e l hc T i x.f1 hT hxe (by omega) _ ih
theorem scan_spec (b : Int) (l : List S44) (T : Int) : ∀ (cs : List Int),
    (∃ u x, uscan b l T cs = (u, x, 0) ∧ tai b l u x = (T, 0)) ∨ (uscan b l T cs = (0, false, 3) ∧ ∀ c ∈ cs, tai b l (T - c) false ≠ (T, 0) ∧ tai b l (T - c - 1) true ≠ (T, 0))
  | [] => .inr ⟨rfl, fun c hc => by cases hc⟩
  | c :: cs => by
    unfold uscan
    by_cases c1 : tai b l (T - c) false = (T, 0)
    · rw [if_pos c1]; exact .inl ⟨_, _, rfl, c1⟩
    · rw [if_neg c1]
      by_cases c2 : tai b l (T - c - 1) true = (T, 0)
      · rw [if_pos c2]; exact .inl ⟨_, _, rfl, c2⟩
      · rw [if_neg c2]
        rcases scan_spec b l T cs with h | ⟨h, h2⟩
        · exact .inl h
        · exact .inr ⟨h, fun d hd => by rcases List.mem_cons.1 hd with rfl | hd; exact ⟨c1, c2⟩; exact h2 d hd⟩
theorem offR_mem (u : Int) : ∀ (l : List S44) (o : Int), offR o l u ∈ o :: l.map (·.f1)
  | [], o => List.mem_cons_self
  | e :: t, o => by
    unfold offR
    split
    · exact List.mem_cons_of_mem _ (offR_mem u t e.f1)
    · exact List.mem_cons_self
theorem tai_some {b : Int} {l : List S44} {u T : Int} {x : Bool} (h : tai b l u x = (T, 0)) : (-8000000000 ≤ u ∧ u ≤ 8000000000) ∧ taiR b l u x = some T := by
  unfold tai at h
  by_cases c : -8000000000 ≤ u ∧ u ≤ 8000000000
  · rw [if_pos c] at h
    refine ⟨c, ?_⟩
    cases hr : taiR b l u x with
    | none => rw [hr] at h; cases h
    | some S => rw [hr] at h; simp only [Prod.mk.injEq, and_true] at h; rw [h]
  · rw [if_neg c] at h; cases h
theorem scan_utc (b e : Int) (l : List S44) (hc : chk b e l = 0) (T : Int) (hT : -8000002000 ≤ T ∧ T ≤ 8000002000) : uscan b l T (b :: l.map (·.f1)) = utc b l T := by
  obtain ⟨h1, h2, h3, h4, h5⟩ := chk_ok hc
  have hg := good_of l b none (fun q hq => by cases hq) h5
  unfold utc
  rw [if_neg (by omega)]
  rcases scan_spec b l T (b :: l.map (·.f1)) with ⟨u, x, hs, ht⟩ | ⟨hs, hn⟩
  · obtain ⟨hu, hr⟩ := tai_some ht
    have := other_way l b none u T x hg hr
    rw [hs, this, if_pos hu]
  · rw [hs]
    by_cases c : -8000000000 ≤ (utcR b l T).1 ∧ (utcR b l T).1 ≤ 8000000000
    · exfalso
      have h1w := one_way l b none T hg
      have hm := offR_mem (utcR b l T).1 l b
      obtain ⟨n1, n2⟩ := hn _ hm
      have hch := taiR_ch (utcR b l T).1 (utcR b l T).2 l b none hg
      rw [h1w] at hch
      have htai : tai b l (utcR b l T).1 (utcR b l T).2 = (T, 0) := by unfold tai; rw [if_pos c, h1w]
      cases hx : (utcR b l T).2 with
      | true =>
        rw [hx, if_pos rfl] at hch
        split at hch
        · have hv := Option.some.inj hch
          rw [hx] at htai
          apply n2
          rw [show T - offR b l (utcR b l T).1 - 1 = (utcR b l T).1 by omega]
          exact htai
        · cases hch
      | false =>
        rw [hx, if_neg (by decide)] at hch
        split at hch
        · cases hch
        · have hv := Option.some.inj hch
          rw [hx] at htai
          apply n1
          rw [show T - offR b l (utcR b l T).1 = (utcR b l T).1 by omega]
          exact htai
    · rw [if_neg c]
theorem refutc_eq (k : Nat) (hk : 3000 ≤ k) (b e : Int) (l : List S44) (hc : chk b e l = 0) (T : Int) : r6_UTC.f k b e l T = some (utc b l T) := by
  obtain ⟨h1, h2, h3, h4, h5⟩ := chk_ok hc
  unfold r6_UTC.f
  rw [refcheck_eq _ (by omega), Option.bind_some, if_pos hc]
  have hin : r6_in.f T 8000002000 = some (decide (-8000002000 ≤ T ∧ T ≤ 8000002000)) := by
    unfold r6_in.f
    have hw : wrap64 (-8000002000) = -8000002000 := by unfold wrap64; omega
    rw [hw]
    by_cases c : T ≥ -8000002000
    · rw [if_pos c]
      by_cases c2 : T ≤ 8000002000
      · rw [decide_eq_true c2, decide_eq_true ⟨c, c2⟩]
      · rw [decide_eq_false c2, decide_eq_false (by omega)]
    · rw [if_neg c, decide_eq_false (by omega)]
  rw [hin, Option.bind_some]
  by_cases c : -8000002000 ≤ T ∧ T ≤ 8000002000
  · rw [if_pos (decide_eq_true c), ← scan_utc b e l hc T c]
    obtain ⟨k, rfl⟩ : ∃ j, k = j + 3 := ⟨k - 3, by omega⟩
    have ih := scan_l0 b e l hc T c l 0 k rfl (by omega) (by omega)
    have hw : wrap64 (T - b) = T - b := by unfold wrap64; omega
    simp only [r6_UTC.l0]
    rw [if_pos (by omega), if_neg (by decide), hw]
    exact scan_one (k + 2) (by omega) b e l hc T (-1) b c h2 (by omega) _ ih
  · rw [if_neg (by rw [decide_eq_false c]; decide)]
    unfold utc
    rw [if_pos (by omega)]
theorem refutc_bad (k : Nat) (hk : 3000 ≤ k) (b e : Int) (l : List S44) (hc : chk b e l ≠ 0) (T : Int) : r6_UTC.f k b e l T = some (0, false, chk b e l) := by
  unfold r6_UTC.f
  rw [refcheck_eq _ (by omega), Option.bind_some, if_neg hc]
theorem pure_LeapLabels (a0_0 a0_1 : Int) (l0 : List S44) (a1_0 : Int) (a1_1 : Bool) (a1_2 : Int) : ∃ k, w6_LeapLabels.f k a0_0 a0_1 l0 a1_0 a1_1 a1_2 = some true := by
  refine ⟨4000, ?_⟩
  unfold w6_LeapLabels.f
  rw [small_eq, Option.bind_some]
  by_cases cs : (l0.length : Int) ≤ 70
  · rw [if_pos (decide_eq_true cs)]
    by_cases hc : chk a0_0 a0_1 l0 = 0
    · rw [tai_eq 4000 (by decide) _ _ _ hc, Option.bind_some, reftai_eq 4000 (by decide) _ _ _ hc, Option.bind_some, utc_eq 4000 (by decide) _ _ _ hc, Option.bind_some, refutc_eq 4000 (by decide) _ _ _ hc, Option.bind_some]
      rw [if_pos rfl, if_pos rfl, if_pos rfl, if_pos (beq_self_eq_true _), if_pos rfl]
      exact awake_at' _ (by decide)
    · rw [tai_bad 4000 (by decide) _ _ _ hc, Option.bind_some, reftai_bad 4000 (by decide) _ _ _ hc, Option.bind_some, utc_bad 4000 (by decide) _ _ _ hc, Option.bind_some, refutc_bad 4000 (by decide) _ _ _ hc, Option.bind_some]
      rw [if_pos rfl, if_pos rfl, if_pos rfl, if_pos (beq_self_eq_true _), if_pos rfl]
      exact awake_at' _ (by decide)
  · rw [if_neg (by rw [decide_eq_false cs]; decide)]
    exact awake_at' _ (by decide)
end Go.Proofs.YtipbkcilpnlgnaaDoor.M
