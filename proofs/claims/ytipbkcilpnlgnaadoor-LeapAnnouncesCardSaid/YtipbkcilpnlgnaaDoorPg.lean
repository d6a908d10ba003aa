/-
  A valid table's entries stand a day apart at least: its labels and its seconds are one to one, and follow one another.
-/
import Derived.Test.YtipbkcilpnlgnaaDoorPt
namespace Go.Proofs.YtipbkcilpnlgnaaDoor.M
open Go.RowKit Go.Proofs.YtipbkcilpnlgnaaDoorG Go.Proofs.YtipbkcilpnlgnaaDoorW.PrintWords Go.Proofs.YtipbkcilpnlgnaaDoorW.PrintLast Go.Proofs.YtipbkcilpnlgnaaDoorW.PrintMore
set_option linter.unusedVariables false
set_option linter.unusedSimpArgs false
theorem sec_mult (y m : Int) (r : Int × Int) (h : civil_Seconds.f y m 1 0 0 0 0 = some r) (h0 : r.2 = 0) : r.1 % 86400 = 0 := by
  unfold civil_Seconds.f at h
  split at h
  · split at h
    · obtain rfl := Option.some.inj h; cases h0
    · obtain rfl := Option.some.inj h
      show secAt y m 1 0 0 0 % 86400 = 0
      unfold secAt
      omega
  · rename_i hne
    obtain rfl := Option.some.inj h
    exact (hne h0).elim
theorem mon_mult (u n : Int) (h : (mon u n).2 = true) : (mon u n).1 % 86400 = 0 := by
  have hm := month_eq u n
  generalize mon u n = r at *
  unfold leap_month.f at hm
  obtain ⟨q, hq⟩ := of_total u
  rw [hq, Option.bind_some] at hm
  split at hm
  · split at hm
    · obtain ⟨s, hs⟩ := sec_total (wrap64 (q.1 + 1)) 1 1 0 0 0 0
      rw [hs, Option.bind_some] at hm
      obtain rfl := Option.some.inj hm
      exact sec_mult _ _ _ hs (beq_iff_eq.1 h)
    · obtain ⟨s, hs⟩ := sec_total q.1 (wrap64 (q.2.1 + n)) 1 0 0 0 0
      rw [hs, Option.bind_some] at hm
      obtain rfl := Option.some.inj hm
      exact sec_mult _ _ _ hs (beq_iff_eq.1 h)
  · obtain rfl := Option.some.inj hm
    cases h
def Good (o : Int) (p : Option Int) : List S44 → Prop
  | [] => True
  | x :: t => (∀ q, p = some q → q + 86400 ≤ x.f0) ∧ (x.f1 - o = 1 ∨ x.f1 - o = -1) ∧ Good x.f1 (some x.f0) t
theorem good_of : ∀ (l : List S44) (o : Int) (p : Option Int), (∀ q, p = some q → q % 86400 = 0) → chkL o p l = 0 → Good o p l
  | [], o, p, hp, h => trivial
  | x :: t, o, p, hp, h => by
    unfold chkL at h
    split at h
    · cases h
    · rename_i hm
      have hm : mon x.f0 0 = (x.f0, true) := by simpa using hm
      have hx : x.f0 % 86400 = 0 := by
        have := mon_mult x.f0 0 (by rw [hm])
        rw [hm] at this
        exact this
      split at h
      · cases h
      · rename_i hq
        split at h
        · rename_i hs
          refine ⟨fun q hq2 => ?_, hs, good_of t x.f1 (some x.f0) (fun q hq => by cases hq; exact hx) h⟩
          have h1 := hp q hq2
          have h2 : ¬ x.f0 ≤ q := fun hle => hq ⟨q, hq2, hle⟩
          omega
        · cases h
theorem taiF_nil (o u : Int) (x : Bool) : taiF o [] u x = if x = true then none else some (u + o) := rfl
theorem taiF_cons (o u : Int) (x : Bool) (e : S44) (t : List S44) : taiF o (e :: t) u x = if x = true then (if e.f0 = u + 1 ∧ e.f1 - o = 1 then some (u + o + 1) else none) else (if e.f0 = u + 1 ∧ e.f1 - o = -1 then none else some (u + o)) := rfl
theorem taiR_nil (o u : Int) (x : Bool) : taiR o [] u x = taiF o [] u x := rfl
theorem taiR_cons (o u : Int) (x : Bool) (e : S44) (t : List S44) : taiR o (e :: t) u x = if e.f0 ≤ u then taiR e.f1 t u x else taiF o (e :: t) u x := rfl
theorem utc_ge : ∀ (l : List S44) (o p T : Int), Good o (some p) l → p + o ≤ T → p ≤ (utcR o l T).1
  | [], o, p, T, _, h => by unfold utcR; show p ≤ T - o; omega
  | x :: t, o, p, T, hg, h => by
    obtain ⟨h1, h2, h3⟩ := hg
    have h1 := h1 p rfl
    unfold utcR
    split
    · split
      · show p ≤ x.f0 - 1; omega
      · show p ≤ T - o; omega
    · have := utc_ge t x.f1 x.f0 T h3 (by omega)
      omega
theorem one_way : ∀ (l : List S44) (o : Int) (p : Option Int) (T : Int), Good o p l → taiR o l (utcR o l T).1 (utcR o l T).2 = some T
  | [], o, p, T, _ => by simp [utcR, taiR, taiF]
  | x :: t, o, p, T, hg => by
    obtain ⟨h1, h2, h3⟩ := hg
    unfold utcR
    by_cases c : T < x.f0 + x.f1
    · rw [if_pos c]
      by_cases c2 : x.f1 > o ∧ T = x.f0 + x.f1 - 1
      · rw [if_pos c2]
        rw [taiR_cons, if_neg (show ¬ x.f0 ≤ x.f0 - 1 by omega), taiF_cons]
        simp only
        rw [if_pos trivial, if_pos (show x.f0 = x.f0 - 1 + 1 ∧ x.f1 - o = 1 by omega)]
        congr 1; omega
      · rw [if_neg c2]
        rw [taiR_cons, if_neg (show ¬ x.f0 ≤ T - o by omega), taiF_cons]
        simp only
        rw [if_neg (show ¬ (false = true) by decide), if_neg (show ¬ (x.f0 = T - o + 1 ∧ x.f1 - o = -1) by omega)]
        congr 1; omega
    · rw [if_neg c]
      have hge := utc_ge t x.f1 x.f0 T h3 (by omega)
      rw [taiR_cons, if_pos hge]
      exact one_way t x.f1 _ T h3
theorem tai_ge : ∀ (l : List S44) (o p u T : Int) (x : Bool), Good o (some p) l → taiR o l u x = some T → p ≤ u → p + o ≤ T
  | [], o, p, u, T, x, _, h, hu => by
    rw [taiR_nil, taiF_nil] at h
    split at h
    · cases h
    · obtain rfl := Option.some.inj h; omega
  | e :: t, o, p, u, T, x, hg, h, hu => by
    obtain ⟨h1, h2, h3⟩ := hg
    have h1 := h1 p rfl
    rw [taiR_cons] at h
    split at h
    · have := tai_ge t e.f1 e.f0 u T x h3 h (by assumption)
      omega
    · rw [taiF_cons] at h
      split at h
      · split at h
        · obtain rfl := Option.some.inj h; omega
        · cases h
      · split at h
        · cases h
        · obtain rfl := Option.some.inj h; omega
theorem other_way : ∀ (l : List S44) (o : Int) (p : Option Int) (u T : Int) (x : Bool), Good o p l → taiR o l u x = some T → utcR o l T = (u, x)
  | [], o, p, u, T, x, _, h => by
    rw [taiR_nil, taiF_nil] at h
    split at h
    · cases h
    · rename_i hx
      obtain rfl := Option.some.inj h
      unfold utcR
      exact Prod.ext (by simp only; omega) (by simpa using hx)
  | e :: t, o, p, u, T, x, hg, h => by
    obtain ⟨h1, h2, h3⟩ := hg
    rw [taiR_cons] at h
    split at h
    · rename_i hle
      have := tai_ge t e.f1 e.f0 u T x h3 h hle
      unfold utcR
      rw [if_neg (by omega)]
      exact other_way t e.f1 _ u T x h3 h
    · rename_i hle
      rw [taiF_cons] at h
      split at h
      · rename_i hx
        split at h
        · rename_i hc
          obtain rfl := Option.some.inj h
          unfold utcR
          rw [if_pos (by omega), if_pos (by omega)]
          exact Prod.ext (by simp only; omega) hx.symm
        · cases h
      · rename_i hx
        split at h
        · cases h
        · rename_i hc
          obtain rfl := Option.some.inj h
          unfold utcR
          rw [if_pos (by omega), if_neg (by omega)]
          exact Prod.ext (by simp only; omega) (by simpa using hx)
theorem utc_near : ∀ (l : List S44) (o p T : Int), Good o (some p) l → T ≤ p + o + 1000 → utcR o l T = (T - o, false)
  | [], o, p, T, _, h => rfl
  | x :: t, o, p, T, hg, h => by
    obtain ⟨h1, h2, h3⟩ := hg
    have h1 := h1 p rfl
    unfold utcR
    rw [if_pos (by omega), if_neg (by omega)]
theorem off_near : ∀ (l : List S44) (o p u : Int), Good o (some p) l → u ≤ p + 1000 → offR o l u = o
  | [], o, p, u, _, h => rfl
  | x :: t, o, p, u, hg, h => by
    obtain ⟨h1, h2, h3⟩ := hg
    have h1 := h1 p rfl
    unfold offR
    rw [if_neg (by omega)]
def Tick (o : Int) (l : List S44) (u : Int) (a : Bool) (v : Int) (c : Bool) : Prop :=
  (c = true → v = u ∧ a = false ∧ offR o l (u + 1) - offR o l u = 1) ∧
  (c = false → (v - u = 2 ∧ a = false ∧ offR o l v - offR o l u = -1) ∨ (v - u = 1 ∧ (a = true → offR o l v - offR o l u = 1)))
theorem ticks : ∀ (l : List S44) (o : Int) (p : Option Int) (T : Int), Good o p l → Tick o l (utcR o l T).1 (utcR o l T).2 (utcR o l (T + 1)).1 (utcR o l (T + 1)).2
  | [], o, p, T, _ => ⟨fun h => (by cases h), fun _ => .inr ⟨by simp only [utcR]; omega, fun h => (by cases h)⟩⟩
  | x :: t, o, p, T, hg => by
    obtain ⟨h1, h2, h3⟩ := hg
    by_cases c : T < x.f0 + x.f1
    · by_cases c1 : T + 1 < x.f0 + x.f1
      · by_cases c3 : x.f1 > o ∧ T + 1 = x.f0 + x.f1 - 1
        · have e1 : utcR o (x :: t) T = (T - o, false) := by unfold utcR; rw [if_pos c, if_neg (by omega)]
          have e2 : utcR o (x :: t) (T + 1) = (x.f0 - 1, true) := by unfold utcR; rw [if_pos c1, if_pos c3]
          rw [e1, e2]
          refine ⟨fun _ => ⟨by simp only; omega, rfl, ?_⟩, fun h => (by cases h)⟩
          show offR o (x :: t) (T - o + 1) - offR o (x :: t) (T - o) = 1
          have f1 : offR o (x :: t) (T - o + 1) = x.f1 := by
            unfold offR; rw [if_pos (by omega)]; exact off_near t x.f1 x.f0 _ h3 (by omega)
          have f2 : offR o (x :: t) (T - o) = o := by unfold offR; rw [if_neg (by omega)]
          rw [f1, f2]; omega
        · have e1 : utcR o (x :: t) T = (T - o, false) := by unfold utcR; rw [if_pos c, if_neg (by omega)]
          have e2 : utcR o (x :: t) (T + 1) = (T + 1 - o, false) := by unfold utcR; rw [if_pos c1, if_neg c3]
          rw [e1, e2]
          exact ⟨fun h => (by cases h), fun _ => .inr ⟨by simp only; omega, fun h => (by cases h)⟩⟩
      · have e2 : utcR o (x :: t) (T + 1) = (T + 1 - x.f1, false) := by
          unfold utcR; rw [if_neg c1]; exact utc_near t x.f1 x.f0 _ h3 (by omega)
        have g1 : offR o (x :: t) (T + 1 - x.f1) = x.f1 := by
          unfold offR; rw [if_pos (by omega)]; exact off_near t x.f1 x.f0 _ h3 (by omega)
        by_cases c3 : x.f1 > o ∧ T = x.f0 + x.f1 - 1
        · have e1 : utcR o (x :: t) T = (x.f0 - 1, true) := by unfold utcR; rw [if_pos c, if_pos c3]
          rw [e1, e2]
          refine ⟨fun h => (by cases h), fun _ => .inr ⟨by simp only; omega, fun _ => ?_⟩⟩
          show offR o (x :: t) (T + 1 - x.f1) - offR o (x :: t) (x.f0 - 1) = 1
          have f2 : offR o (x :: t) (x.f0 - 1) = o := by unfold offR; rw [if_neg (by omega)]
          rw [g1, f2]; omega
        · have e1 : utcR o (x :: t) T = (T - o, false) := by unfold utcR; rw [if_pos c, if_neg c3]
          rw [e1, e2]
          refine ⟨fun h => (by cases h), fun _ => .inl ⟨by simp only; omega, rfl, ?_⟩⟩
          show offR o (x :: t) (T + 1 - x.f1) - offR o (x :: t) (T - o) = -1
          have f2 : offR o (x :: t) (T - o) = o := by unfold offR; rw [if_neg (by omega)]
          rw [g1, f2]; omega
    · have e1 : utcR o (x :: t) T = utcR x.f1 t T := by rw [utcR, if_neg c]
      have e2 : utcR o (x :: t) (T + 1) = utcR x.f1 t (T + 1) := by rw [utcR, if_neg (by omega)]
      have g1 := utc_ge t x.f1 x.f0 T h3 (by omega)
      have g2 := utc_ge t x.f1 x.f0 (T + 1) h3 (by omega)
      have ih := ticks t x.f1 _ T h3
      rw [e1, e2]
      have f : ∀ w, x.f0 ≤ w → offR o (x :: t) w = offR x.f1 t w := fun w hw => by rw [offR, if_pos hw]
      unfold Tick at ih ⊢
      rw [f _ g1, f _ (by omega), f _ g2]
      exact ih
theorem utc_bad (k : Nat) (hk : 400 ≤ k) (b e : Int) (l : List S44) (hc : chk b e l ≠ 0) (T : Int) : leap_UTC.f k b e l T = some (0, false, chk b e l) := by
  unfold leap_UTC.f
  rw [check_eq k hk, Option.bind_some, if_neg hc]
theorem tai_bad (k : Nat) (hk : 400 ≤ k) (b e : Int) (l : List S44) (hc : chk b e l ≠ 0) (u : Int) (x : Bool) : leap_TAI.f k b e l u x = some (0, chk b e l) := by
  unfold leap_TAI.f
  rw [check_eq k hk, Option.bind_some, if_neg hc]
theorem small_eq (b e : Int) (l : List S44) : timesynclaw06_small.f b e l = some (decide ((l.length : Int) ≤ 70)) := rfl
theorem awake_at' (k : Nat) (hk : 400 ≤ k) : ((timesynclaw06_awake.f k).bind fun t => some t) = some true := by
  rw [awake_at k (by omega)]; rfl
theorem utc_ok {b : Int} {l : List S44} {T : Int} (h : (utc b l T).2.2 = 0) : (-8000002000 ≤ T ∧ T ≤ 8000002000) ∧ (-8000000000 ≤ (utcR b l T).1 ∧ (utcR b l T).1 ≤ 8000000000) ∧ utc b l T = ((utcR b l T).1, (utcR b l T).2, 0) := by
  unfold utc at h ⊢
  split at h
  · cases h
  · split at h
    · rename_i h1 h2
      rw [if_neg h1, if_pos h2]
      exact ⟨by omega, h2, rfl⟩
    · cases h
theorem taiR_b {o : Int} {l : List S44} {u T : Int} {x : Bool} (ho : -1000 ≤ o ∧ o ≤ 1000) (hE : ∀ e ∈ l, EntOk e) (hu : -8000000000 ≤ u ∧ u ≤ 8000000000) (h : taiR o l u x = some T) : -8000002000 ≤ T ∧ T ≤ 8000002000 := by
  rw [taiR_eq] at h
  have hb := offR_b ho hE u
  generalize offR o l u = q at *
  generalize l.drop (cnt l u) = r at *
  unfold taiF at h
  split at h
  · split at h
    · cases h
    · obtain rfl := Option.some.inj h; omega
  · split at h
    · split at h
      · obtain rfl := Option.some.inj h; omega
      · cases h
    · split at h
      · cases h
      · obtain rfl := Option.some.inj h; omega
theorem pure_LeapOneToOne (a0_0 a0_1 : Int) (l0 : List S44) (a1_0 : Int) (a1_1 : Bool) (a1_2 : Int) : ∃ k, timesynclaw06_LeapOneToOne.f k a0_0 a0_1 l0 a1_0 a1_1 a1_2 = some true := by
  refine ⟨1000, ?_⟩
  unfold timesynclaw06_LeapOneToOne.f
  rw [small_eq, Option.bind_some]
  by_cases cs : (l0.length : Int) ≤ 70
  · rw [if_pos (decide_eq_true cs)]
    by_cases hc : chk a0_0 a0_1 l0 = 0
    · obtain ⟨h1, h2, h3, h4, h5⟩ := chk_ok hc
      have hg := good_of l0 a0_0 none (fun q hq => by cases hq) h5
      have hj : timesynclaw06_LeapOneToOne.j0 1000 a0_0 a0_1 l0 a1_0 a1_1 a1_2 = some true := by
        simp only [timesynclaw06_LeapOneToOne.j0]
        rw [tai_eq 999 (by decide) a0_0 a0_1 l0 hc, Option.bind_some]
        by_cases c0 : (tai a0_0 l0 a1_0 a1_1).2 = 0
        · rw [if_pos c0]
          unfold tai at c0
          split at c0
          · rename_i hu
            have ht : tai a0_0 l0 a1_0 a1_1 = (match taiR a0_0 l0 a1_0 a1_1 with | some T => (T, 0) | none => (0, 11)) := by unfold tai; rw [if_pos hu]; cases taiR a0_0 l0 a1_0 a1_1 <;> rfl
            rw [ht]
            cases hr : taiR a0_0 l0 a1_0 a1_1 with
            | none => rw [hr] at c0; cases c0
            | some T =>
              have hb := taiR_b h2 h4 hu hr
              have hw := other_way l0 a0_0 none a1_0 T a1_1 hg hr
              have hut : utc a0_0 l0 T = (a1_0, a1_1, 0) := by
                unfold utc
                rw [if_neg (by omega), hw, if_pos hu]
              simp only
              rw [utc_eq 999 (by decide) a0_0 a0_1 l0 hc, Option.bind_some, hut]
              simp only [bne_self_eq_false, Bool.false_eq_true, if_false, if_true]
              exact awake_at' _ (by decide)
          · cases c0
        · rw [if_neg c0]
          exact awake_at' _ (by decide)
      rw [utc_eq 1000 (by decide) a0_0 a0_1 l0 hc, Option.bind_some]
      by_cases c0 : (utc a0_0 l0 a1_2).2.2 = 0
      · rw [if_pos c0]
        obtain ⟨hT, hu, hut⟩ := utc_ok c0
        rw [hut]
        simp only
        rw [tai_eq 1000 (by decide) a0_0 a0_1 l0 hc, Option.bind_some]
        have ht : tai a0_0 l0 (utcR a0_0 l0 a1_2).1 (utcR a0_0 l0 a1_2).2 = (a1_2, 0) := by
          unfold tai
          rw [if_pos hu, one_way l0 a0_0 none a1_2 hg]
        rw [ht, if_pos rfl, if_pos rfl]
        exact hj
      · rw [if_neg c0]
        exact hj
    · rw [utc_bad 1000 (by decide) a0_0 a0_1 l0 hc, Option.bind_some, if_neg hc]
      simp only [timesynclaw06_LeapOneToOne.j0]
      rw [tai_bad 999 (by decide) a0_0 a0_1 l0 hc, Option.bind_some, if_neg hc]
      exact awake_at' _ (by decide)
  · rw [if_neg (by rw [decide_eq_false cs]; decide)]
    exact awake_at' _ (by decide)
theorem pure_LeapTicks (a0_0 a0_1 : Int) (l0 : List S44) (a1 : Int) : ∃ k, timesynclaw06_LeapTicks.f k a0_0 a0_1 l0 a1 = some true := by
  refine ⟨1000, ?_⟩
  unfold timesynclaw06_LeapTicks.f
  have hj1 : timesynclaw06_LeapTicks.j0 1000 a1 true a0_0 a0_1 l0 = some true := by
    simp only [timesynclaw06_LeapTicks.j0]
    rw [if_pos trivial]
    exact awake_at' _ (by decide)
  rw [small_eq, Option.bind_some]
  by_cases cs : (l0.length : Int) ≤ 70
  · rw [if_pos (decide_eq_true cs)]
    by_cases cl : a1 < -9000000000
    · rw [if_pos cl]; exact hj1
    · rw [if_neg cl]
      by_cases ch : a1 > 9000000000
      · rw [decide_eq_true ch]; exact hj1
      · rw [decide_eq_false ch]
        have hw : wrap64 (a1 + 1) = a1 + 1 := by unfold wrap64; omega
        simp only [timesynclaw06_LeapTicks.j0, hw]
        rw [if_neg (by decide)]
        have hjx : ∀ (u v : Int) (p q : Bool), timesynclaw06_LeapTicks.j1 999 u p v q true a0_0 a0_1 l0 = some true := fun u v p q => by
          simp only [timesynclaw06_LeapTicks.j1]
          rw [if_pos trivial]
          exact awake_at' _ (by decide)
        by_cases hc : chk a0_0 a0_1 l0 = 0
        · obtain ⟨h1, h2, h3, h4, h5⟩ := chk_ok hc
          have hg := good_of l0 a0_0 none (fun q hq => by cases hq) h5
          have hof := fun u => off_eq 998 (by decide) a0_0 a0_1 l0 hc u
          have hob := fun u => offR_b (l := l0) h2 h4 u
          rw [utc_eq 999 (by decide) a0_0 a0_1 l0 hc, Option.bind_some, utc_eq 999 (by decide) a0_0 a0_1 l0 hc, Option.bind_some]
          by_cases e0 : (utc a0_0 l0 a1).2.2 = 0
          · rw [if_pos e0]
            by_cases f0 : (utc a0_0 l0 (a1 + 1)).2.2 = 0
            · obtain ⟨hT, hu, hut⟩ := utc_ok e0
              obtain ⟨hT1, hv, hvt⟩ := utc_ok f0
              have htk := ticks l0 a0_0 none a1 hg
              rw [hut, hvt]
              generalize utcR a0_0 l0 a1 = U at *
              generalize utcR a0_0 l0 (a1 + 1) = V at *
              obtain ⟨u, p⟩ := U
              obtain ⟨v, q⟩ := V
              simp only at hu hv htk ⊢
              obtain ⟨t1, t2⟩ := htk
              have hwu : wrap64 (u + 1) = u + 1 := by unfold wrap64; omega
              have hwv : wrap64 (v - u) = v - u := by unfold wrap64; omega
              have hwd : ∀ a b : Int, wrap64 (offR a0_0 l0 a - offR a0_0 l0 b) = offR a0_0 l0 a - offR a0_0 l0 b := fun a b => by have := hob a; have := hob b; unfold wrap64; omega
              simp only [timesynclaw06_LeapTicks.j1, hwu, hwv, hof, Option.bind_some, hwd]
              rw [if_neg (by decide)]
              cases q with
              | true =>
                obtain ⟨g1, g2, g3⟩ := t1 rfl
                rw [if_pos rfl, if_pos g1, g2, if_neg (by decide), if_pos g3]
                exact awake_at' _ (by decide)
              | false =>
                rw [if_neg (by decide)]
                rcases t2 rfl with ⟨g1, g2, g3⟩ | ⟨g1, g2⟩
                · rw [if_pos g1, g2, if_neg (by decide), if_pos g3]
                  exact awake_at' _ (by decide)
                · rw [if_neg (by omega), if_pos g1]
                  cases p with
                  | true =>
                    rw [if_pos rfl, if_pos (g2 rfl)]
                    exact awake_at' _ (by decide)
                  | false =>
                    rw [if_neg (by decide)]
                    exact awake_at' _ (by decide)
            · rw [bne_iff_ne.mpr f0]
              exact hjx _ _ _ _
          · rw [if_neg e0]
            exact hjx _ _ _ _
        · rw [utc_bad 999 (by decide) a0_0 a0_1 l0 hc, Option.bind_some, utc_bad 999 (by decide) a0_0 a0_1 l0 hc, Option.bind_some, if_neg hc]
          exact hjx _ _ _ _
  · rw [if_neg (by rw [decide_eq_false cs]; decide)]
    exact hj1
end Go.Proofs.YtipbkcilpnlgnaaDoor.M
