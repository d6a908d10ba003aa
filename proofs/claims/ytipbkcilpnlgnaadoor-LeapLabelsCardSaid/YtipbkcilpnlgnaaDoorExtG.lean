/-
  civil.Of by hand: each intermediate value has a name.
-/
import Derived.Test.YtipbkcilpnlgnaaDoorMA
namespace Go.Proofs.YtipbkcilpnlgnaaDoor.M
open Go.RowKit Go.Proofs.YtipbkcilpnlgnaaDoorG Go.Proofs.YtipbkcilpnlgnaaDoorW.PA Go.Proofs.YtipbkcilpnlgnaaDoorW.PB Go.Proofs.YtipbkcilpnlgnaaDoorW.PC
open List renaming setIfInBounds_toArray → sA, set_cons_zero → sB, set_cons_succ → sC
set_option linter.unusedVariables false
set_option linter.unusedSimpArgs false
theorem day_eq (s : Int) (h1 : -8000000000 ≤ s) (h2 : s ≤ 8000000000) : civil_dayOf.f s = some (s / 86400) := by
  have hw : wrap64 (Int.tdiv s 86400) = Int.tdiv s 86400 := by
    have := Int.natAbs_tdiv_le_natAbs s 86400
    unfold wrap64; omega
  have e1 : Int.tdiv s 86400 = if 0 ≤ s then s / 86400 else -((-s) / 86400) := by
    by_cases h : 0 ≤ s
    · rw [if_pos h, Int.tdiv_eq_ediv_of_nonneg h]
    · rw [if_neg h, show s = -(-s) by omega, Int.neg_tdiv, Int.tdiv_eq_ediv_of_nonneg (by omega)]; simp
  have e2 : Int.tmod s 86400 = s - 86400 * Int.tdiv s 86400 := Int.tmod_def s 86400
  unfold civil_dayOf.f fixed_Floor.f fixed_divides.f
  simp only [show ¬((86400 : Int) = 0) by decide, show ¬((86400 : Int) = -1) by decide, if_false, Option.bind_some, if_true, hw]
  by_cases c : Int.tmod s 86400 = 0
  · rw [if_pos c]
    simp only [Option.bind_some]
    by_cases h : 0 ≤ s
    · rw [e1, if_pos h]
    · rw [e1, if_neg h] at *; congr 1; omega
  · rw [if_neg c]
    by_cases h : 0 ≤ s
    · have : decide (s < 0) = false := decide_eq_false (by omega)
      simp only [this]
      simp only [show decide ((86400 : Int) < 0) = false by decide, bne_self_eq_false, Bool.false_eq_true, if_false, Option.bind_some]
      rw [e1, if_pos h]
    · have : decide (s < 0) = true := decide_eq_true (by omega)
      simp only [this]
      simp only [show decide ((86400 : Int) < 0) = false by decide, show (true != false) = true by rfl, if_true, Option.bind_some]
      rw [e1, if_neg h] at *
      congr 1
      unfold wrap64; omega
theorem w_of (x : Int) (h1 : -1000000000000 ≤ x) (h2 : x ≤ 1000000000000) : wrap64 x = x := by unfold wrap64; omega
theorem w_div (x k : Int) (hk : 0 < k) (h1 : 0 ≤ x) (h2 : x ≤ 1000000000000) : wrap64 (Int.tdiv x k) = x / k := by
  rw [Int.tdiv_eq_ediv_of_nonneg h1]
  exact w_of _ (by have := Int.ediv_nonneg h1 (Int.le_of_lt hk); omega) (Int.le_trans (Int.ediv_le_self _ h1) h2)
theorem ofD_b (s : Int) (h1 : -8000000000 ≤ s) (h2 : s ≤ 8000000000) : 600000 ≤ ofD s ∧ ofD s ≤ 800000 := by unfold ofD; omega
theorem ofE_b (s : Int) : 0 ≤ ofE s ∧ ofE s ≤ 146096 := by unfold ofE; omega
theorem ofY_b (s : Int) : 0 ≤ ofY s ∧ ofY s ≤ 399 := by have := ofE_b s; unfold ofY; omega
/-- The day of its year, from 1 on. -/
def dayN (e : Nat) : Nat := e + 1 + (e - e / 1460 + e / 36524 - e / 146096) / 365 / 100 - (365 * ((e - e / 1460 + e / 36524 - e / 146096) / 365) + (e - e / 1460 + e / 36524 - e / 146096) / 365 / 4)
def dayOk (lo : Nat) : Nat → Bool
  | 0 => true
  | n + 1 => (Nat.ble 1 (dayN (lo + n)) && Nat.ble (dayN (lo + n)) 366) && dayOk lo n
theorem dayOk_at (lo : Nat) : ∀ n, dayOk lo n = true → ∀ i, i < n → 1 ≤ dayN (lo + i) ∧ dayN (lo + i) ≤ 366
  | 0, _, i, h => absurd h (Nat.not_lt_zero i)
  | n + 1, h, i, hi => by
    unfold dayOk at h
    simp only [Bool.and_eq_true, Nat.ble_eq] at h
    by_cases c : i = n
    · rw [c]; exact h.1
    · exact dayOk_at lo n h.2 i (by omega)
theorem dayOk_all : ((List.range 147).all fun k => dayOk (1000 * k) 1000) = true := by decide +kernel
theorem dayN_b (e : Nat) (h : e < 146097) : 1 ≤ dayN e ∧ dayN e ≤ 366 := by
  have h1 := List.all_eq_true.1 dayOk_all (e / 1000) (List.mem_range.2 (by omega))
  have h2 := dayOk_at _ _ h1 (e % 1000) (by omega)
  rwa [show 1000 * (e / 1000) + e % 1000 = e by omega] at h2
theorem ofF_b (s : Int) : 0 ≤ ofF s ∧ ofF s ≤ 365 := by
  have hE := ofE_b s
  obtain ⟨e, he⟩ : ∃ e : Nat, ofE s = e := ⟨(ofE s).toNat, by omega⟩
  have h := dayN_b e (by omega)
  have hy : ofY s = ((e - e / 1460 + e / 36524 - e / 146096) / 365 : Nat) := by unfold ofY; rw [he]; omega
  unfold dayN at h
  unfold ofF
  rw [he, hy]
  generalize (e - e / 1460 + e / 36524 - e / 146096) / 365 = y at h
  omega
theorem ofM_b (s : Int) : 0 ≤ ofM s ∧ ofM s ≤ 11 := by have := ofF_b s; unfold ofM; omega
theorem ofT_b (s : Int) : 0 ≤ ofT s ∧ ofT s ≤ 86399 := by unfold ofT; omega
theorem of_steps (s : Int) (h1 : -8000000000 ≤ s) (h2 : s ≤ 8000000000) : ∃ t dm T D C E q1 q2 q3 q4 q5 q6 Y q7 q8 q9 q10 q11 F q12 q13 M q14 ya ma q15 q16 q17 q18 dd hh q19 mi se : Int, t = s / 86400 ∧ wrap64 (t * 86400) = dm ∧ wrap64 (s - dm) = T ∧ wrap64 (t + 693901) = D ∧ wrap64 (Int.tdiv D 146097) = C ∧ Int.tmod D 146097 = E ∧ wrap64 (Int.tdiv E 1460) = q1 ∧ wrap64 (E - q1) = q2 ∧ wrap64 (Int.tdiv E 36524) = q3 ∧ wrap64 (q2 + q3) = q4 ∧ wrap64 (Int.tdiv E 146096) = q5 ∧ wrap64 (q4 - q5) = q6 ∧ wrap64 (Int.tdiv q6 365) = Y ∧ wrap64 (365 * Y) = q7 ∧ wrap64 (Int.tdiv Y 4) = q8 ∧ wrap64 (q7 + q8) = q9 ∧ wrap64 (Int.tdiv Y 100) = q10 ∧ wrap64 (q9 - q10) = q11 ∧ wrap64 (E - q11) = F ∧ wrap64 (5 * F) = q12 ∧ wrap64 (q12 + 2) = q13 ∧ wrap64 (Int.tdiv q13 153) = M ∧ wrap64 (400 * C) = q14 ∧ wrap64 (q14 + Y) = ya ∧ wrap64 (M + 3) = ma ∧ wrap64 (153 * M) = q15 ∧ wrap64 (q15 + 2) = q16 ∧ wrap64 (Int.tdiv q16 5) = q17 ∧ wrap64 (F - q17) = q18 ∧ wrap64 (q18 + 1) = dd ∧ wrap64 (Int.tdiv T 3600) = hh ∧ wrap64 (Int.tdiv T 60) = q19 ∧ Int.tmod q19 60 = mi ∧ Int.tmod T 60 = se ∧ ya = 400 * ofC s + ofY s ∧ ma = ofM s + 3 ∧ dd = ofF s - (153 * ofM s + 2) / 5 + 1 ∧ hh = ofT s / 3600 ∧ mi = ofT s / 60 % 60 ∧ se = ofT s % 60 ∧ (0 ≤ ya ∧ ya ≤ 10000) ∧ (0 ≤ ma ∧ ma ≤ 20) := by
  have b1 := ofD_b s h1 h2
  have b2 := ofE_b s
  have b3 := ofY_b s
  have b4 := ofF_b s
  have b5 := ofM_b s
  have b6 := ofT_b s
  have b7 : 0 ≤ ofC s ∧ ofC s ≤ 10 := by unfold ofC; omega
  have d1 : ofT s = s - s / 86400 * 86400 := by unfold ofT; omega
  have d2 : ofD s = s / 86400 + 693901 := rfl
  exact ⟨s / 86400, s / 86400 * 86400, ofT s, ofD s, ofC s, ofE s, ofE s / 1460, ofE s - ofE s / 1460, ofE s / 36524, ofE s - ofE s / 1460 + ofE s / 36524, ofE s / 146096, ofE s - ofE s / 1460 + ofE s / 36524 - ofE s / 146096, ofY s, 365 * ofY s, ofY s / 4, 365 * ofY s + ofY s / 4, ofY s / 100, 365 * ofY s + ofY s / 4 - ofY s / 100, ofF s, 5 * ofF s, 5 * ofF s + 2, ofM s, 400 * ofC s, 400 * ofC s + ofY s, ofM s + 3, 153 * ofM s, 153 * ofM s + 2, (153 * ofM s + 2) / 5, ofF s - (153 * ofM s + 2) / 5, ofF s - (153 * ofM s + 2) / 5 + 1, ofT s / 3600, ofT s / 60, ofT s / 60 % 60, ofT s % 60, rfl,
    (w_of _ (by omega) (by omega)).trans (by first | rfl | omega),
    (w_of _ (by omega) (by omega)).trans (by first | rfl | omega),
    (w_of _ (by omega) (by omega)).trans (by first | rfl | omega),
    w_div _ _ (by decide) (by omega) (by omega),
    (Int.tmod_eq_emod_of_nonneg (by omega)).trans (by first | rfl | (unfold ofE; rfl)),
    w_div _ _ (by decide) (by omega) (by omega),
    (w_of _ (by omega) (by omega)).trans (by first | rfl | omega),
    w_div _ _ (by decide) (by omega) (by omega),
    (w_of _ (by omega) (by omega)).trans (by first | rfl | omega),
    w_div _ _ (by decide) (by omega) (by omega),
    (w_of _ (by omega) (by omega)).trans (by first | rfl | omega),
    w_div _ _ (by decide) (by omega) (by omega),
    (w_of _ (by omega) (by omega)).trans (by first | rfl | omega),
    w_div _ _ (by decide) (by omega) (by omega),
    (w_of _ (by omega) (by omega)).trans (by first | rfl | omega),
    w_div _ _ (by decide) (by omega) (by omega),
    (w_of _ (by omega) (by omega)).trans (by first | rfl | omega),
    (w_of _ (by omega) (by omega)).trans (by first | rfl | omega),
    (w_of _ (by omega) (by omega)).trans (by first | rfl | omega),
    (w_of _ (by omega) (by omega)).trans (by first | rfl | omega),
    w_div _ _ (by decide) (by omega) (by omega),
    (w_of _ (by omega) (by omega)).trans (by first | rfl | omega),
    (w_of _ (by omega) (by omega)).trans (by first | rfl | omega),
    (w_of _ (by omega) (by omega)).trans (by first | rfl | omega),
    (w_of _ (by omega) (by omega)).trans (by first | rfl | omega),
    (w_of _ (by omega) (by omega)).trans (by first | rfl | omega),
    w_div _ _ (by decide) (by omega) (by omega),
    (w_of _ (by omega) (by omega)).trans (by first | rfl | omega),
    (w_of _ (by omega) (by omega)).trans (by first | rfl | omega),
    w_div _ _ (by decide) (by omega) (by omega),
    w_div _ _ (by decide) (by omega) (by omega),
    (Int.tmod_eq_emod_of_nonneg (by omega)).trans (by first | rfl | (unfold ofE; rfl)),
    (Int.tmod_eq_emod_of_nonneg (by omega)).trans (by first | rfl | (unfold ofE; rfl)),
    rfl,
    rfl,
    rfl,
    rfl,
    rfl,
    rfl,
    ⟨by omega, by omega⟩,
    ⟨by omega, by omega⟩⟩
theorem at_world {P : Program} {c : Code} {Q : Exit → Act → World → Prop} {a : Act} {w : World} (R : World → Prop) (h : R w) (k : ∀ W, R W → Code.wp P c Q a W) : Code.wp P c Q a w := k w h
theorem of_vals (s t T D C E Y F M : Int) (hs : -8000000000 ≤ s ∧ s ≤ 8000000000) (ht : s / 86400 = t) (eT : wrap64 (s - wrap64 (t * 86400)) = T) (eD : wrap64 (t + 693901) = D) (eC : wrap64 (Int.tdiv D 146097) = C) (eE : Int.tmod D 146097 = E)
    (eY : wrap64 (Int.tdiv (wrap64 (wrap64 (wrap64 (E - wrap64 (Int.tdiv E 1460)) + wrap64 (Int.tdiv E 36524)) - wrap64 (Int.tdiv E 146096))) 365) = Y) (eF : wrap64 (E - wrap64 (wrap64 (wrap64 (365 * Y) + wrap64 (Int.tdiv Y 4)) - wrap64 (Int.tdiv Y 100))) = F) (eM : wrap64 (Int.tdiv (wrap64 (wrap64 (5 * F) + 2)) 153) = M) :
    wrap64 (wrap64 (400 * C) + Y) = 400 * ofC s + ofY s ∧ wrap64 (M + 3) = ofM s + 3 ∧ wrap64 (wrap64 (F - wrap64 (Int.tdiv (wrap64 (wrap64 (153 * M) + 2)) 5)) + 1) = ofF s - (153 * ofM s + 2) / 5 + 1 ∧ wrap64 (Int.tdiv T 3600) = ofT s / 3600 ∧ Int.tmod (wrap64 (Int.tdiv T 60)) 60 = ofT s / 60 % 60 ∧ Int.tmod T 60 = ofT s % 60 ∧ (0 ≤ wrap64 (wrap64 (400 * C) + Y) ∧ wrap64 (wrap64 (400 * C) + Y) ≤ 10000) ∧ (0 ≤ wrap64 (M + 3) ∧ wrap64 (M + 3) ≤ 20) := by
  obtain ⟨t', dm, T', D', C', E', q1, q2, q3, q4, q5, q6, Y', q7, q8, q9, q10, q11, F', q12, q13, M', q14, ya, ma, q15, q16, q17, q18, dd, hh, q19, mi, se, e0, E1, E2, E3, E4, E5, E6, E7, E8, E9, E10, E11, E12, E13, E14, E15, E16, E17, E18, E19, E20, E21, E22, E23, E24, E25, E26, E27, E28, E29, E30, E31, E32, E33, G1, G2, G3, G4, G5, G6, G7, G8⟩ := of_steps s hs.1 hs.2
  subst ht
  subst e0
  rw [E1, E2] at eT
  subst eT
  rw [E3] at eD
  subst eD
  rw [E4] at eC
  subst eC
  rw [E5] at eE
  subst eE
  rw [E6, E7, E8, E9, E10, E11, E12] at eY
  subst eY
  rw [E13, E14, E15, E16, E17, E18] at eF
  subst eF
  rw [E19, E20, E21] at eM
  subst eM
  rw [E22, E23, E24, E25, E26, E27, E28, E29, E30, E31, E32, E33]
  exact ⟨G1, G2, G3, G4, G5, G6, G7, G8⟩
theorem of_none (s : Int) (h : s < -8000000000 ∨ s > 8000000000) : civil_Of.f s = some (0, 0, 0, 0, 0, 0, 0, 3) := by unfold civil_Of.f; rw [if_pos h]
theorem of_some (s : Int) (h : ¬ (s < -8000000000 ∨ s > 8000000000)) : civil_Of.f s = if ofM s + 3 > 12 then some (400 * ofC s + ofY s + 1, ofM s + 3 - 12, ofF s - (153 * ofM s + 2) / 5 + 1, ofT s / 3600, ofT s / 60 % 60, ofT s % 60, 0, 0)
  else some (400 * ofC s + ofY s, ofM s + 3, ofF s - (153 * ofM s + 2) / 5 + 1, ofT s / 3600, ofT s / 60 % 60, ofT s % 60, 0, 0) := by unfold civil_Of.f; rw [if_neg h]
set_option maxHeartbeats 8000000 in
set_option maxRecDepth 100000 in
theorem civil_Of.calls (a0 : Int) (r1 r2 r3 r4 r5 r6 r7 r8 : Int) (w : World) (h : civil_Of.f a0 = some (r1, r2, r3, r4, r5, r6, r7, r8)) :
    Calls Tryd.prog 23 #[.int .i64 a0] w fun e w' => e = .returned (.tuple #[.agg #[.int .i64 r1, .int .i64 r2, .int .i64 r3, .int .i64 r4, .int .i64 r5, .int .i64 r6, .int .i64 r7], .int .i64 r8]) ∧ Below w.heap.size w w' := by
  have hu48 := Tryd.underlying48
  have HB := Ad.mk (Below.refl w.heap.size w)
  by_cases c : a0 < -8000000000 ∨ a0 > 8000000000
  · rw [of_none a0 c] at h
    simp only [Option.some.injEq, Prod.mk.injEq] at h
    obtain ⟨rfl, rfl, rfl, rfl, rfl, rfl, rfl, rfl⟩ := h
    have hdd : (decide (a0 < -8000000000) = true) ∨ (decide (a0 < -8000000000) = false ∧ decide (a0 > 8000000000) = true ∧ decide (8000000000 < a0) = true) := by
      rcases c with c | c
      · exact .inl (decide_eq_true c)
      · exact .inr ⟨decide_eq_false (by omega), decide_eq_true c, decide_eq_true c⟩
    clear c
    rcases hdd with c1 | ⟨c1, c2, c3⟩
    · go_enter Tryd.func23, Tryd.ntmps23
      go_upto_region 1 with (first | ((with_reducible refine gate_dst (N := 2) rfl ?_); refine box_event ?hg (N := 2) ?hd (cs := #[.int .i64 0, .int .i64 0, .int .i64 0, .int .i64 0, .int .i64 0, .int .i64 0, .int .i64 0]) (t := 48) ?hr ?_; (case hd => rfl); (case hg => rfl); (case hr => first | (go_simp; done) | (go_simp; rfl)); intro gb104 hg w3 hbox hb; have n0_ := Ad.mk (pbt (by repeat (first | (with_reducible first | exact HB.out | apply pba | apply pbN | apply pb1) | exact HB.out)) hb); have n1_ := Ad.mk (hbox); have n2_ := Ad.mk ((by rw [hg]; exact (pbz (by repeat (first | (with_reducible first | exact HB.out | apply pba | apply pbN | apply pb1) | exact HB.out))) : w.heap.size ≤ gb104)); have n3_ := Ad.mk ((by rw [hg]; exact (pbz (by repeat (first | (with_reducible first | exact HB.out | apply pba | apply pbN | apply pb1) | exact HB.out))) : w.heap.size ≤ gb104)); clear HB; have HB := n0_; have BK104 := n1_; have GW104 := n2_; have GE104 := n3_; clear n0_ n1_ n2_ n3_; clear hb hbox hg))
      (try simp only [Act.put, sA, sB, sC])
      have hcz6_0 : w3.cell? ⟨gb104, 0, none⟩ = some (.int .i64 0) := (bcl BK104.out 0).trans rfl
      have hcz6_1 : w3.cell? ⟨gb104, 1, none⟩ = some (.int .i64 0) := (bcl BK104.out 1).trans rfl
      have hcz6_2 : w3.cell? ⟨gb104, 2, none⟩ = some (.int .i64 0) := (bcl BK104.out 2).trans rfl
      have hcz6_3 : w3.cell? ⟨gb104, 3, none⟩ = some (.int .i64 0) := (bcl BK104.out 3).trans rfl
      have hcz6_4 : w3.cell? ⟨gb104, 4, none⟩ = some (.int .i64 0) := (bcl BK104.out 4).trans rfl
      have hcz6_5 : w3.cell? ⟨gb104, 5, none⟩ = some (.int .i64 0) := (bcl BK104.out 5).trans rfl
      have hcz6_6 : w3.cell? ⟨gb104, 6, none⟩ = some (.int .i64 0) := (bcl BK104.out 6).trans rfl
      have hfz6_0 := bfz BK104.out 0
      have hfz6_1 := bfz BK104.out 1
      have hfz6_2 := bfz BK104.out 2
      have hfz6_3 := bfz BK104.out 3
      have hfz6_4 := bfz BK104.out 4
      have hfz6_5 := bfz BK104.out 5
      have hfz6_6 := bfz BK104.out 6
      go_wp2
      refine bodyPost_ret (results_ct rfl _ _ gb104 48 #[.int .i64 0, .int .i64 0, .int .i64 0, .int .i64 0, .int .i64 0, .int .i64 0, .int .i64 0] (0, 0) _ rfl (by (with_reducible repeat (first | refine bkN ?_ _ | refine bkd ?_ | refine bka ?_ _)); refine blk_put (cs := #[.int .i64 0, .int .i64 0, .int .i64 0, .int .i64 0, .int .i64 0, .int .i64 0, .int .i64 0]) ?_ 6 _ rfl; refine blk_put (cs := #[.int .i64 0, .int .i64 0, .int .i64 0, .int .i64 0, .int .i64 0, .int .i64 0, .int .i64 0]) ?_ 5 _ rfl; refine blk_put (cs := #[.int .i64 0, .int .i64 0, .int .i64 0, .int .i64 0, .int .i64 0, .int .i64 0, .int .i64 0]) ?_ 4 _ rfl; refine blk_put (cs := #[.int .i64 0, .int .i64 0, .int .i64 0, .int .i64 0, .int .i64 0, .int .i64 0, .int .i64 0]) ?_ 3 _ rfl; refine blk_put (cs := #[.int .i64 0, .int .i64 0, .int .i64 0, .int .i64 0, .int .i64 0, .int .i64 0, .int .i64 0]) ?_ 2 _ rfl; refine blk_put (cs := #[.int .i64 0, .int .i64 0, .int .i64 0, .int .i64 0, .int .i64 0, .int .i64 0, .int .i64 0]) ?_ 1 _ rfl; refine blk_put (cs := #[.int .i64 0, .int .i64 0, .int .i64 0, .int .i64 0, .int .i64 0, .int .i64 0, .int .i64 0]) ?_ 0 _ rfl; (with_reducible repeat (first | refine bkN ?_ _ | refine bkd ?_ | refine bka ?_ _)); exact BK104.out) Tryd.underlying48 rfl (by kernel_rfl)) rfl ?_
      exact ⟨by first | rfl | (simp [ewn, ews] <;> rfl) | (simp [*, ewn, ews] <;> rfl), by repeat (first | (with_reducible first | exact HB.out | apply pba | apply pbN | apply pb1 | refine pbs ?_ GE104.out) | exact HB.out)⟩
    · go_enter Tryd.func23, Tryd.ntmps23
      go_upto_region 1 with (first | ((with_reducible refine gate_dst (N := 2) rfl ?_); refine box_event ?hg (N := 2) ?hd (cs := #[.int .i64 0, .int .i64 0, .int .i64 0, .int .i64 0, .int .i64 0, .int .i64 0, .int .i64 0]) (t := 48) ?hr ?_; (case hd => rfl); (case hg => rfl); (case hr => first | (go_simp; done) | (go_simp; rfl)); intro gb104 hg w3 hbox hb; have n0_ := Ad.mk (pbt (by repeat (first | (with_reducible first | exact HB.out | apply pba | apply pbN | apply pb1) | exact HB.out)) hb); have n1_ := Ad.mk (hbox); have n2_ := Ad.mk ((by rw [hg]; exact (pbz (by repeat (first | (with_reducible first | exact HB.out | apply pba | apply pbN | apply pb1) | exact HB.out))) : w.heap.size ≤ gb104)); have n3_ := Ad.mk ((by rw [hg]; exact (pbz (by repeat (first | (with_reducible first | exact HB.out | apply pba | apply pbN | apply pb1) | exact HB.out))) : w.heap.size ≤ gb104)); clear HB; have HB := n0_; have BK104 := n1_; have GW104 := n2_; have GE104 := n3_; clear n0_ n1_ n2_ n3_; clear hb hbox hg))
      (try simp only [Act.put, sA, sB, sC])
      have hcz6_0 : w3.cell? ⟨gb104, 0, none⟩ = some (.int .i64 0) := (bcl BK104.out 0).trans rfl
      have hcz6_1 : w3.cell? ⟨gb104, 1, none⟩ = some (.int .i64 0) := (bcl BK104.out 1).trans rfl
      have hcz6_2 : w3.cell? ⟨gb104, 2, none⟩ = some (.int .i64 0) := (bcl BK104.out 2).trans rfl
      have hcz6_3 : w3.cell? ⟨gb104, 3, none⟩ = some (.int .i64 0) := (bcl BK104.out 3).trans rfl
      have hcz6_4 : w3.cell? ⟨gb104, 4, none⟩ = some (.int .i64 0) := (bcl BK104.out 4).trans rfl
      have hcz6_5 : w3.cell? ⟨gb104, 5, none⟩ = some (.int .i64 0) := (bcl BK104.out 5).trans rfl
      have hcz6_6 : w3.cell? ⟨gb104, 6, none⟩ = some (.int .i64 0) := (bcl BK104.out 6).trans rfl
      have hfz6_0 := bfz BK104.out 0
      have hfz6_1 := bfz BK104.out 1
      have hfz6_2 := bfz BK104.out 2
      have hfz6_3 := bfz BK104.out 3
      have hfz6_4 := bfz BK104.out 4
      have hfz6_5 := bfz BK104.out 5
      have hfz6_6 := bfz BK104.out 6
      go_wp2
      refine bodyPost_ret (results_ct rfl _ _ gb104 48 #[.int .i64 0, .int .i64 0, .int .i64 0, .int .i64 0, .int .i64 0, .int .i64 0, .int .i64 0] (0, 0) _ rfl (by (with_reducible repeat (first | refine bkN ?_ _ | refine bkd ?_ | refine bka ?_ _)); refine blk_put (cs := #[.int .i64 0, .int .i64 0, .int .i64 0, .int .i64 0, .int .i64 0, .int .i64 0, .int .i64 0]) ?_ 6 _ rfl; refine blk_put (cs := #[.int .i64 0, .int .i64 0, .int .i64 0, .int .i64 0, .int .i64 0, .int .i64 0, .int .i64 0]) ?_ 5 _ rfl; refine blk_put (cs := #[.int .i64 0, .int .i64 0, .int .i64 0, .int .i64 0, .int .i64 0, .int .i64 0, .int .i64 0]) ?_ 4 _ rfl; refine blk_put (cs := #[.int .i64 0, .int .i64 0, .int .i64 0, .int .i64 0, .int .i64 0, .int .i64 0, .int .i64 0]) ?_ 3 _ rfl; refine blk_put (cs := #[.int .i64 0, .int .i64 0, .int .i64 0, .int .i64 0, .int .i64 0, .int .i64 0, .int .i64 0]) ?_ 2 _ rfl; refine blk_put (cs := #[.int .i64 0, .int .i64 0, .int .i64 0, .int .i64 0, .int .i64 0, .int .i64 0, .int .i64 0]) ?_ 1 _ rfl; refine blk_put (cs := #[.int .i64 0, .int .i64 0, .int .i64 0, .int .i64 0, .int .i64 0, .int .i64 0, .int .i64 0]) ?_ 0 _ rfl; (with_reducible repeat (first | refine bkN ?_ _ | refine bkd ?_ | refine bka ?_ _)); exact BK104.out) Tryd.underlying48 rfl (by kernel_rfl)) rfl ?_
      exact ⟨by first | rfl | (simp [ewn, ews] <;> rfl) | (simp [*, ewn, ews] <;> rfl), by repeat (first | (with_reducible first | exact HB.out | apply pba | apply pbN | apply pb1 | refine pbs ?_ GE104.out) | exact HB.out)⟩
  · rw [of_some a0 c] at h
    have c1 : decide (a0 < -8000000000) = false := decide_eq_false (by omega)
    have c2 : decide (a0 > 8000000000) = false := decide_eq_false (by omega)
    have c3 : decide (8000000000 < a0) = false := decide_eq_false (by omega)
    have A7 : Ad (civil_dayOf.f a0 = some (a0 / 86400)) := ⟨day_eq a0 (by omega) (by omega)⟩
    have HS : Ad (-8000000000 ≤ a0 ∧ a0 ≤ 8000000000) := ⟨by omega, by omega⟩
    generalize ht : a0 / 86400 = t105 at A7
    have HT := Ad.mk ht
    have HH := Ad.mk h
    clear h ht c
    go_enter Tryd.func23, Tryd.ntmps23
    go_upto_region 1 with (first | ((with_reducible refine gate_dst (N := 2) rfl ?_); refine box_event ?hg (N := 2) ?hd (cs := #[.int .i64 0, .int .i64 0, .int .i64 0, .int .i64 0, .int .i64 0, .int .i64 0, .int .i64 0]) (t := 48) ?hr ?_; (case hd => rfl); (case hg => rfl); (case hr => first | (go_simp; done) | (go_simp; rfl)); intro gb104 hg w3 hbox hb; have n0_ := Ad.mk (pbt (by repeat (first | (with_reducible first | exact HB.out | apply pba | apply pbN | apply pb1) | exact HB.out)) hb); have n1_ := Ad.mk (hbox); have n2_ := Ad.mk ((by rw [hg]; exact (pbz (by repeat (first | (with_reducible first | exact HB.out | apply pba | apply pbN | apply pb1) | exact HB.out))) : w.heap.size ≤ gb104)); have n3_ := Ad.mk ((by rw [hg]; exact (pbz (by repeat (first | (with_reducible first | exact HB.out | apply pba | apply pbN | apply pb1) | exact HB.out))) : w.heap.size ≤ gb104)); clear HB; have HB := n0_; have BK104 := n1_; have GW104 := n2_; have GE104 := n3_; clear n0_ n1_ n2_ n3_; clear hb hbox hg))
    (try simp only [Act.put, sA, sB, sC])
    go_upto_region 4 with (((with_reducible refine gate_callee (f := 42) rfl ?_); refine goesL_ (some 19) rfl rfl Tryd.func42 (by kernel_rfl) rfl #[.int .i64 a0] rfl (by (try simp only [List.map_toArray, List.map_cons, List.map_nil]); first | done | rfl | (simp only [List.length_drop, List.length_take]; rfl)) ?_; (with_reducible refine (civil_dayOf.calls a0 t105 _ A7.out).mono ?_); rintro e w' ⟨rfl, ⟨nd, rfl⟩⟩; refine ⟨_, rfl, ?_⟩; (try (rw [drewN_self w3]; generalize hq_ : World.drewN w3 _ = w3; have n0_ : Ad (w3.heap[gb104]? = some (.cells #[.int .i64 0, .int .i64 0, .int .i64 0, .int .i64 0, .int .i64 0, .int .i64 0, .int .i64 0] 48 (0, 0))) := ⟨by rw [← hq_]; exact (by (with_reducible repeat (first | refine bkN ?_ _ | refine bkd ?_ | refine bka ?_ _)); exact BK104.out)⟩; have n1_ : Ad (Below w.heap.size w w3) := ⟨by rw [← hq_]; exact (by repeat (first | (with_reducible first | exact HB.out | apply pba | apply pbN | apply pb1 | refine pbs ?_ GE104.out) | exact HB.out))⟩; clear BK104 HB hq_; have BK104 := n0_; have HB := n1_; clear n0_ n1_))))
    (try simp only [Act.put, sA, sB, sC])
    go_upto_region 5 with fail
    (try simp only [Act.put, sA, sB, sC])
    generalize eT : wrap64 (a0 - wrap64 (t105 * 86400)) = T
    have hT := Ad.mk eT
    clear eT
    go_upto_region 6 with fail
    (try simp only [Act.put, sA, sB, sC])
    generalize eD : wrap64 (t105 + 693901) = D
    have hD := Ad.mk eD
    clear eD
    go_upto_region 8 with fail
    (try simp only [Act.put, sA, sB, sC])
    generalize eC : wrap64 (Int.tdiv D 146097) = C
    have hC := Ad.mk eC
    clear eC
    generalize eE : Int.tmod D 146097 = E
    have hE := Ad.mk eE
    clear eE
    go_upto_region 9 with fail
    (try simp only [Act.put, sA, sB, sC])
    generalize eY : wrap64 (Int.tdiv (wrap64 (wrap64 (wrap64 (E - wrap64 (Int.tdiv E 1460)) + wrap64 (Int.tdiv E 36524)) - wrap64 (Int.tdiv E 146096))) 365) = Y
    have hY := Ad.mk eY
    clear eY
    go_upto_region 10 with fail
    (try simp only [Act.put, sA, sB, sC])
    generalize eF : wrap64 (E - wrap64 (wrap64 (wrap64 (365 * Y) + wrap64 (Int.tdiv Y 4)) - wrap64 (Int.tdiv Y 100))) = F
    have hF := Ad.mk eF
    clear eF
    go_upto_region 11 with fail
    (try simp only [Act.put, sA, sB, sC])
    generalize eM : wrap64 (Int.tdiv (wrap64 (wrap64 (5 * F) + 2)) 153) = M
    have hM := Ad.mk eM
    clear eM
    have ⟨hya, hma, hdd, hhh, hmi, hse, hb1, hb2⟩ := of_vals a0 t105 T D C E Y F M (by exact HS.out) HT.out hT.out hD.out hC.out hE.out hY.out hF.out hM.out
    have h := HH.out
    rw [← hya, ← hma, ← hdd, ← hhh, ← hmi, ← hse] at h
    clear HH HS hT hD hC hE hY hF hM HT hya hma hdd hhh hmi hse
    go_upto_region 12 with (((with_reducible refine gate_dst (N := 10) rfl ?_); refine box_event ?hg (N := 10) ?hd (cs := #[.int .i64 0, .int .i64 0, .int .i64 0, .int .i64 0, .int .i64 0, .int .i64 0, .int .i64 0]) (t := 48) ?hr ?_; (case hd => rfl); (case hg => rfl); (case hr => first | (go_simp; done) | (go_simp; rfl)); intro gb106 hg w9 hbox hb; have n0_ := Ad.mk (bbl (g := gb104) (o := .cells #[.int .i64 0, .int .i64 0, .int .i64 0, .int .i64 0, .int .i64 0, .int .i64 0, .int .i64 0] 48 (0, 0)) (by (with_reducible repeat (first | refine bkN ?_ _ | refine bkd ?_ | refine bka ?_ _)); exact BK104.out) hb); have n1_ := Ad.mk (pbt (by repeat (first | (with_reducible first | exact HB.out | apply pba | apply pbN | apply pb1 | refine pbs ?_ GE104.out) | exact HB.out)) hb); have n2_ := Ad.mk (hbox); have n3_ := Ad.mk ((by rw [hg]; exact (pbz (by repeat (first | (with_reducible first | exact HB.out | apply pba | apply pbN | apply pb1 | refine pbs ?_ GE104.out) | exact HB.out))) : w.heap.size ≤ gb106)); have n4_ := Ad.mk ((by rw [hg]; exact (pbz (by repeat (first | (with_reducible first | exact HB.out | apply pba | apply pbN | apply pb1 | refine pbs ?_ GE104.out) | exact HB.out))) : w.heap.size ≤ gb106)); have n5_ := Ad.mk ((by rw [hg]; exact Nat.ne_of_lt (blk_lt (g := gb104) (o := .cells #[.int .i64 0, .int .i64 0, .int .i64 0, .int .i64 0, .int .i64 0, .int .i64 0, .int .i64 0] 48 (0, 0)) (by (with_reducible repeat (first | refine bkN ?_ _ | refine bkd ?_ | refine bka ?_ _)); exact BK104.out)) : gb104 ≠ gb106)); have n6_ := Ad.mk ((by rw [hg]; exact Nat.ne_of_gt (blk_lt (g := gb104) (o := .cells #[.int .i64 0, .int .i64 0, .int .i64 0, .int .i64 0, .int .i64 0, .int .i64 0, .int .i64 0] 48 (0, 0)) (by (with_reducible repeat (first | refine bkN ?_ _ | refine bkd ?_ | refine bka ?_ _)); exact BK104.out)) : gb106 ≠ gb104)); clear BK104; clear HB; have BK104 := n0_; have HB := n1_; have BK106 := n2_; have GW106 := n3_; have GE106 := n4_; have NB104_106 := n5_; have NB106_104 := n6_; clear n0_ n1_ n2_ n3_ n4_ n5_ n6_; clear hb hbox hg; have hnb10 := NB106_104.out; have hnc10 := NB104_106.out; have hcz11_0 : w9.cell? ⟨gb106, 0, none⟩ = some (.int .i64 0) := (bcl BK106.out 0).trans rfl; have hcz11_1 : w9.cell? ⟨gb106, 1, none⟩ = some (.int .i64 0) := (bcl BK106.out 1).trans rfl; have hcz11_2 : w9.cell? ⟨gb106, 2, none⟩ = some (.int .i64 0) := (bcl BK106.out 2).trans rfl; have hcz11_3 : w9.cell? ⟨gb106, 3, none⟩ = some (.int .i64 0) := (bcl BK106.out 3).trans rfl; have hcz11_4 : w9.cell? ⟨gb106, 4, none⟩ = some (.int .i64 0) := (bcl BK106.out 4).trans rfl; have hcz11_5 : w9.cell? ⟨gb106, 5, none⟩ = some (.int .i64 0) := (bcl BK106.out 5).trans rfl; have hcz11_6 : w9.cell? ⟨gb106, 6, none⟩ = some (.int .i64 0) := (bcl BK106.out 6).trans rfl; have hfz11_0 := bfz BK106.out 0; have hfz11_1 := bfz BK106.out 1; have hfz11_2 := bfz BK106.out 2; have hfz11_3 := bfz BK106.out 3; have hfz11_4 := bfz BK106.out 4; have hfz11_5 := bfz BK106.out 5; have hfz11_6 := bfz BK106.out 6; have hcz12_0 : w9.cell? ⟨gb104, 0, none⟩ = some (.int .i64 0) := (bcl BK104.out 0).trans rfl; have hcz12_1 : w9.cell? ⟨gb104, 1, none⟩ = some (.int .i64 0) := (bcl BK104.out 1).trans rfl; have hcz12_2 : w9.cell? ⟨gb104, 2, none⟩ = some (.int .i64 0) := (bcl BK104.out 2).trans rfl; have hcz12_3 : w9.cell? ⟨gb104, 3, none⟩ = some (.int .i64 0) := (bcl BK104.out 3).trans rfl; have hcz12_4 : w9.cell? ⟨gb104, 4, none⟩ = some (.int .i64 0) := (bcl BK104.out 4).trans rfl; have hcz12_5 : w9.cell? ⟨gb104, 5, none⟩ = some (.int .i64 0) := (bcl BK104.out 5).trans rfl; have hcz12_6 : w9.cell? ⟨gb104, 6, none⟩ = some (.int .i64 0) := (bcl BK104.out 6).trans rfl; have hfz12_0 := bfz BK104.out 0; have hfz12_1 := bfz BK104.out 1; have hfz12_2 := bfz BK104.out 2; have hfz12_3 := bfz BK104.out 3; have hfz12_4 := bfz BK104.out 4; have hfz12_5 := bfz BK104.out 5; have hfz12_6 := bfz BK104.out 6))
    generalize wrap64 (wrap64 (400 * C) + Y) = ya at h hb1 ⊢
    generalize wrap64 (M + 3) = ma at h hb2 ⊢
    generalize wrap64 (wrap64 (F - wrap64 (Int.tdiv (wrap64 (wrap64 (153 * M) + 2)) 5)) + 1) = dd at h ⊢
    generalize wrap64 (Int.tdiv T 3600) = hh at h ⊢
    generalize Int.tmod (wrap64 (Int.tdiv T 60)) 60 = mi at h ⊢
    generalize Int.tmod T 60 = se at h ⊢
    by_cases c8 : ma > 12
    · rw [if_pos c8] at h
      obtain ⟨yb, hyb⟩ : ∃ yb, yb = ya + 1 := ⟨_, rfl⟩
      obtain ⟨mb, hmb⟩ : ∃ mb, mb = ma - 12 := ⟨_, rfl⟩
      have E34 : wrap64 (ya + 1) = yb := by rw [hyb]; exact w_of _ (by omega) (by omega)
      have E35 : wrap64 (ma - 12) = mb := by rw [hmb]; exact w_of _ (by omega) (by omega)
      rw [← hyb, ← hmb] at h
      clear hyb hmb hb1 hb2
      have c8b0 : decide (ma > 12) = true := decide_eq_true c8
      have c8b1 : decide (12 < ma) = true := decide_eq_true c8
      clear c8
      simp only [Option.some.injEq, Prod.mk.injEq] at h
      obtain ⟨rfl, rfl, rfl, rfl, rfl, rfl, rfl, rfl⟩ := h
      go_upto_region 15 with fail
      refine at_world (fun W => W.heap[gb104]? = some (.cells #[.int .i64 0, .int .i64 0, .int .i64 0, .int .i64 0, .int .i64 0, .int .i64 0, .int .i64 0] 48 (0, 0)) ∧ W.heap[gb106]? = some (.cells #[.int .i64 yb, .int .i64 mb, .int .i64 dd, .int .i64 hh, .int .i64 mi, .int .i64 se, .int .i64 0] 48 (0, 0)) ∧ Below w.heap.size w W) ⟨by (with_reducible repeat (first | refine bkN ?_ _ | refine bkd ?_ | refine bka ?_ _)); refine blk_far ?_ NB104_106.out _; refine blk_far ?_ NB104_106.out _; refine blk_far ?_ NB104_106.out _; refine blk_far ?_ NB104_106.out _; refine blk_far ?_ NB104_106.out _; refine blk_far ?_ NB104_106.out _; refine blk_far ?_ NB104_106.out _; refine blk_far ?_ NB104_106.out _; refine blk_far ?_ NB104_106.out _; (with_reducible repeat (first | refine bkN ?_ _ | refine bkd ?_ | refine bka ?_ _)); exact BK104.out, by (with_reducible repeat (first | refine bkN ?_ _ | refine bkd ?_ | refine bka ?_ _)); refine blk_put (cs := #[.int .i64 ya, .int .i64 mb, .int .i64 dd, .int .i64 hh, .int .i64 mi, .int .i64 se, .int .i64 0]) ?_ 0 _ rfl; refine blk_put (cs := #[.int .i64 ya, .int .i64 ma, .int .i64 dd, .int .i64 hh, .int .i64 mi, .int .i64 se, .int .i64 0]) ?_ 1 _ rfl; refine blk_put (cs := #[.int .i64 ya, .int .i64 ma, .int .i64 dd, .int .i64 hh, .int .i64 mi, .int .i64 se, .int .i64 0]) ?_ 6 _ rfl; refine blk_put (cs := #[.int .i64 ya, .int .i64 ma, .int .i64 dd, .int .i64 hh, .int .i64 mi, .int .i64 0, .int .i64 0]) ?_ 5 _ rfl; refine blk_put (cs := #[.int .i64 ya, .int .i64 ma, .int .i64 dd, .int .i64 hh, .int .i64 0, .int .i64 0, .int .i64 0]) ?_ 4 _ rfl; refine blk_put (cs := #[.int .i64 ya, .int .i64 ma, .int .i64 dd, .int .i64 0, .int .i64 0, .int .i64 0, .int .i64 0]) ?_ 3 _ rfl; refine blk_put (cs := #[.int .i64 ya, .int .i64 ma, .int .i64 0, .int .i64 0, .int .i64 0, .int .i64 0, .int .i64 0]) ?_ 2 _ rfl; refine blk_put (cs := #[.int .i64 ya, .int .i64 0, .int .i64 0, .int .i64 0, .int .i64 0, .int .i64 0, .int .i64 0]) ?_ 1 _ rfl; refine blk_put (cs := #[.int .i64 0, .int .i64 0, .int .i64 0, .int .i64 0, .int .i64 0, .int .i64 0, .int .i64 0]) ?_ 0 _ rfl; (with_reducible repeat (first | refine bkN ?_ _ | refine bkd ?_ | refine bka ?_ _)); exact BK106.out, by repeat (first | (with_reducible first | exact HB.out | apply pba | apply pbN | apply pb1 | refine pbs ?_ GE106.out) | exact HB.out)⟩ ?_
      rintro W ⟨K104, K106, KB⟩
      have ha0 : W.cell? ⟨gb106, 0, none⟩ = some (.int .i64 yb) := (bcl K106 0).trans rfl
      have hb0 : W.cell? ⟨gb104, 0, none⟩ = some (.int .i64 0) := (bcl K104 0).trans rfl
      have hc0 := bfz K106 0
      have hd0 := bfz K104 0
      have ha1 : W.cell? ⟨gb106, 1, none⟩ = some (.int .i64 mb) := (bcl K106 1).trans rfl
      have hb1 : W.cell? ⟨gb104, 1, none⟩ = some (.int .i64 0) := (bcl K104 1).trans rfl
      have hc1 := bfz K106 1
      have hd1 := bfz K104 1
      have ha2 : W.cell? ⟨gb106, 2, none⟩ = some (.int .i64 dd) := (bcl K106 2).trans rfl
      have hb2 : W.cell? ⟨gb104, 2, none⟩ = some (.int .i64 0) := (bcl K104 2).trans rfl
      have hc2 := bfz K106 2
      have hd2 := bfz K104 2
      have ha3 : W.cell? ⟨gb106, 3, none⟩ = some (.int .i64 hh) := (bcl K106 3).trans rfl
      have hb3 : W.cell? ⟨gb104, 3, none⟩ = some (.int .i64 0) := (bcl K104 3).trans rfl
      have hc3 := bfz K106 3
      have hd3 := bfz K104 3
      have ha4 : W.cell? ⟨gb106, 4, none⟩ = some (.int .i64 mi) := (bcl K106 4).trans rfl
      have hb4 : W.cell? ⟨gb104, 4, none⟩ = some (.int .i64 0) := (bcl K104 4).trans rfl
      have hc4 := bfz K106 4
      have hd4 := bfz K104 4
      have ha5 : W.cell? ⟨gb106, 5, none⟩ = some (.int .i64 se) := (bcl K106 5).trans rfl
      have hb5 : W.cell? ⟨gb104, 5, none⟩ = some (.int .i64 0) := (bcl K104 5).trans rfl
      have hc5 := bfz K106 5
      have hd5 := bfz K104 5
      have ha6 : W.cell? ⟨gb106, 6, none⟩ = some (.int .i64 0) := (bcl K106 6).trans rfl
      have hb6 : W.cell? ⟨gb104, 6, none⟩ = some (.int .i64 0) := (bcl K104 6).trans rfl
      have hc6 := bfz K106 6
      have hd6 := bfz K104 6
      clear hcz11_0 hcz12_0 hfz11_0 hfz12_0 hcz11_1 hcz12_1 hfz11_1 hfz12_1 hcz11_2 hcz12_2 hfz11_2 hfz12_2 hcz11_3 hcz12_3 hfz11_3 hfz12_3 hcz11_4 hcz12_4 hfz11_4 hfz12_4 hcz11_5 hcz12_5 hfz11_5 hfz12_5 hcz11_6 hcz12_6 hfz11_6 hfz12_6
      have HK := Ad.mk K104
      have HKB := Ad.mk KB
      clear K104 K106 KB
      go_wp2
      refine bodyPost_ret (results_ct rfl _ _ gb104 48 #[.int .i64 yb, .int .i64 mb, .int .i64 dd, .int .i64 hh, .int .i64 mi, .int .i64 se, .int .i64 0] (0, 0) _ rfl (by (with_reducible repeat (first | refine bkN ?_ _ | refine bkd ?_ | refine bka ?_ _)); refine blk_put (cs := #[.int .i64 yb, .int .i64 mb, .int .i64 dd, .int .i64 hh, .int .i64 mi, .int .i64 se, .int .i64 0]) ?_ 6 _ rfl; refine blk_put (cs := #[.int .i64 yb, .int .i64 mb, .int .i64 dd, .int .i64 hh, .int .i64 mi, .int .i64 0, .int .i64 0]) ?_ 5 _ rfl; refine blk_put (cs := #[.int .i64 yb, .int .i64 mb, .int .i64 dd, .int .i64 hh, .int .i64 0, .int .i64 0, .int .i64 0]) ?_ 4 _ rfl; refine blk_put (cs := #[.int .i64 yb, .int .i64 mb, .int .i64 dd, .int .i64 0, .int .i64 0, .int .i64 0, .int .i64 0]) ?_ 3 _ rfl; refine blk_put (cs := #[.int .i64 yb, .int .i64 mb, .int .i64 0, .int .i64 0, .int .i64 0, .int .i64 0, .int .i64 0]) ?_ 2 _ rfl; refine blk_put (cs := #[.int .i64 yb, .int .i64 0, .int .i64 0, .int .i64 0, .int .i64 0, .int .i64 0, .int .i64 0]) ?_ 1 _ rfl; refine blk_put (cs := #[.int .i64 0, .int .i64 0, .int .i64 0, .int .i64 0, .int .i64 0, .int .i64 0, .int .i64 0]) ?_ 0 _ rfl; (with_reducible repeat (first | refine bkN ?_ _ | refine bkd ?_ | refine bka ?_ _)); exact HK.out) Tryd.underlying48 rfl (by kernel_rfl)) rfl ?_
      exact ⟨by first | rfl | (simp; done), by repeat (first | (with_reducible first | exact HKB.out | apply pba | apply pbN | apply pb1 | refine pbs ?_ GE104.out) | exact HKB.out)⟩
    · rw [if_neg c8] at h
      have c8b0 : decide (ma > 12) = false := decide_eq_false c8
      have c8b1 : decide (12 < ma) = false := decide_eq_false c8
      clear c8 hb1 hb2
      simp only [Option.some.injEq, Prod.mk.injEq] at h
      obtain ⟨rfl, rfl, rfl, rfl, rfl, rfl, rfl, rfl⟩ := h
      go_upto_region 15 with fail
      refine at_world (fun W => W.heap[gb104]? = some (.cells #[.int .i64 0, .int .i64 0, .int .i64 0, .int .i64 0, .int .i64 0, .int .i64 0, .int .i64 0] 48 (0, 0)) ∧ W.heap[gb106]? = some (.cells #[.int .i64 ya, .int .i64 ma, .int .i64 dd, .int .i64 hh, .int .i64 mi, .int .i64 se, .int .i64 0] 48 (0, 0)) ∧ Below w.heap.size w W) ⟨by (with_reducible repeat (first | refine bkN ?_ _ | refine bkd ?_ | refine bka ?_ _)); refine blk_far ?_ NB104_106.out _; refine blk_far ?_ NB104_106.out _; refine blk_far ?_ NB104_106.out _; refine blk_far ?_ NB104_106.out _; refine blk_far ?_ NB104_106.out _; refine blk_far ?_ NB104_106.out _; refine blk_far ?_ NB104_106.out _; (with_reducible repeat (first | refine bkN ?_ _ | refine bkd ?_ | refine bka ?_ _)); exact BK104.out, by (with_reducible repeat (first | refine bkN ?_ _ | refine bkd ?_ | refine bka ?_ _)); refine blk_put (cs := #[.int .i64 ya, .int .i64 ma, .int .i64 dd, .int .i64 hh, .int .i64 mi, .int .i64 se, .int .i64 0]) ?_ 6 _ rfl; refine blk_put (cs := #[.int .i64 ya, .int .i64 ma, .int .i64 dd, .int .i64 hh, .int .i64 mi, .int .i64 0, .int .i64 0]) ?_ 5 _ rfl; refine blk_put (cs := #[.int .i64 ya, .int .i64 ma, .int .i64 dd, .int .i64 hh, .int .i64 0, .int .i64 0, .int .i64 0]) ?_ 4 _ rfl; refine blk_put (cs := #[.int .i64 ya, .int .i64 ma, .int .i64 dd, .int .i64 0, .int .i64 0, .int .i64 0, .int .i64 0]) ?_ 3 _ rfl; refine blk_put (cs := #[.int .i64 ya, .int .i64 ma, .int .i64 0, .int .i64 0, .int .i64 0, .int .i64 0, .int .i64 0]) ?_ 2 _ rfl; refine blk_put (cs := #[.int .i64 ya, .int .i64 0, .int .i64 0, .int .i64 0, .int .i64 0, .int .i64 0, .int .i64 0]) ?_ 1 _ rfl; refine blk_put (cs := #[.int .i64 0, .int .i64 0, .int .i64 0, .int .i64 0, .int .i64 0, .int .i64 0, .int .i64 0]) ?_ 0 _ rfl; (with_reducible repeat (first | refine bkN ?_ _ | refine bkd ?_ | refine bka ?_ _)); exact BK106.out, by repeat (first | (with_reducible first | exact HB.out | apply pba | apply pbN | apply pb1 | refine pbs ?_ GE106.out) | exact HB.out)⟩ ?_
      rintro W ⟨K104, K106, KB⟩
      have ha0 : W.cell? ⟨gb106, 0, none⟩ = some (.int .i64 ya) := (bcl K106 0).trans rfl
      have hb0 : W.cell? ⟨gb104, 0, none⟩ = some (.int .i64 0) := (bcl K104 0).trans rfl
      have hc0 := bfz K106 0
      have hd0 := bfz K104 0
      have ha1 : W.cell? ⟨gb106, 1, none⟩ = some (.int .i64 ma) := (bcl K106 1).trans rfl
      have hb1 : W.cell? ⟨gb104, 1, none⟩ = some (.int .i64 0) := (bcl K104 1).trans rfl
      have hc1 := bfz K106 1
      have hd1 := bfz K104 1
      have ha2 : W.cell? ⟨gb106, 2, none⟩ = some (.int .i64 dd) := (bcl K106 2).trans rfl
      have hb2 : W.cell? ⟨gb104, 2, none⟩ = some (.int .i64 0) := (bcl K104 2).trans rfl
      have hc2 := bfz K106 2
      have hd2 := bfz K104 2
      have ha3 : W.cell? ⟨gb106, 3, none⟩ = some (.int .i64 hh) := (bcl K106 3).trans rfl
      have hb3 : W.cell? ⟨gb104, 3, none⟩ = some (.int .i64 0) := (bcl K104 3).trans rfl
      have hc3 := bfz K106 3
      have hd3 := bfz K104 3
      have ha4 : W.cell? ⟨gb106, 4, none⟩ = some (.int .i64 mi) := (bcl K106 4).trans rfl
      have hb4 : W.cell? ⟨gb104, 4, none⟩ = some (.int .i64 0) := (bcl K104 4).trans rfl
      have hc4 := bfz K106 4
      have hd4 := bfz K104 4
      have ha5 : W.cell? ⟨gb106, 5, none⟩ = some (.int .i64 se) := (bcl K106 5).trans rfl
      have hb5 : W.cell? ⟨gb104, 5, none⟩ = some (.int .i64 0) := (bcl K104 5).trans rfl
      have hc5 := bfz K106 5
      have hd5 := bfz K104 5
      have ha6 : W.cell? ⟨gb106, 6, none⟩ = some (.int .i64 0) := (bcl K106 6).trans rfl
      have hb6 : W.cell? ⟨gb104, 6, none⟩ = some (.int .i64 0) := (bcl K104 6).trans rfl
      have hc6 := bfz K106 6
      have hd6 := bfz K104 6
      clear hcz11_0 hcz12_0 hfz11_0 hfz12_0 hcz11_1 hcz12_1 hfz11_1 hfz12_1 hcz11_2 hcz12_2 hfz11_2 hfz12_2 hcz11_3 hcz12_3 hfz11_3 hfz12_3 hcz11_4 hcz12_4 hfz11_4 hfz12_4 hcz11_5 hcz12_5 hfz11_5 hfz12_5 hcz11_6 hcz12_6 hfz11_6 hfz12_6
      have HK := Ad.mk K104
      have HKB := Ad.mk KB
      clear K104 K106 KB
      go_wp2
      refine bodyPost_ret (results_ct rfl _ _ gb104 48 #[.int .i64 ya, .int .i64 ma, .int .i64 dd, .int .i64 hh, .int .i64 mi, .int .i64 se, .int .i64 0] (0, 0) _ rfl (by (with_reducible repeat (first | refine bkN ?_ _ | refine bkd ?_ | refine bka ?_ _)); refine blk_put (cs := #[.int .i64 ya, .int .i64 ma, .int .i64 dd, .int .i64 hh, .int .i64 mi, .int .i64 se, .int .i64 0]) ?_ 6 _ rfl; refine blk_put (cs := #[.int .i64 ya, .int .i64 ma, .int .i64 dd, .int .i64 hh, .int .i64 mi, .int .i64 0, .int .i64 0]) ?_ 5 _ rfl; refine blk_put (cs := #[.int .i64 ya, .int .i64 ma, .int .i64 dd, .int .i64 hh, .int .i64 0, .int .i64 0, .int .i64 0]) ?_ 4 _ rfl; refine blk_put (cs := #[.int .i64 ya, .int .i64 ma, .int .i64 dd, .int .i64 0, .int .i64 0, .int .i64 0, .int .i64 0]) ?_ 3 _ rfl; refine blk_put (cs := #[.int .i64 ya, .int .i64 ma, .int .i64 0, .int .i64 0, .int .i64 0, .int .i64 0, .int .i64 0]) ?_ 2 _ rfl; refine blk_put (cs := #[.int .i64 ya, .int .i64 0, .int .i64 0, .int .i64 0, .int .i64 0, .int .i64 0, .int .i64 0]) ?_ 1 _ rfl; refine blk_put (cs := #[.int .i64 0, .int .i64 0, .int .i64 0, .int .i64 0, .int .i64 0, .int .i64 0, .int .i64 0]) ?_ 0 _ rfl; (with_reducible repeat (first | refine bkN ?_ _ | refine bkd ?_ | refine bka ?_ _)); exact HK.out) Tryd.underlying48 rfl (by kernel_rfl)) rfl ?_
      exact ⟨by first | rfl | (simp; done), by repeat (first | (with_reducible first | exact HKB.out | apply pba | apply pbN | apply pb1 | refine pbs ?_ GE104.out) | exact HKB.out)⟩
end Go.Proofs.YtipbkcilpnlgnaaDoor.M
