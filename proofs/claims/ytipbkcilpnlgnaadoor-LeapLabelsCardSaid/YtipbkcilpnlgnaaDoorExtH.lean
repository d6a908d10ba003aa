/-
-- tight (tight.py)
 civil.Seconds by hand: each intermediate value has a name.
-/
import Derived.Test.YtipbkcilpnlgnaaDoorExtB
import Derived.Test.YtipbkcilpnlgnaaDoorExtG
namespace Go.Proofs.YtipbkcilpnlgnaaDoor.M
open Go.RowKit Go.Proofs.YtipbkcilpnlgnaaDoorG Go.Proofs.YtipbkcilpnlgnaaDoorW.PA Go.Proofs.YtipbkcilpnlgnaaDoorW.PB Go.Proofs.YtipbkcilpnlgnaaDoorW.PC
open List renaming setIfInBounds_toArray → sA, set_cons_zero → sB, set_cons_succ → sC
set_option linter.unusedVariables false
set_option linter.unusedSimpArgs false
theorem outP_false {n lo hi : Int} : outP n lo hi = false ↔ lo ≤ n ∧ n ≤ hi := by
 unfold outP
 rw [Bool.or_eq_false_iff, decide_eq_false_iff_not, decide_eq_false_iff_not]
 omega
theorem monthDays_le (y m : Int) : monthDays y m ≤ 31 := by
 unfold monthDays
 split
 ·decide
 ·split
  ·decide
  ·unfold daysOf
   have hm : (m - 1).toNat < 12 := by omega
   generalize (m - 1).toNat = k at hm
   have : k = 0 ∨ k = 1 ∨ k = 2 ∨ k = 3 ∨ k = 4 ∨ k = 5 ∨ k = 6 ∨ k = 7 ∨ k = 8 ∨ k = 9 ∨ k = 10 ∨ k = 11 := by omega
   rcases this with h | h | h | h | h | h | h | h | h | h | h | h <;> subst h <;> decide
theorem civil_ok {y m d h mi s n : Int} (hc : civilErr y m d h mi s n = 0) : (1600 ≤ y ∧ y ≤ 2200) ∧ (1 ≤ m ∧ m ≤ 12) ∧ (1 ≤ d ∧ d ≤ monthDays y m) ∧ (0 ≤ h ∧ h ≤ 23) ∧ (0 ≤ mi ∧ mi ≤ 59) ∧ (0 ≤ s ∧ s ≤ 59) ∧ (0 ≤ n ∧ n ≤ 999999999) := by
 unfold civilErr at hc
 by_cases c : (outP y 1600 2200 || (outP m 1 12 || outP d 1 (monthDays y m))) = true
 ·rw [if_pos c] at hc; cases hc
 ·rw [if_neg c] at hc
  by_cases c2 : (outP h 0 23 || (outP mi 0 59 || (outP s 0 59 || outP n 0 999999999))) = true
  ·rw [if_pos c2] at hc; cases hc
  ·have c := Bool.eq_false_iff.mpr c
   have c2 := Bool.eq_false_iff.mpr c2
   simp only [Bool.or_eq_false_iff, outP_false] at c c2
   exact ⟨c.1, c.2.1, c.2.2, c2.1, c2.2.1, c2.2.2.1, c2.2.2.2⟩
theorem sec8 (Y M d : Int) (hY : 1599 ≤ Y ∧ Y ≤ 2200) (hM : 0 ≤ M ∧ M ≤ 11) (hd : 1 ≤ d ∧ d ≤ 31) :
  wrap64 (wrap64 (wrap64 (wrap64 (wrap64 (wrap64 (wrap64 (-693901 + wrap64 (365 * Y)) + wrap64 (Int.tdiv Y 4)) - wrap64 (Int.tdiv Y 100)) + wrap64 (Int.tdiv Y 400)) + wrap64 (Int.tdiv (wrap64 (wrap64 (153 * M) + 2)) 5)) + d) - 1) = -693901 + 365 * Y + Y / 4 - Y / 100 + Y / 400 + (153 * M + 2) / 5 + d - 1 := by
 have e1 : wrap64 (365 * Y) = 365 * Y := w_of _ (by omega) (by omega)
 have e2 := w_div Y 4 (by decide) (by omega) (by omega)
 have e3 := w_div Y 100 (by decide) (by omega) (by omega)
 have e4 := w_div Y 400 (by decide) (by omega) (by omega)
 have e5 : wrap64 (153 * M) = 153 * M := w_of _ (by omega) (by omega)
 have e6 : wrap64 (153 * M + 2) = 153 * M + 2 := w_of _ (by omega) (by omega)
 have e7 := w_div (153 * M + 2) 5 (by decide) (by omega) (by omega)
 rw [e1, e2, e3, e4, e5, e6, e7]
 rw [w_of (-693901 + 365 * Y) (by omega) (by omega), w_of (-693901 + 365 * Y + Y / 4) (by omega) (by omega), w_of (-693901 + 365 * Y + Y / 4 - Y / 100) (by omega) (by omega), w_of (-693901 + 365 * Y + Y / 4 - Y / 100 + Y / 400) (by omega) (by omega), w_of (-693901 + 365 * Y + Y / 4 - Y / 100 + Y / 400 + (153 * M + 2) / 5) (by omega) (by omega), w_of (-693901 + 365 * Y + Y / 4 - Y / 100 + Y / 400 + (153 * M + 2) / 5 + d) (by omega) (by omega), w_of _ (by omega) (by omega)]
theorem sec9 (D h mi s : Int) (hD : -1000000 ≤ D ∧ D ≤ 1000000) (hh : 0 ≤ h ∧ h ≤ 23) (hm : 0 ≤ mi ∧ mi ≤ 59) (hs : 0 ≤ s ∧ s ≤ 59) :
  wrap64 (wrap64 (wrap64 (wrap64 (D * 86400) + wrap64 (h * 3600)) + wrap64 (mi * 60)) + s) = D * 86400 + h * 3600 + mi * 60 + s := by
 rw [w_of (D * 86400) (by omega) (by omega), w_of (h * 3600) (by omega) (by omega), w_of (mi * 60) (by omega) (by omega), w_of (D * 86400 + h * 3600) (by omega) (by omega), w_of (D * 86400 + h * 3600 + mi * 60) (by omega) (by omega), w_of _ (by omega) (by omega)]
set_option maxHeartbeats 8000000 in
set_option maxRecDepth 100000 in
theorem civil_Seconds.calls (a0_0 a0_1 a0_2 a0_3 a0_4 a0_5 a0_6 r1 r2 : Int) (w : World) (h : civil_Seconds.f a0_0 a0_1 a0_2 a0_3 a0_4 a0_5 a0_6 = some (r1, r2)) :
  Calls Tryd.prog 43 #[.agg #[.int .i64 a0_0, .int .i64 a0_1, .int .i64 a0_2, .int .i64 a0_3, .int .i64 a0_4, .int .i64 a0_5, .int .i64 a0_6]] w fun e w' => e = .returned (.tuple #[.int .i64 r1, .int .i64 r2]) ∧ Below w.heap.size w w' := by
 have hu48 := Tryd.underlying48
 have HB := Ad.mk (Below.refl w.heap.size w)
 have hChk : Ad (civil_Check.f a0_0 a0_1 a0_2 a0_3 a0_4 a0_5 a0_6 = some (civilErr a0_0 a0_1 a0_2 a0_3 a0_4 a0_5 a0_6)) := ⟨rfl⟩
 unfold civil_Seconds.f at h
 by_cases c3 : civilErr a0_0 a0_1 a0_2 a0_3 a0_4 a0_5 a0_6 = 0
 ·rw [if_pos c3] at h
  obtain ⟨b1, b2, b3, b4, b5, b6, b7⟩ := civil_ok c3
  have b8 := monthDays_le a0_0 a0_1
  have BN := Ad.mk (show (1600 ≤ a0_0 ∧ a0_0 ≤ 2200) ∧ (1 ≤ a0_1 ∧ a0_1 ≤ 12) ∧ (1 ≤ a0_2 ∧ a0_2 ≤ 31) ∧ (0 ≤ a0_3 ∧ a0_3 ≤ 23) ∧ (0 ≤ a0_4 ∧ a0_4 ≤ 59) ∧ (0 ≤ a0_5 ∧ a0_5 ≤ 59) from ⟨b1, b2, ⟨b3.1, by omega⟩, b4, b5, b6⟩)
  clear b1 b2 b3 b4 b5 b6 b7 b8
  rw [c3] at hChk
  clear c3
  have HH := Ad.mk h
  clear h
  by_cases cm : a0_1 < 3
  ·have eM : wrap64 (a0_1 - 3) = a0_1 - 3 := w_of _ (by have := BN.out; omega) (by have := BN.out; omega)
   have c4b : decide (a0_1 - 3 < 0) = true := by exact decide_eq_true (by omega)
   have eY : secY a0_0 a0_1 = a0_0 - 1 := by unfold secY; rw [if_pos cm]
   have eN : secM a0_1 = a0_1 + 9 := by unfold secM; rw [if_pos cm]
   have E8 := Ad.mk (sec8 (a0_0 - 1) (a0_1 + 9) a0_2 (by have := BN.out; omega) (by have := BN.out; omega) (by have := BN.out; omega))
   have ED : Ad (-693901 + 365 * (a0_0 - 1) + (a0_0 - 1) / 4 - (a0_0 - 1) / 100 + (a0_0 - 1) / 400 + (153 * (a0_1 + 9) + 2) / 5 + a0_2 - 1 = secDay a0_0 a0_1 a0_2) := ⟨by unfold secDay; rw [eY, eN]⟩
   have BD : Ad (-1000000 ≤ secDay a0_0 a0_1 a0_2 ∧ secDay a0_0 a0_1 a0_2 ≤ 1000000) := ⟨by rw [← ED.out]; have := BN.out; omega⟩
   clear eY eN cm
   have eY1 : wrap64 (a0_0 - 1) = a0_0 - 1 := w_of _ (by have := BN.out; omega) (by have := BN.out; omega)
   have eM1 : wrap64 (a0_1 - 3 + 12) = a0_1 + 9 := (w_of _ (by have := BN.out; omega) (by have := BN.out; omega)).trans (by omega)
   go_enter Tryd.func43, Tryd.ntmps43
   go_wp2_with (first | ((with_reducible refine gate_dst (N := 1) rfl ?_); refine box_event ?hg (N := 1) ?hd (cs := #[.int .i64 a0_0, .int .i64 a0_1, .int .i64 a0_2, .int .i64 a0_3, .int .i64 a0_4, .int .i64 a0_5, .int .i64 a0_6]) (t := 48) ?hr ?_; (case hd => rfl); (case hg => rfl); (case hr => first | (go_simp; done) | (go_simp; rfl)); intro gb105 hg w6 hbox hb; have n0_ := Ad.mk (pbt (by repeat (first | (with_reducible first | exact HB.out | apply pba | apply pbN | apply pb1) | exact HB.out)) hb); have n1_ := Ad.mk (hbox); have n2_ := Ad.mk ((by rw [hg]; exact (pbz (by repeat (first | (with_reducible first | exact HB.out | apply pba | apply pbN | apply pb1) | exact HB.out))) : w.heap.size ≤ gb105)); have n3_ := Ad.mk ((by rw [hg]; exact (pbz (by repeat (first | (with_reducible first | exact HB.out | apply pba | apply pbN | apply pb1) | exact HB.out))) : w.heap.size ≤ gb105)); clear HB; have HB := n0_; have BK105 := n1_; have GW105 := n2_; have GE105 := n3_; clear n0_ n1_ n2_ n3_; clear hb hbox hg; have hcz7_0 : w6.cell? ⟨gb105, 0, none⟩ = some (.int .i64 a0_0) := (bcl BK105.out 0).trans rfl; have hcz7_1 : w6.cell? ⟨gb105, 1, none⟩ = some (.int .i64 a0_1) := (bcl BK105.out 1).trans rfl; have hcz7_2 : w6.cell? ⟨gb105, 2, none⟩ = some (.int .i64 a0_2) := (bcl BK105.out 2).trans rfl; have hcz7_3 : w6.cell? ⟨gb105, 3, none⟩ = some (.int .i64 a0_3) := (bcl BK105.out 3).trans rfl; have hcz7_4 : w6.cell? ⟨gb105, 4, none⟩ = some (.int .i64 a0_4) := (bcl BK105.out 4).trans rfl; have hcz7_5 : w6.cell? ⟨gb105, 5, none⟩ = some (.int .i64 a0_5) := (bcl BK105.out 5).trans rfl; have hcz7_6 : w6.cell? ⟨gb105, 6, none⟩ = some (.int .i64 a0_6) := (bcl BK105.out 6).trans rfl; have hfz7_0 := bfz BK105.out 0; have hfz7_1 := bfz BK105.out 1; have hfz7_2 := bfz BK105.out 2; have hfz7_3 := bfz BK105.out 3; have hfz7_4 := bfz BK105.out 4; have hfz7_5 := bfz BK105.out 5; have hfz7_6 := bfz BK105.out 6) | (go_at_call 52; (with_reducible refine (civil_Check.calls a0_0 a0_1 a0_2 a0_3 a0_4 a0_5 a0_6 _ _ hChk.out).mono ?_); rintro e w8 ⟨rfl, hb⟩; have n0_ := Ad.mk (bbl (g := gb105) (o := .cells #[.int .i64 a0_0, .int .i64 a0_1, .int .i64 a0_2, .int .i64 a0_3, .int .i64 a0_4, .int .i64 a0_5, .int .i64 a0_6] 48 (0, 0)) (by (with_reducible repeat (first | refine bkN ?_ _ | refine bkd ?_ | refine bka ?_ _)); exact BK105.out) hb); have n1_ := Ad.mk (pbt (by repeat (first | (with_reducible first | exact HB.out | apply pba | apply pbN | apply pb1 | refine pbs ?_ GE105.out) | exact HB.out)) hb); clear BK105; clear HB; have BK105 := n0_; have HB := n1_; clear n0_ n1_; (try clear hb); (try clear hb2); (try clear hk); (try clear hi); have hcz9_0 : w8.cell? ⟨gb105, 0, none⟩ = some (.int .i64 a0_0) := (bcl BK105.out 0).trans rfl; have hcz9_1 : w8.cell? ⟨gb105, 1, none⟩ = some (.int .i64 a0_1) := (bcl BK105.out 1).trans rfl; have hcz9_2 : w8.cell? ⟨gb105, 2, none⟩ = some (.int .i64 a0_2) := (bcl BK105.out 2).trans rfl; have hcz9_3 : w8.cell? ⟨gb105, 3, none⟩ = some (.int .i64 a0_3) := (bcl BK105.out 3).trans rfl; have hcz9_4 : w8.cell? ⟨gb105, 4, none⟩ = some (.int .i64 a0_4) := (bcl BK105.out 4).trans rfl; have hcz9_5 : w8.cell? ⟨gb105, 5, none⟩ = some (.int .i64 a0_5) := (bcl BK105.out 5).trans rfl; have hcz9_6 : w8.cell? ⟨gb105, 6, none⟩ = some (.int .i64 a0_6) := (bcl BK105.out 6).trans rfl; have hfz9_0 := bfz BK105.out 0; have hfz9_1 := bfz BK105.out 1; have hfz9_2 := bfz BK105.out 2; have hfz9_3 := bfz BK105.out 3; have hfz9_4 := bfz BK105.out 4; have hfz9_5 := bfz BK105.out 5; have hfz9_6 := bfz BK105.out 6))
   go_quiet (fail)
   (try simp only [Act.put, sA, sB, sC, eM])
   go_upto_region 8 with fail
   (try simp only [Act.put, sA, sB, sC, eY1, eM1, eM])
   go_upto_region 9 with fail
   (try simp only [Act.put, sA, sB, sC])
   rw [E8.out, ED.out]
   have E9 := Ad.mk (sec9 (secDay a0_0 a0_1 a0_2) a0_3 a0_4 a0_5 BD.out (by have := BN.out; omega) (by have := BN.out; omega) (by have := BN.out; omega))
   have EA : Ad (secDay a0_0 a0_1 a0_2 * 86400 + a0_3 * 3600 + a0_4 * 60 + a0_5 = secAt a0_0 a0_1 a0_2 a0_3 a0_4 a0_5) := ⟨rfl⟩
   generalize secDay a0_0 a0_1 a0_2 = D at *
   go_upto_region 10 with fail
   (try simp only [Act.put, sA, sB, sC])
   rw [E9.out, EA.out]
   generalize secAt a0_0 a0_1 a0_2 a0_3 a0_4 a0_5 = S at *
   have h := HH.out
   by_cases cS : S < -8000000000 ∨ S > 8000000000
   ·rw [if_pos cS] at h
    simp only [Option.some.injEq, Prod.mk.injEq] at h
    obtain ⟨rfl, rfl⟩ := h
    clear HH
    rcases cS with cS | cS
    ·have d1 : decide (S < -8000000000) = true := decide_eq_true cS
     clear cS
     go_wp2
     go_ret2
     exact ⟨by first | rfl | (simp [ewn, ews] <;> rfl) | (simp [*, ewn, ews] <;> rfl), by repeat (first | (with_reducible first | exact HB.out | apply pba | apply pbN | apply pb1 | refine pbs ?_ GE105.out) | exact HB.out)⟩
    ·have d1 : decide (S < -8000000000) = false := decide_eq_false (by omega)
     have d2 : decide (8000000000 < S) = true := decide_eq_true cS
     have d3 : decide (S > 8000000000) = true := decide_eq_true cS
     clear cS
     go_wp2
     go_ret2
     exact ⟨by first | rfl | (simp [ewn, ews] <;> rfl) | (simp [*, ewn, ews] <;> rfl), by repeat (first | (with_reducible first | exact HB.out | apply pba | apply pbN | apply pb1 | refine pbs ?_ GE105.out) | exact HB.out)⟩
   ·rw [if_neg cS] at h
    simp only [Option.some.injEq, Prod.mk.injEq] at h
    obtain ⟨rfl, rfl⟩ := h
    clear HH
    have d1 : decide (S < -8000000000) = false := decide_eq_false (by omega)
    have d2 : decide (8000000000 < S) = false := decide_eq_false (by omega)
    have d3 : decide (S > 8000000000) = false := decide_eq_false (by omega)
    clear cS
    go_wp2
    go_ret2
    exact ⟨by first | rfl | (simp [ewn, ews] <;> rfl) | (simp [*, ewn, ews] <;> rfl), by repeat (first | (with_reducible first | exact HB.out | apply pba | apply pbN | apply pb1 | refine pbs ?_ GE105.out) | exact HB.out)⟩
  ·have eM : wrap64 (a0_1 - 3) = a0_1 - 3 := w_of _ (by have := BN.out; omega) (by have := BN.out; omega)
   have c4b : decide (a0_1 - 3 < 0) = false := by exact decide_eq_false (by omega)
   have eY : secY a0_0 a0_1 = a0_0 := by unfold secY; rw [if_neg cm]
   have eN : secM a0_1 = a0_1 - 3 := by unfold secM; rw [if_neg cm]
   have E8 := Ad.mk (sec8 (a0_0) (a0_1 - 3) a0_2 (by have := BN.out; omega) (by have := BN.out; omega) (by have := BN.out; omega))
   have ED : Ad (-693901 + 365 * (a0_0) + (a0_0) / 4 - (a0_0) / 100 + (a0_0) / 400 + (153 * (a0_1 - 3) + 2) / 5 + a0_2 - 1 = secDay a0_0 a0_1 a0_2) := ⟨by unfold secDay; rw [eY, eN]⟩
   have BD : Ad (-1000000 ≤ secDay a0_0 a0_1 a0_2 ∧ secDay a0_0 a0_1 a0_2 ≤ 1000000) := ⟨by rw [← ED.out]; have := BN.out; omega⟩
   clear eY eN cm
   go_enter Tryd.func43, Tryd.ntmps43
   go_wp2_with (first | ((with_reducible refine gate_dst (N := 1) rfl ?_); refine box_event ?hg (N := 1) ?hd (cs := #[.int .i64 a0_0, .int .i64 a0_1, .int .i64 a0_2, .int .i64 a0_3, .int .i64 a0_4, .int .i64 a0_5, .int .i64 a0_6]) (t := 48) ?hr ?_; (case hd => rfl); (case hg => rfl); (case hr => first | (go_simp; done) | (go_simp; rfl)); intro gb105 hg w6 hbox hb; have n0_ := Ad.mk (pbt (by repeat (first | (with_reducible first | exact HB.out | apply pba | apply pbN | apply pb1) | exact HB.out)) hb); have n1_ := Ad.mk (hbox); have n2_ := Ad.mk ((by rw [hg]; exact (pbz (by repeat (first | (with_reducible first | exact HB.out | apply pba | apply pbN | apply pb1) | exact HB.out))) : w.heap.size ≤ gb105)); have n3_ := Ad.mk ((by rw [hg]; exact (pbz (by repeat (first | (with_reducible first | exact HB.out | apply pba | apply pbN | apply pb1) | exact HB.out))) : w.heap.size ≤ gb105)); clear HB; have HB := n0_; have BK105 := n1_; have GW105 := n2_; have GE105 := n3_; clear n0_ n1_ n2_ n3_; clear hb hbox hg; have hcz7_0 : w6.cell? ⟨gb105, 0, none⟩ = some (.int .i64 a0_0) := (bcl BK105.out 0).trans rfl; have hcz7_1 : w6.cell? ⟨gb105, 1, none⟩ = some (.int .i64 a0_1) := (bcl BK105.out 1).trans rfl; have hcz7_2 : w6.cell? ⟨gb105, 2, none⟩ = some (.int .i64 a0_2) := (bcl BK105.out 2).trans rfl; have hcz7_3 : w6.cell? ⟨gb105, 3, none⟩ = some (.int .i64 a0_3) := (bcl BK105.out 3).trans rfl; have hcz7_4 : w6.cell? ⟨gb105, 4, none⟩ = some (.int .i64 a0_4) := (bcl BK105.out 4).trans rfl; have hcz7_5 : w6.cell? ⟨gb105, 5, none⟩ = some (.int .i64 a0_5) := (bcl BK105.out 5).trans rfl; have hcz7_6 : w6.cell? ⟨gb105, 6, none⟩ = some (.int .i64 a0_6) := (bcl BK105.out 6).trans rfl; have hfz7_0 := bfz BK105.out 0; have hfz7_1 := bfz BK105.out 1; have hfz7_2 := bfz BK105.out 2; have hfz7_3 := bfz BK105.out 3; have hfz7_4 := bfz BK105.out 4; have hfz7_5 := bfz BK105.out 5; have hfz7_6 := bfz BK105.out 6) | (go_at_call 52; (with_reducible refine (civil_Check.calls a0_0 a0_1 a0_2 a0_3 a0_4 a0_5 a0_6 _ _ hChk.out).mono ?_); rintro e w8 ⟨rfl, hb⟩; have n0_ := Ad.mk (bbl (g := gb105) (o := .cells #[.int .i64 a0_0, .int .i64 a0_1, .int .i64 a0_2, .int .i64 a0_3, .int .i64 a0_4, .int .i64 a0_5, .int .i64 a0_6] 48 (0, 0)) (by (with_reducible repeat (first | refine bkN ?_ _ | refine bkd ?_ | refine bka ?_ _)); exact BK105.out) hb); have n1_ := Ad.mk (pbt (by repeat (first | (with_reducible first | exact HB.out | apply pba | apply pbN | apply pb1 | refine pbs ?_ GE105.out) | exact HB.out)) hb); clear BK105; clear HB; have BK105 := n0_; have HB := n1_; clear n0_ n1_; (try clear hb); (try clear hb2); (try clear hk); (try clear hi); have hcz9_0 : w8.cell? ⟨gb105, 0, none⟩ = some (.int .i64 a0_0) := (bcl BK105.out 0).trans rfl; have hcz9_1 : w8.cell? ⟨gb105, 1, none⟩ = some (.int .i64 a0_1) := (bcl BK105.out 1).trans rfl; have hcz9_2 : w8.cell? ⟨gb105, 2, none⟩ = some (.int .i64 a0_2) := (bcl BK105.out 2).trans rfl; have hcz9_3 : w8.cell? ⟨gb105, 3, none⟩ = some (.int .i64 a0_3) := (bcl BK105.out 3).trans rfl; have hcz9_4 : w8.cell? ⟨gb105, 4, none⟩ = some (.int .i64 a0_4) := (bcl BK105.out 4).trans rfl; have hcz9_5 : w8.cell? ⟨gb105, 5, none⟩ = some (.int .i64 a0_5) := (bcl BK105.out 5).trans rfl; have hcz9_6 : w8.cell? ⟨gb105, 6, none⟩ = some (.int .i64 a0_6) := (bcl BK105.out 6).trans rfl; have hfz9_0 := bfz BK105.out 0; have hfz9_1 := bfz BK105.out 1; have hfz9_2 := bfz BK105.out 2; have hfz9_3 := bfz BK105.out 3; have hfz9_4 := bfz BK105.out 4; have hfz9_5 := bfz BK105.out 5; have hfz9_6 := bfz BK105.out 6))
   go_quiet (fail)
   (try simp only [Act.put, sA, sB, sC, eM])
   go_upto_region 8 with fail
   (try simp only [Act.put, sA, sB, sC, eM])
   go_upto_region 9 with fail
   (try simp only [Act.put, sA, sB, sC])
   rw [E8.out, ED.out]
   have E9 := Ad.mk (sec9 (secDay a0_0 a0_1 a0_2) a0_3 a0_4 a0_5 BD.out (by have := BN.out; omega) (by have := BN.out; omega) (by have := BN.out; omega))
   have EA : Ad (secDay a0_0 a0_1 a0_2 * 86400 + a0_3 * 3600 + a0_4 * 60 + a0_5 = secAt a0_0 a0_1 a0_2 a0_3 a0_4 a0_5) := ⟨rfl⟩
   generalize secDay a0_0 a0_1 a0_2 = D at *
   go_upto_region 10 with fail
   (try simp only [Act.put, sA, sB, sC])
   rw [E9.out, EA.out]
   generalize secAt a0_0 a0_1 a0_2 a0_3 a0_4 a0_5 = S at *
   have h := HH.out
   by_cases cS : S < -8000000000 ∨ S > 8000000000
   ·rw [if_pos cS] at h
    simp only [Option.some.injEq, Prod.mk.injEq] at h
    obtain ⟨rfl, rfl⟩ := h
    clear HH
    rcases cS with cS | cS
    ·have d1 : decide (S < -8000000000) = true := decide_eq_true cS
     clear cS
     go_wp2
     go_ret2
     exact ⟨by first | rfl | (simp [ewn, ews] <;> rfl) | (simp [*, ewn, ews] <;> rfl), by repeat (first | (with_reducible first | exact HB.out | apply pba | apply pbN | apply pb1 | refine pbs ?_ GE105.out) | exact HB.out)⟩
    ·have d1 : decide (S < -8000000000) = false := decide_eq_false (by omega)
     have d2 : decide (8000000000 < S) = true := decide_eq_true cS
     have d3 : decide (S > 8000000000) = true := decide_eq_true cS
     clear cS
     go_wp2
     go_ret2
     exact ⟨by first | rfl | (simp [ewn, ews] <;> rfl) | (simp [*, ewn, ews] <;> rfl), by repeat (first | (with_reducible first | exact HB.out | apply pba | apply pbN | apply pb1 | refine pbs ?_ GE105.out) | exact HB.out)⟩
   ·rw [if_neg cS] at h
    simp only [Option.some.injEq, Prod.mk.injEq] at h
    obtain ⟨rfl, rfl⟩ := h
    clear HH
    have d1 : decide (S < -8000000000) = false := decide_eq_false (by omega)
    have d2 : decide (8000000000 < S) = false := decide_eq_false (by omega)
    have d3 : decide (S > 8000000000) = false := decide_eq_false (by omega)
    clear cS
    go_wp2
    go_ret2
    exact ⟨by first | rfl | (simp [ewn, ews] <;> rfl) | (simp [*, ewn, ews] <;> rfl), by repeat (first | (with_reducible first | exact HB.out | apply pba | apply pbN | apply pb1 | refine pbs ?_ GE105.out) | exact HB.out)⟩
 ·rw [if_neg c3] at h
  generalize civilErr a0_0 a0_1 a0_2 a0_3 a0_4 a0_5 a0_6 = t106 at *
  have c3b0 : (t106 == 0) = false := beq_eq_false_iff_ne.mpr c3
  have c3b1 : (t106 != 0) = true := bne_iff_ne.mpr c3
  simp only [Option.some.injEq, Prod.mk.injEq] at h
  obtain ⟨rfl, rfl⟩ := h
  go_enter Tryd.func43, Tryd.ntmps43
  go_wp2_with (first | ((with_reducible refine gate_dst (N := 1) rfl ?_); refine box_event ?hg (N := 1) ?hd (cs := #[.int .i64 a0_0, .int .i64 a0_1, .int .i64 a0_2, .int .i64 a0_3, .int .i64 a0_4, .int .i64 a0_5, .int .i64 a0_6]) (t := 48) ?hr ?_; (case hd => rfl); (case hg => rfl); (case hr => first | (go_simp; done) | (go_simp; rfl)); intro gb105 hg w6 hbox hb; have n0_ := Ad.mk (pbt (by repeat (first | (with_reducible first | exact HB.out | apply pba | apply pbN | apply pb1) | exact HB.out)) hb); have n1_ := Ad.mk (hbox); have n2_ := Ad.mk ((by rw [hg]; exact (pbz (by repeat (first | (with_reducible first | exact HB.out | apply pba | apply pbN | apply pb1) | exact HB.out))) : w.heap.size ≤ gb105)); have n3_ := Ad.mk ((by rw [hg]; exact (pbz (by repeat (first | (with_reducible first | exact HB.out | apply pba | apply pbN | apply pb1) | exact HB.out))) : w.heap.size ≤ gb105)); clear HB; have HB := n0_; have BK105 := n1_; have GW105 := n2_; have GE105 := n3_; clear n0_ n1_ n2_ n3_; clear hb hbox hg; have hcz7_0 : w6.cell? ⟨gb105, 0, none⟩ = some (.int .i64 a0_0) := (bcl BK105.out 0).trans rfl; have hcz7_1 : w6.cell? ⟨gb105, 1, none⟩ = some (.int .i64 a0_1) := (bcl BK105.out 1).trans rfl; have hcz7_2 : w6.cell? ⟨gb105, 2, none⟩ = some (.int .i64 a0_2) := (bcl BK105.out 2).trans rfl; have hcz7_3 : w6.cell? ⟨gb105, 3, none⟩ = some (.int .i64 a0_3) := (bcl BK105.out 3).trans rfl; have hcz7_4 : w6.cell? ⟨gb105, 4, none⟩ = some (.int .i64 a0_4) := (bcl BK105.out 4).trans rfl; have hcz7_5 : w6.cell? ⟨gb105, 5, none⟩ = some (.int .i64 a0_5) := (bcl BK105.out 5).trans rfl; have hcz7_6 : w6.cell? ⟨gb105, 6, none⟩ = some (.int .i64 a0_6) := (bcl BK105.out 6).trans rfl; have hfz7_0 := bfz BK105.out 0; have hfz7_1 := bfz BK105.out 1; have hfz7_2 := bfz BK105.out 2; have hfz7_3 := bfz BK105.out 3; have hfz7_4 := bfz BK105.out 4; have hfz7_5 := bfz BK105.out 5; have hfz7_6 := bfz BK105.out 6) | (go_at_call 52; (with_reducible refine (civil_Check.calls a0_0 a0_1 a0_2 a0_3 a0_4 a0_5 a0_6 _ _ hChk.out).mono ?_); rintro e w8 ⟨rfl, hb⟩; have n0_ := Ad.mk (bbl (g := gb105) (o := .cells #[.int .i64 a0_0, .int .i64 a0_1, .int .i64 a0_2, .int .i64 a0_3, .int .i64 a0_4, .int .i64 a0_5, .int .i64 a0_6] 48 (0, 0)) (by (with_reducible repeat (first | refine bkN ?_ _ | refine bkd ?_ | refine bka ?_ _)); exact BK105.out) hb); have n1_ := Ad.mk (pbt (by repeat (first | (with_reducible first | exact HB.out | apply pba | apply pbN | apply pb1 | refine pbs ?_ GE105.out) | exact HB.out)) hb); clear BK105; clear HB; have BK105 := n0_; have HB := n1_; clear n0_ n1_; (try clear hb); (try clear hb2); (try clear hk); (try clear hi); have hcz9_0 : w8.cell? ⟨gb105, 0, none⟩ = some (.int .i64 a0_0) := (bcl BK105.out 0).trans rfl; have hcz9_1 : w8.cell? ⟨gb105, 1, none⟩ = some (.int .i64 a0_1) := (bcl BK105.out 1).trans rfl; have hcz9_2 : w8.cell? ⟨gb105, 2, none⟩ = some (.int .i64 a0_2) := (bcl BK105.out 2).trans rfl; have hcz9_3 : w8.cell? ⟨gb105, 3, none⟩ = some (.int .i64 a0_3) := (bcl BK105.out 3).trans rfl; have hcz9_4 : w8.cell? ⟨gb105, 4, none⟩ = some (.int .i64 a0_4) := (bcl BK105.out 4).trans rfl; have hcz9_5 : w8.cell? ⟨gb105, 5, none⟩ = some (.int .i64 a0_5) := (bcl BK105.out 5).trans rfl; have hcz9_6 : w8.cell? ⟨gb105, 6, none⟩ = some (.int .i64 a0_6) := (bcl BK105.out 6).trans rfl; have hfz9_0 := bfz BK105.out 0; have hfz9_1 := bfz BK105.out 1; have hfz9_2 := bfz BK105.out 2; have hfz9_3 := bfz BK105.out 3; have hfz9_4 := bfz BK105.out 4; have hfz9_5 := bfz BK105.out 5; have hfz9_6 := bfz BK105.out 6))
  go_ret2
  exact ⟨by first | rfl | (simp [ewn, ews] <;> rfl) | (simp [*, ewn, ews] <;> rfl), by repeat (first | (with_reducible first | exact HB.out | apply pba | apply pbN | apply pb1 | refine pbs ?_ GE105.out) | exact HB.out)⟩
end Go.Proofs.YtipbkcilpnlgnaaDoor.M
