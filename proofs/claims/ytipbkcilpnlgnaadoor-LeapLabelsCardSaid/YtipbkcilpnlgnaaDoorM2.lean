-- printed
import Derived.Test.YtipbkcilpnlgnaaDoorM0
import Derived.Test.YtipbkcilpnlgnaaDoorMD
import Derived.Test.YtipbkcilpnlgnaaDoorMA
import Derived.Test.YtipbkcilpnlgnaaDoorExtI
import Derived.Test.YtipbkcilpnlgnaaDoorExtG
import Derived.Test.YtipbkcilpnlgnaaDoorExtH
namespace Go.Proofs.YtipbkcilpnlgnaaDoor.M
open Go.RowKit Go.Proofs.YtipbkcilpnlgnaaDoorG Go.Proofs.YtipbkcilpnlgnaaDoorW.PA Go.Proofs.YtipbkcilpnlgnaaDoorW.PB Go.Proofs.YtipbkcilpnlgnaaDoorW.PC
attribute [local go_sem] max2_int min2_int max_two min_two max_three min_three max_four min_four   -- for this text's walks alone
set_option linter.unusedVariables false
set_option linter.unusedSimpArgs false
/-! ### w6_small: function 9 -/
set_option maxHeartbeats 8000000 in
set_option maxRecDepth 100000 in
theorem w6_small.calls (a0_0 : Int) (a0_1 : Int) (A0_2 : Option Addr) (c0_2 : Nat) (l0_2 : List (S44)) (r : Bool) (w : World) (hr0_2 : Kd.C k44 w A0_2 l0_2.length l0_2) (hc0_2 : l0_2.length ≤ c0_2) (h : w6_small.f a0_0 a0_1 l0_2 = some r) :
    Calls Tryd.prog 9 #[.agg #[.int .i64 a0_0, .int .i64 a0_1, .slice A0_2 l0_2.length c0_2]] w fun e w' => e = .returned (.bool r) ∧ Below w.heap.size w w' := by
  have hu24 := Tryd.underlying24
  have HR0_2 := Ad.mk hr0_2
  have HC0_2 := Ad.mk hc0_2
  clear hr0_2 hc0_2
  have HB := Ad.mk (Below.refl w.heap.size w)
  have H : (some (decide ((l0_2.length : Int) ≤ 70))) = some r := h
  clear h
  obtain rfl := Option.some.inj H
  go_enter Tryd.func9, Tryd.ntmps9
  go_wp2_with (first | ((with_reducible refine gate_dst (N := 1) rfl ?_); refine box_event ?hg (N := 1) ?hd (cs := #[.int .i64 a0_0, .int .i64 a0_1, .slice A0_2 l0_2.length c0_2]) (t := 24) ?hr ?_; (case hd => rfl); (case hg => rfl); (case hr => first | (go_simp; done) | (go_simp; rfl)); intro gb104 hg w2 hbox hb; have n0_ := Ad.mk (pbt (by repeat (first | (with_reducible first | exact HB.out | apply pba | apply pbN | apply pb1) | exact HB.out)) hb); have n1_ := Ad.mk (hbox); have n2_ := Ad.mk ((by rw [hg]; exact (pbz (by repeat (first | (with_reducible first | exact HB.out | apply pba | apply pbN | apply pb1) | exact HB.out))) : w.heap.size ≤ gb104)); have n3_ := Ad.mk ((by rw [hg]; exact (pbz (by repeat (first | (with_reducible first | exact HB.out | apply pba | apply pbN | apply pb1) | exact HB.out))) : w.heap.size ≤ gb104)); clear HB; have HB := n0_; have BK104 := n1_; have GW104 := n2_; have GE104 := n3_; clear n0_ n1_ n2_ n3_; clear hb hbox hg; have hcz3_0 : w2.cell? ⟨gb104, 0, none⟩ = some (.int .i64 a0_0) := (bcl BK104.out 0).trans rfl; have hcz3_1 : w2.cell? ⟨gb104, 1, none⟩ = some (.int .i64 a0_1) := (bcl BK104.out 1).trans rfl; have hcz3_2 : w2.cell? ⟨gb104, 2, none⟩ = some (.slice A0_2 l0_2.length c0_2) := (bcl BK104.out 2).trans rfl; have hfz3_0 := bfz BK104.out 0; have hfz3_1 := bfz BK104.out 1; have hfz3_2 := bfz BK104.out 2))
  go_ret
  exact ⟨by first | rfl | (simp [ewn, ews] <;> rfl) | (simp [*, ewn, ews] <;> rfl), by repeat (first | (with_reducible first | exact HB.out | apply pba | apply pbN | apply pb1 | refine pbs ?_ GE104.out) | exact HB.out)⟩

/-! ### leap_inside: function 24 -/
set_option maxHeartbeats 8000000 in
set_option maxRecDepth 100000 in
theorem leap_inside.calls (a0 : Int) (r : Bool) (w : World) (h : leap_inside.f a0 = some r) :
    Calls Tryd.prog 24 #[.int .i64 a0] w fun e w' => e = .returned (.bool r) ∧ Drawn0 w w' := by
  have H : (if a0 ≥ (-8000000000) then (some (decide (a0 ≤ 8000000000))) else (some false)) = some r := h
  clear h
  by_cases c2 : a0 ≥ (-8000000000)
  · rw [if_pos c2] at H
    have c2b0 : decide ((-8000000000) ≤ a0) = true := decide_eq_true c2
    clear c2
    obtain rfl := Option.some.inj H
    go_enter Tryd.func24, Tryd.ntmps24
    go_wp2
    go_ret
    exact ⟨by first | rfl | (simp; done) | (simp [*]; done), by repeat (first | exact Drawn0.refl _ | apply Drawn0.step)⟩
  · rw [if_neg c2] at H
    have c2b0 : decide ((-8000000000) ≤ a0) = false := decide_eq_false c2
    clear c2
    obtain rfl := Option.some.inj H
    go_enter Tryd.func24, Tryd.ntmps24
    go_wp2
    go_ret
    exact ⟨by first | rfl | (simp; done) | (simp [*]; done), by repeat (first | exact Drawn0.refl _ | apply Drawn0.step)⟩

-- BY HAND: function 23 (civil_Of), text ExtG

-- BY HAND: function 43 (civil_Seconds), text ExtH

/-! ### leap_old: function 26 -/
set_option maxHeartbeats 8000000 in
set_option maxRecDepth 100000 in
theorem leap_old.calls (a0_0 : Int) (a0_1 : Int) (A0_2 : Option Addr) (c0_2 : Nat) (l0_2 : List (S44)) (a1 : Int) (r : Int) (w : World) (hr0_2 : Kd.C k44 w A0_2 l0_2.length l0_2) (hc0_2 : l0_2.length ≤ c0_2) (h : leap_old.f a0_0 a0_1 l0_2 a1 = some r) :
    Calls Tryd.prog 26 #[.agg #[.int .i64 a0_0, .int .i64 a0_1, .slice A0_2 l0_2.length c0_2], .int .i64 a1] w fun e w' => e = .returned (.int .i64 r) ∧ Below w.heap.size w w' := by
  have hu24 := Tryd.underlying24
  have HR0_2 := Ad.mk hr0_2
  have HC0_2 := Ad.mk hc0_2
  clear hr0_2 hc0_2
  have HB := Ad.mk (Below.refl w.heap.size w)
  have H : (if a1 = 0 then (some a0_0) else (if 0 ≤ (wrap64 (a1 - 1)) then (if (wrap64 (a1 - 1)) < (l0_2.length : Int) then (some ((rd_T44 l0_2 (wrap64 (a1 - 1))).f1)) else (none)) else (none))) = some r := h
  clear h
  by_cases c3 : a1 = 0
  · rw [if_pos c3] at H
    have c3b0 : (a1 == 0) = true := beq_iff_eq.mpr c3
    have c3b1 : (a1 != 0) = false := bne_eq_false_iff_eq.mpr c3
    clear c3
    obtain rfl := Option.some.inj H
    go_enter Tryd.func26, Tryd.ntmps26
    go_wp2_with (first | ((with_reducible refine gate_dst (N := 2) rfl ?_); refine box_event ?hg (N := 2) ?hd (cs := #[.int .i64 a0_0, .int .i64 a0_1, .slice A0_2 l0_2.length c0_2]) (t := 24) ?hr ?_; (case hd => rfl); (case hg => rfl); (case hr => first | (go_simp; done) | (go_simp; rfl)); intro gb118 hg w4 hbox hb; have n0_ := Ad.mk (pbt (by repeat (first | (with_reducible first | exact HB.out | apply pba | apply pbN | apply pb1) | exact HB.out)) hb); have n1_ := Ad.mk (hbox); have n2_ := Ad.mk ((by rw [hg]; exact (pbz (by repeat (first | (with_reducible first | exact HB.out | apply pba | apply pbN | apply pb1) | exact HB.out))) : w.heap.size ≤ gb118)); have n3_ := Ad.mk ((by rw [hg]; exact (pbz (by repeat (first | (with_reducible first | exact HB.out | apply pba | apply pbN | apply pb1) | exact HB.out))) : w.heap.size ≤ gb118)); clear HB; have HB := n0_; have BK118 := n1_; have GW118 := n2_; have GE118 := n3_; clear n0_ n1_ n2_ n3_; clear hb hbox hg; have hcz5_0 : w4.cell? ⟨gb118, 0, none⟩ = some (.int .i64 a0_0) := (bcl BK118.out 0).trans rfl; have hcz5_1 : w4.cell? ⟨gb118, 1, none⟩ = some (.int .i64 a0_1) := (bcl BK118.out 1).trans rfl; have hcz5_2 : w4.cell? ⟨gb118, 2, none⟩ = some (.slice A0_2 l0_2.length c0_2) := (bcl BK118.out 2).trans rfl; have hfz5_0 := bfz BK118.out 0; have hfz5_1 := bfz BK118.out 1; have hfz5_2 := bfz BK118.out 2))
    go_ret
    exact ⟨by first | rfl | (simp [ewn, ews] <;> rfl) | (simp [*, ewn, ews] <;> rfl), by repeat (first | (with_reducible first | exact HB.out | apply pba | apply pbN | apply pb1 | refine pbs ?_ GE118.out) | exact HB.out)⟩
  · rw [if_neg c3] at H
    have c3b0 : (a1 == 0) = false := beq_eq_false_iff_ne.mpr c3
    have c3b1 : (a1 != 0) = true := bne_iff_ne.mpr c3
    obtain ⟨ji6, hji6⟩ : ∃ j_ : Int, (wrap64 (a1 - 1)) = j_ := ⟨_, rfl⟩
    replace H : (if 0 ≤ (ji6) then (if (ji6) < (l0_2.length : Int) then (some ((rd_T44 l0_2 (ji6)).f1)) else (none)) else (none)) = some r := by first | (rw [hji6] at H; exact H) | (simp only [hji6] at H ⊢; exact H)
    have hji6w : (IntKind.i64.wrap (a1 - 1)) = ji6 := (i64_w _).trans hji6
    by_cases c7 : 0 ≤ (ji6)
    · rw [if_pos c7] at H
      have c7b0 : decide (0 ≤ (ji6)) = true := decide_eq_true c7
      clear c7
      by_cases c8 : (ji6) < (l0_2.length : Int)
      · rw [if_pos c8] at H
        have c8b0 : decide ((ji6) < (l0_2.length : Int)) = true := decide_eq_true c8
        clear c8
        obtain rfl := Option.some.inj H
        go_enter Tryd.func26, Tryd.ntmps26
        go_wp2_with (first | ((with_reducible refine gate_dst (N := 2) rfl ?_); refine box_event ?hg (N := 2) ?hd (cs := #[.int .i64 a0_0, .int .i64 a0_1, .slice A0_2 l0_2.length c0_2]) (t := 24) ?hr ?_; (case hd => rfl); (case hg => rfl); (case hr => first | (go_simp; done) | (go_simp; rfl)); intro gb118 hg w9 hbox hb; have n0_ := Ad.mk (pbt (by repeat (first | (with_reducible first | exact HB.out | apply pba | apply pbN | apply pb1) | exact HB.out)) hb); have n1_ := Ad.mk (hbox); have n2_ := Ad.mk ((by rw [hg]; exact (pbz (by repeat (first | (with_reducible first | exact HB.out | apply pba | apply pbN | apply pb1) | exact HB.out))) : w.heap.size ≤ gb118)); have n3_ := Ad.mk ((by rw [hg]; exact (pbz (by repeat (first | (with_reducible first | exact HB.out | apply pba | apply pbN | apply pb1) | exact HB.out))) : w.heap.size ≤ gb118)); clear HB; have HB := n0_; have BK118 := n1_; have GW118 := n2_; have GE118 := n3_; clear n0_ n1_ n2_ n3_; clear hb hbox hg; have hcz10_0 : w9.cell? ⟨gb118, 0, none⟩ = some (.int .i64 a0_0) := (bcl BK118.out 0).trans rfl; have hcz10_1 : w9.cell? ⟨gb118, 1, none⟩ = some (.int .i64 a0_1) := (bcl BK118.out 1).trans rfl; have hcz10_2 : w9.cell? ⟨gb118, 2, none⟩ = some (.slice A0_2 l0_2.length c0_2) := (bcl BK118.out 2).trans rfl; have hfz10_0 := bfz BK118.out 0; have hfz10_1 := bfz BK118.out 1; have hfz10_2 := bfz BK118.out 2; have p119 : 0 ≤ ((ji6) : Int) := of_decide_eq_true (by first | (with_reducible assumption) | assumption); have q119 : (ji6) < (l0_2.length : Int) := of_decide_eq_true (by first | (with_reducible assumption) | assumption); obtain ⟨ad119, e119, hx119_0, hx119_1⟩ := at_T44 HR0_2.out (ji6) p119 q119; cases e119; replace hx119_0 := (HB.out.cell (World.block_lt_of_cell? w _ hx119_0)).trans hx119_0; replace hx119_1 := (HB.out.cell (World.block_lt_of_cell? w _ hx119_1)).trans hx119_1; replace p119 := eq_true p119; replace q119 := eq_true q119))
        go_ret
        exact ⟨by first | rfl | (simp [ewn, ews] <;> rfl) | (simp only [← hji6]; first | rfl | (simp [ewn, ews] <;> rfl)) | (simp [*, ewn, ews] <;> rfl), by repeat (first | (with_reducible first | exact HB.out | apply pba | apply pbN | apply pb1 | refine pbs ?_ GE118.out) | exact HB.out)⟩
      · rw [if_neg c8] at H
        exact absurd H (by simp)
    · rw [if_neg c7] at H
      exact absurd H (by simp)

end Go.Proofs.YtipbkcilpnlgnaaDoor.M
