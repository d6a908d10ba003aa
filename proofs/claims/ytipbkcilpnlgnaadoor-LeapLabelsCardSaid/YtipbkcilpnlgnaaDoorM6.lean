-- printed
-- tight (tight.py)
import Derived.Test.YtipbkcilpnlgnaaDoorM0
import Derived.Test.YtipbkcilpnlgnaaDoorMD
import Derived.Test.YtipbkcilpnlgnaaDoorM2
import Derived.Test.YtipbkcilpnlgnaaDoorM3
namespace Go.Proofs.YtipbkcilpnlgnaaDoor.M
open Go.RowKit Go.Proofs.YtipbkcilpnlgnaaDoorG Go.Proofs.YtipbkcilpnlgnaaDoorW.PA Go.Proofs.YtipbkcilpnlgnaaDoorW.PB Go.Proofs.YtipbkcilpnlgnaaDoorW.PC
attribute [local go_sem] max2_int min2_int max_two min_two max_three min_three max_four min_four   -- for this text's walks alone
set_option linter.unusedVariables false
set_option linter.unusedSimpArgs false

/-! ### leap_UTC: function 15 -/
set_option maxHeartbeats 8000000 in
set_option maxRecDepth 100000 in
theorem leap_UTC.calls (k : Nat) (a0_0 : Int) (a0_1 : Int) (A0_2 : Option Addr) (c0_2 : Nat) (l0_2 : List (S44)) (a1 : Int) (r1 : Int) (r2 : Bool) (r3 : Int) (w : World) (hr0_2 : Kd.C k44 w A0_2 l0_2.length l0_2) (hc0_2 : l0_2.length ≤ c0_2) (h : leap_UTC.f k a0_0 a0_1 l0_2 a1 = some (r1, r2, r3)) :
  Calls Tryd.prog 15 #[.agg #[.int .i64 a0_0, .int .i64 a0_1, .slice A0_2 l0_2.length c0_2], .int .i64 a1] w fun e w' => e = .returned (.tuple #[.int .i64 r1, .bool r2, .int .i64 r3]) ∧ Below w.heap.size w w' := by
 have hu24 := Tryd.underlying24
 have hu44 := Tryd.underlying44
 have HR0_2 := Ad.mk hr0_2
 have HC0_2 := Ad.mk hc0_2
 clear hr0_2 hc0_2
 have HB := Ad.mk (Below.refl w.heap.size w)
 have H : ((leap_Check.f k a0_0 a0_1 l0_2).bind fun t145 => (if t145 = 0 then (if a1 < (-8000002000) then (leap_UTC.j0 k a1 true a0_0 a0_1 l0_2) else (leap_UTC.j0 k a1 (decide (a1 > 8000002000)) a0_0 a0_1 l0_2)) else (some (0, false, t145)))) = some (r1, r2, r3) := h
 clear h
 replace H := Option.bind_eq_some_iff.mp H
 obtain ⟨t145, A30, H⟩ := H
 replace H : (if t145 = 0 then (if a1 < (-8000002000) then (leap_UTC.j0 k a1 true a0_0 a0_1 l0_2) else (leap_UTC.j0 k a1 (decide (a1 > 8000002000)) a0_0 a0_1 l0_2)) else (some (0, false, t145))) = some (r1, r2, r3) := H
 have A3 := Ad.mk A30
 clear A30
 by_cases c4 : t145 = 0
 ·rw [if_pos c4] at H
  have c4b0 : (t145 == 0) = true := beq_iff_eq.mpr c4
  have c4b1 : (t145 != 0) = false := bne_eq_false_iff_eq.mpr c4
  clear c4
  have HC5 := Ad.mk H
  clear H
  go_enter Tryd.func15, Tryd.ntmps15
  go_upto_region 4 with (first | ((with_reducible refine gate_dst (N := 2) rfl ?_); refine box_event ?hg (N := 2) ?hd (cs := #[.int .i64 a0_0, .int .i64 a0_1, .slice A0_2 l0_2.length c0_2]) (t := 24) ?hr ?_; (case hd => rfl); (case hg => rfl); (case hr => first | (go_simp; done) | (go_simp; rfl)); intro gb144 hg w6 hbox hb; have n0_ := Ad.mk (pbt (by repeat (first | (with_reducible first | exact HB.out | apply pba | apply pbN | apply pb1) | exact HB.out)) hb); have n1_ := Ad.mk (hbox); have n2_ := Ad.mk ((by rw [hg]; exact (pbz (by repeat (first | (with_reducible first | exact HB.out | apply pba | apply pbN | apply pb1) | exact HB.out))) : w.heap.size ≤ gb144)); have n3_ := Ad.mk ((by rw [hg]; exact (pbz (by repeat (first | (with_reducible first | exact HB.out | apply pba | apply pbN | apply pb1) | exact HB.out))) : w.heap.size ≤ gb144)); clear HB; have HB := n0_; have BK144 := n1_; have GW144 := n2_; have GE144 := n3_; clear n0_ n1_ n2_ n3_; clear hb hbox hg; have hcz7_0 : w6.cell? ⟨gb144, 0, none⟩ = some (.int .i64 a0_0) := (bcl BK144.out 0).trans rfl; have hcz7_1 : w6.cell? ⟨gb144, 1, none⟩ = some (.int .i64 a0_1) := (bcl BK144.out 1).trans rfl; have hcz7_2 : w6.cell? ⟨gb144, 2, none⟩ = some (.slice A0_2 l0_2.length c0_2) := (bcl BK144.out 2).trans rfl; have hfz7_0 := bfz BK144.out 0; have hfz7_1 := bfz BK144.out 1; have hfz7_2 := bfz BK144.out 2) | ((with_reducible refine gate_callee (f := 11) rfl ?_); refine goesL_ (some 14) rfl rfl Tryd.func11 (by kernel_rfl) rfl #[.agg #[.int .i64 a0_0, .int .i64 a0_1, .slice A0_2 l0_2.length c0_2]] rfl (by (try simp only [List.map_toArray, List.map_cons, List.map_nil]); first | done | rfl | (simp only [List.length_drop, List.length_take]; rfl)) ?_; (with_reducible refine (leap_Check.calls k a0_0 a0_1 _ _ l0_2 t145 _ ?side1 ?side2 A3.out).mono ?_); (case side1 => repeat (first | exact (Kd.C_below HR0_2.out HB.out) | (with_reducible refine Kd.C_alloc ?_ _) | (with_reducible refine Kd.C_drewN ?_ _) | (with_reducible refine Kd.C_drew ?_))); (case side2 => exact HC0_2.out); rintro e w8 ⟨rfl, hb⟩; refine ⟨_, rfl, ?_⟩; have n0_ := Ad.mk (bbl (g := gb144) (o := .cells #[.int .i64 a0_0, .int .i64 a0_1, .slice A0_2 l0_2.length c0_2] 24 (0, 0)) (by (with_reducible repeat (first | refine bkN ?_ _ | refine bkd ?_ | refine bka ?_ _)); exact BK144.out) hb); have n1_ := Ad.mk (pbt (by repeat (first | (with_reducible first | exact HB.out | apply pba | apply pbN | apply pb1 | refine pbs ?_ GE144.out) | exact HB.out)) hb); clear BK144; clear HB; have BK144 := n0_; have HB := n1_; clear n0_ n1_; (try clear hb); (try clear hb2); (try clear hk); (try clear hi)))
  (try simp only [Act.put, List.setIfInBounds_toArray, List.set_cons_zero, List.set_cons_succ])
  go_cut [23] (fun v23 wc => ∃ (kq : Nat) (x23_4 : Bool), v23 = .bool x23_4 ∧ Ad (leap_UTC.j0 kq a1 x23_4 a0_0 a0_1 l0_2 = some (r1, r2, r3)) ∧ Ad (kq ≤ k) ∧ Ad (wc.heap[gb144]? = some (.cells #[.int .i64 a0_0, .int .i64 a0_1, (.slice A0_2 l0_2.length c0_2)] 24 (0, 0))) ∧ Ad (Below w.heap.size w wc))
  case first =>
   have H := HC5.out
   clear HC5
   by_cases c9 : a1 < (-8000002000)
   ·rw [if_pos c9] at H
    have c9b0 : decide (a1 < (-8000002000)) = true := decide_eq_true c9
    clear c9
    (first | rw [c9b0] | (simp only [i64_w, i32_w]; rw [c9b0]) | skip)
    have H' := Ad.mk H
    clear H
    go_wp2
    go_meet
    case rel => exact ⟨_, (true), (by first | rfl | (simp; done) | (simp [*]; done)), H', ⟨by first | omega | exact Nat.le_refl _⟩, ⟨by (with_reducible repeat (first | refine bkN ?_ _ | refine bkd ?_ | refine bka ?_ _)); exact BK144.out⟩, ⟨by repeat (first | (with_reducible first | exact HB.out | apply pba | apply pbN | apply pb1 | refine pbs ?_ GE144.out) | exact HB.out)⟩⟩
   ·rw [if_neg c9] at H
    have c9b0 : decide (a1 < (-8000002000)) = false := decide_eq_false c9
    clear c9
    (first | rw [c9b0] | (simp only [i64_w, i32_w]; rw [c9b0]) | skip)
    have H' := Ad.mk H
    clear H
    go_wp2
    go_meet
    case rel => exact ⟨_, (decide (a1 > 8000002000)), (by first | rfl | (simp; done) | (simp [*]; done)), H', ⟨by first | omega | exact Nat.le_refl _⟩, ⟨by (with_reducible repeat (first | refine bkN ?_ _ | refine bkd ?_ | refine bka ?_ _)); exact BK144.out⟩, ⟨by repeat (first | (with_reducible first | exact HB.out | apply pba | apply pbN | apply pb1 | refine pbs ?_ GE144.out) | exact HB.out)⟩⟩
  case rest =>
   clear HC5
   obtain ⟨kq, x23_4, rfl, HA, HJ4, BK144, HB⟩ := hcut
   cases kq with
   | zero => exact absurd HA.out (by simp [leap_UTC.j0])
   | succ kj4 =>
    have H := HA.out
    clear HA
    simp only [leap_UTC.j0] at H
    by_cases c10 : x23_4 = true
    ·subst c10
     have H1 : (some (0, false, 3)) = some (r1, r2, r3) := by rw [if_pos rfl] at H; exact H
     clear H
     have H := H1
     clear H1
     simp only [Option.some.injEq, Prod.mk.injEq] at H
     obtain ⟨rfl, rfl, rfl⟩ := H
     go_wp2
     go_ret3
     exact ⟨by first | rfl | (simp [ewn, ews] <;> rfl) | (simp [*, ewn, ews] <;> rfl), by repeat (first | (with_reducible first | exact HB.out | apply pba | apply pbN | apply pb1 | refine pbs ?_ GE144.out) | exact HB.out)⟩
    ·replace c10 := Bool.eq_false_iff.mpr c10
     subst c10
     have H1 : (leap_UTC.l0 kj4 a1 a0_0 0 false l0_2 (l0_2.length : Int) 0) = some (r1, r2, r3) := by rw [if_neg (show ¬ (false = true) by decide)] at H; exact H
     clear H
     have H := H1
     clear H1
     have HC11 := Ad.mk H
     clear H
     have hcz12_0 : wc.cell? ⟨gb144, 0, none⟩ = some (.int .i64 a0_0) := (bcl BK144.out 0).trans rfl
     have hcz12_1 : wc.cell? ⟨gb144, 1, none⟩ = some (.int .i64 a0_1) := (bcl BK144.out 1).trans rfl
     have hcz12_2 : wc.cell? ⟨gb144, 2, none⟩ = some (.slice A0_2 l0_2.length c0_2) := (bcl BK144.out 2).trans rfl
     have hfz12_0 := bfz BK144.out 0
     have hfz12_1 := bfz BK144.out 1
     have hfz12_2 := bfz BK144.out 2
     go_upto_block 0 with (fail)
     go_cut [8, 9, 10] (fun v8 v9 v10 wc => ∃ (kq : Nat) (x8_10 : Int) (x9_10 : Int) (x10_10 : Bool), v8 = .int .i64 x8_10 ∧ v9 = .int .i64 x9_10 ∧ v10 = .bool x10_10 ∧ Ad (leap_UTC.j2 kq a1 x8_10 x9_10 x10_10 = some (r1, r2, r3)) ∧ Ad (kq ≤ kj4) ∧ Ad (wc.heap[gb144]? = some (.cells #[.int .i64 a0_0, .int .i64 a0_1, (.slice A0_2 l0_2.length c0_2)] 24 (0, 0))) ∧ Ad (Below w.heap.size w wc))
     case first =>
      have H := HC11.out
      clear HC11
      have H' := Ad.mk H
      clear H
      go_wp2
      go_loopg [8, 9, 10, 29] kj4 (fun kq v8 v9 v10 v29 w' => ∃ (x8_2 : Int) (x9_2 : Int) (x10_2 : Bool) (x29_2 : Int), v8 = .int .i64 x8_2 ∧ v9 = .int .i64 x9_2 ∧ v10 = .bool x10_2 ∧ v29 = .int .i64 x29_2 ∧ Ad (leap_UTC.l0 kq a1 x8_2 x9_2 x10_2 l0_2 (l0_2.length : Int) x29_2 = some (r1, r2, r3)) ∧ Ad (kq ≤ kj4) ∧ Ad (w'.heap[gb144]? = some (.cells #[.int .i64 a0_0, .int .i64 a0_1, (.slice A0_2 l0_2.length c0_2)] 24 (0, 0))) ∧ Ad (Below w.heap.size w w'))
      case atStart => exact ⟨(a0_0), (0), (false), (0), (by first | rfl | (simp; done) | (simp [*]; done)), (by first | rfl | (simp; done) | (simp [*]; done)), (by first | rfl | (simp; done) | (simp [*]; done)), (by first | rfl | (simp; done) | (simp [*]; done)), H', ⟨Nat.le_refl _⟩, ⟨by (with_reducible repeat (first | refine bkN ?_ _ | refine bkd ?_ | refine bka ?_ _)); exact BK144.out⟩, ⟨by repeat (first | (with_reducible first | exact HB.out | apply pba | apply pbN | apply pb1 | refine pbs ?_ GE144.out) | exact HB.out)⟩⟩
      case round =>
       clear H'
       obtain ⟨x8_2, x9_2, x10_2, x29_2, rfl, rfl, rfl, rfl, HA, HK2, BK144, HB⟩ := hrel
       cases gk with
       | zero => exact absurd HA.out (by simp [leap_UTC.l0])
       | succ k2 =>
        have H := HA.out
        clear HA
        simp only [leap_UTC.l0] at H
        by_cases c13 : x29_2 < (l0_2.length : Int)
        ·rw [if_pos c13] at H
         have c13b0 : decide (x29_2 < (l0_2.length : Int)) = true := decide_eq_true c13
         clear c13
         (first | rw [c13b0] | (simp only [i64_w, i32_w]; rw [c13b0]) | skip)
         by_cases c14 : 0 ≤ x29_2
         ·rw [if_pos c14] at H
          have c14b0 : decide (0 ≤ x29_2) = true := decide_eq_true c14
          clear c14
          by_cases c15 : x29_2 < (l0_2.length : Int)
          ·rw [if_pos c15] at H
           have c15b0 : decide (x29_2 < (l0_2.length : Int)) = true := decide_eq_true c15
           clear c15
           by_cases c16 : a1 < (wrap64 (((rd_T44 l0_2 x29_2).f0) + ((rd_T44 l0_2 x29_2).f1)))
           ·rw [if_pos c16] at H
            have c16b0 : decide (a1 < (wrap64 (((rd_T44 l0_2 x29_2).f0) + ((rd_T44 l0_2 x29_2).f1)))) = true := decide_eq_true c16
            clear c16
            by_cases c17 : ((rd_T44 l0_2 x29_2).f1) > x8_2
            ·rw [if_pos c17] at H
             have c17b0 : decide (x8_2 < ((rd_T44 l0_2 x29_2).f1)) = true := decide_eq_true c17
             clear c17
             have H' := Ad.mk H
             clear H
             have p146 : 0 ≤ (x29_2 : Int) := of_decide_eq_true (by first | (with_reducible assumption) | assumption)
             have q146 : x29_2 < (l0_2.length : Int) := of_decide_eq_true (by first | (with_reducible assumption) | assumption)
             obtain ⟨ad146, e146, hx146_0, hx146_1⟩ := at_T44 HR0_2.out x29_2 p146 q146
             cases e146
             replace hx146_0 := (HB.out.cell (World.block_lt_of_cell? w _ hx146_0)).trans hx146_0
             replace hx146_1 := (HB.out.cell (World.block_lt_of_cell? w _ hx146_1)).trans hx146_1
             replace p146 := eq_true p146
             replace q146 := eq_true q146
             go_wp2_with (first | ((with_reducible refine gate_dst (N := 12) rfl ?_); refine box_event ?hg (N := 12) ?hd (cs := #[.int .i64 0, .int .i64 0]) (t := 44) ?hr ?_; (case hd => rfl); (case hg => rfl); (case hr => first | (go_simp; done) | (go_simp; rfl)); intro gb147 hg w18 hbox hb; have n0_ := Ad.mk (bbl (g := gb144) (o := .cells #[.int .i64 a0_0, .int .i64 a0_1, .slice (some ad146) l0_2.length c0_2] 24 (0, 0)) (by (with_reducible repeat (first | refine bkN ?_ _ | refine bkd ?_ | refine bka ?_ _)); exact BK144.out) hb); have n1_ := Ad.mk (pbt (by repeat (first | (with_reducible first | exact HB.out | apply pba | apply pbN | apply pb1 | refine pbs ?_ GE144.out) | exact HB.out)) hb); have n2_ := Ad.mk (hbox); have n3_ := Ad.mk ((by rw [hg]; exact (pbz (by repeat (first | (with_reducible first | exact HB.out | apply pba | apply pbN | apply pb1 | refine pbs ?_ GE144.out) | exact HB.out))) : w.heap.size ≤ gb147)); have n4_ := Ad.mk ((by rw [hg]; exact (pbz (by repeat (first | (with_reducible first | exact HB.out | apply pba | apply pbN | apply pb1 | refine pbs ?_ GE144.out) | exact HB.out))) : w.heap.size ≤ gb147)); have n5_ := Ad.mk ((by rw [hg]; exact Nat.ne_of_lt (blk_lt (g := gb144) (o := .cells #[.int .i64 a0_0, .int .i64 a0_1, .slice (some ad146) l0_2.length c0_2] 24 (0, 0)) (by (with_reducible repeat (first | refine bkN ?_ _ | refine bkd ?_ | refine bka ?_ _)); exact BK144.out)) : gb144 ≠ gb147)); have n6_ := Ad.mk ((by rw [hg]; exact Nat.ne_of_gt (blk_lt (g := gb144) (o := .cells #[.int .i64 a0_0, .int .i64 a0_1, .slice (some ad146) l0_2.length c0_2] 24 (0, 0)) (by (with_reducible repeat (first | refine bkN ?_ _ | refine bkd ?_ | refine bka ?_ _)); exact BK144.out)) : gb147 ≠ gb144)); clear BK144; clear HB; have BK144 := n0_; have HB := n1_; have BK147 := n2_; have GW147 := n3_; have GE147 := n4_; have NB144_147 := n5_; have NB147_144 := n6_; clear n0_ n1_ n2_ n3_ n4_ n5_ n6_; clear hb hbox hg; have hnb19 := NB147_144.out; have hnc19 := NB144_147.out; have hcz20_0 : w18.cell? ⟨gb147, 0, none⟩ = some (.int .i64 0) := (bcl BK147.out 0).trans rfl; have hcz20_1 : w18.cell? ⟨gb147, 1, none⟩ = some (.int .i64 0) := (bcl BK147.out 1).trans rfl; have hfz20_0 := bfz BK147.out 0; have hfz20_1 := bfz BK147.out 1))
             go_meet
             case rel => exact ⟨_, (x8_2), (wrap64 (((rd_T44 l0_2 x29_2).f0) - 1)), ((a1 == (wrap64 ((wrap64 (((rd_T44 l0_2 x29_2).f0) + ((rd_T44 l0_2 x29_2).f1))) - 1)))), (by first | rfl | (simp; done) | (simp [*]; done)), (by first | rfl | (simp; done) | (simp [*]; done)), (by first | rfl | (simp; done) | (simp [*]; done)), H', ⟨by have := HJ4.out; have := HK2.out; first | omega | exact Nat.le_refl _⟩, ⟨by (with_reducible repeat (first | refine bkN ?_ _ | refine bkd ?_ | refine bka ?_ _)); refine blk_far ?_ NB144_147.out _; (with_reducible repeat (first | refine bkN ?_ _ | refine bkd ?_ | refine bka ?_ _)); refine blk_far ?_ NB144_147.out _; (with_reducible repeat (first | refine bkN ?_ _ | refine bkd ?_ | refine bka ?_ _)); exact BK144.out⟩, ⟨by repeat (first | (with_reducible first | exact HB.out | apply pba | apply pbN | apply pb1 | refine pbs ?_ GE144.out | refine pbs ?_ GE147.out) | exact HB.out)⟩⟩
            ·rw [if_neg c17] at H
             have c17b0 : decide (x8_2 < ((rd_T44 l0_2 x29_2).f1)) = false := decide_eq_false c17
             clear c17
             have H' := Ad.mk H
             clear H
             have p146 : 0 ≤ (x29_2 : Int) := of_decide_eq_true (by first | (with_reducible assumption) | assumption)
             have q146 : x29_2 < (l0_2.length : Int) := of_decide_eq_true (by first | (with_reducible assumption) | assumption)
             obtain ⟨ad146, e146, hx146_0, hx146_1⟩ := at_T44 HR0_2.out x29_2 p146 q146
             cases e146
             replace hx146_0 := (HB.out.cell (World.block_lt_of_cell? w _ hx146_0)).trans hx146_0
             replace hx146_1 := (HB.out.cell (World.block_lt_of_cell? w _ hx146_1)).trans hx146_1
             replace p146 := eq_true p146
             replace q146 := eq_true q146
             go_wp2_with (first | ((with_reducible refine gate_dst (N := 12) rfl ?_); refine box_event ?hg (N := 12) ?hd (cs := #[.int .i64 0, .int .i64 0]) (t := 44) ?hr ?_; (case hd => rfl); (case hg => rfl); (case hr => first | (go_simp; done) | (go_simp; rfl)); intro gb147 hg w21 hbox hb; have n0_ := Ad.mk (bbl (g := gb144) (o := .cells #[.int .i64 a0_0, .int .i64 a0_1, .slice (some ad146) l0_2.length c0_2] 24 (0, 0)) (by (with_reducible repeat (first | refine bkN ?_ _ | refine bkd ?_ | refine bka ?_ _)); exact BK144.out) hb); have n1_ := Ad.mk (pbt (by repeat (first | (with_reducible first | exact HB.out | apply pba | apply pbN | apply pb1 | refine pbs ?_ GE144.out) | exact HB.out)) hb); have n2_ := Ad.mk (hbox); have n3_ := Ad.mk ((by rw [hg]; exact (pbz (by repeat (first | (with_reducible first | exact HB.out | apply pba | apply pbN | apply pb1 | refine pbs ?_ GE144.out) | exact HB.out))) : w.heap.size ≤ gb147)); have n4_ := Ad.mk ((by rw [hg]; exact (pbz (by repeat (first | (with_reducible first | exact HB.out | apply pba | apply pbN | apply pb1 | refine pbs ?_ GE144.out) | exact HB.out))) : w.heap.size ≤ gb147)); have n5_ := Ad.mk ((by rw [hg]; exact Nat.ne_of_lt (blk_lt (g := gb144) (o := .cells #[.int .i64 a0_0, .int .i64 a0_1, .slice (some ad146) l0_2.length c0_2] 24 (0, 0)) (by (with_reducible repeat (first | refine bkN ?_ _ | refine bkd ?_ | refine bka ?_ _)); exact BK144.out)) : gb144 ≠ gb147)); have n6_ := Ad.mk ((by rw [hg]; exact Nat.ne_of_gt (blk_lt (g := gb144) (o := .cells #[.int .i64 a0_0, .int .i64 a0_1, .slice (some ad146) l0_2.length c0_2] 24 (0, 0)) (by (with_reducible repeat (first | refine bkN ?_ _ | refine bkd ?_ | refine bka ?_ _)); exact BK144.out)) : gb147 ≠ gb144)); clear BK144; clear HB; have BK144 := n0_; have HB := n1_; have BK147 := n2_; have GW147 := n3_; have GE147 := n4_; have NB144_147 := n5_; have NB147_144 := n6_; clear n0_ n1_ n2_ n3_ n4_ n5_ n6_; clear hb hbox hg; have hnb22 := NB147_144.out; have hnc22 := NB144_147.out; have hcz23_0 : w21.cell? ⟨gb147, 0, none⟩ = some (.int .i64 0) := (bcl BK147.out 0).trans rfl; have hcz23_1 : w21.cell? ⟨gb147, 1, none⟩ = some (.int .i64 0) := (bcl BK147.out 1).trans rfl; have hfz23_0 := bfz BK147.out 0; have hfz23_1 := bfz BK147.out 1))
             go_meet
             case rel => exact ⟨_, (x8_2), (wrap64 (((rd_T44 l0_2 x29_2).f0) - 1)), (false), (by first | rfl | (simp; done) | (simp [*]; done)), (by first | rfl | (simp; done) | (simp [*]; done)), (by first | rfl | (simp; done) | (simp [*]; done)), H', ⟨by have := HJ4.out; have := HK2.out; first | omega | exact Nat.le_refl _⟩, ⟨by (with_reducible repeat (first | refine bkN ?_ _ | refine bkd ?_ | refine bka ?_ _)); refine blk_far ?_ NB144_147.out _; (with_reducible repeat (first | refine bkN ?_ _ | refine bkd ?_ | refine bka ?_ _)); refine blk_far ?_ NB144_147.out _; (with_reducible repeat (first | refine bkN ?_ _ | refine bkd ?_ | refine bka ?_ _)); exact BK144.out⟩, ⟨by repeat (first | (with_reducible first | exact HB.out | apply pba | apply pbN | apply pb1 | refine pbs ?_ GE144.out | refine pbs ?_ GE147.out) | exact HB.out)⟩⟩
           ·rw [if_neg c16] at H
            have c16b0 : decide (a1 < (wrap64 (((rd_T44 l0_2 x29_2).f0) + ((rd_T44 l0_2 x29_2).f1)))) = false := decide_eq_false c16
            clear c16
            have H' := Ad.mk H
            clear H
            have p146 : 0 ≤ (x29_2 : Int) := of_decide_eq_true (by first | (with_reducible assumption) | assumption)
            have q146 : x29_2 < (l0_2.length : Int) := of_decide_eq_true (by first | (with_reducible assumption) | assumption)
            obtain ⟨ad146, e146, hx146_0, hx146_1⟩ := at_T44 HR0_2.out x29_2 p146 q146
            cases e146
            replace hx146_0 := (HB.out.cell (World.block_lt_of_cell? w _ hx146_0)).trans hx146_0
            replace hx146_1 := (HB.out.cell (World.block_lt_of_cell? w _ hx146_1)).trans hx146_1
            replace p146 := eq_true p146
            replace q146 := eq_true q146
            go_wp2_with (first | ((with_reducible refine gate_dst (N := 12) rfl ?_); refine box_event ?hg (N := 12) ?hd (cs := #[.int .i64 0, .int .i64 0]) (t := 44) ?hr ?_; (case hd => rfl); (case hg => rfl); (case hr => first | (go_simp; done) | (go_simp; rfl)); intro gb147 hg w24 hbox hb; have n0_ := Ad.mk (bbl (g := gb144) (o := .cells #[.int .i64 a0_0, .int .i64 a0_1, .slice (some ad146) l0_2.length c0_2] 24 (0, 0)) (by (with_reducible repeat (first | refine bkN ?_ _ | refine bkd ?_ | refine bka ?_ _)); exact BK144.out) hb); have n1_ := Ad.mk (pbt (by repeat (first | (with_reducible first | exact HB.out | apply pba | apply pbN | apply pb1 | refine pbs ?_ GE144.out) | exact HB.out)) hb); have n2_ := Ad.mk (hbox); have n3_ := Ad.mk ((by rw [hg]; exact (pbz (by repeat (first | (with_reducible first | exact HB.out | apply pba | apply pbN | apply pb1 | refine pbs ?_ GE144.out) | exact HB.out))) : w.heap.size ≤ gb147)); have n4_ := Ad.mk ((by rw [hg]; exact (pbz (by repeat (first | (with_reducible first | exact HB.out | apply pba | apply pbN | apply pb1 | refine pbs ?_ GE144.out) | exact HB.out))) : w.heap.size ≤ gb147)); have n5_ := Ad.mk ((by rw [hg]; exact Nat.ne_of_lt (blk_lt (g := gb144) (o := .cells #[.int .i64 a0_0, .int .i64 a0_1, .slice (some ad146) l0_2.length c0_2] 24 (0, 0)) (by (with_reducible repeat (first | refine bkN ?_ _ | refine bkd ?_ | refine bka ?_ _)); exact BK144.out)) : gb144 ≠ gb147)); have n6_ := Ad.mk ((by rw [hg]; exact Nat.ne_of_gt (blk_lt (g := gb144) (o := .cells #[.int .i64 a0_0, .int .i64 a0_1, .slice (some ad146) l0_2.length c0_2] 24 (0, 0)) (by (with_reducible repeat (first | refine bkN ?_ _ | refine bkd ?_ | refine bka ?_ _)); exact BK144.out)) : gb147 ≠ gb144)); clear BK144; clear HB; have BK144 := n0_; have HB := n1_; have BK147 := n2_; have GW147 := n3_; have GE147 := n4_; have NB144_147 := n5_; have NB147_144 := n6_; clear n0_ n1_ n2_ n3_ n4_ n5_ n6_; clear hb hbox hg; have hnb25 := NB147_144.out; have hnc25 := NB144_147.out; have hcz26_0 : w24.cell? ⟨gb147, 0, none⟩ = some (.int .i64 0) := (bcl BK147.out 0).trans rfl; have hcz26_1 : w24.cell? ⟨gb147, 1, none⟩ = some (.int .i64 0) := (bcl BK147.out 1).trans rfl; have hfz26_0 := bfz BK147.out 0; have hfz26_1 := bfz BK147.out 1))
            go_roundg k2
            case measure => have := HJ4.out; have := HK2.out; omega
            case rel => exact ⟨((rd_T44 l0_2 x29_2).f1), (x9_2), (x10_2), (wrap64 (x29_2 + 1)), (by first | rfl | (simp; done) | (simp [*]; done)), (by first | rfl | (simp; done) | (simp [*]; done)), (by first | rfl | (simp; done) | (simp [*]; done)), (by first | rfl | (simp; done) | (simp [*]; done)), H', ⟨by have := HJ4.out; have := HK2.out; omega⟩, ⟨by (with_reducible repeat (first | refine bkN ?_ _ | refine bkd ?_ | refine bka ?_ _)); refine blk_far ?_ NB144_147.out _; (with_reducible repeat (first | refine bkN ?_ _ | refine bkd ?_ | refine bka ?_ _)); refine blk_far ?_ NB144_147.out _; (with_reducible repeat (first | refine bkN ?_ _ | refine bkd ?_ | refine bka ?_ _)); exact BK144.out⟩, ⟨by repeat (first | (with_reducible first | exact HB.out | apply pba | apply pbN | apply pb1 | refine pbs ?_ GE144.out | refine pbs ?_ GE147.out) | exact HB.out)⟩⟩
          ·rw [if_neg c15] at H
           exact absurd H (by simp)
         ·rw [if_neg c14] at H
          exact absurd H (by simp)
        ·rw [if_neg c13] at H
         have c13b0 : decide (x29_2 < (l0_2.length : Int)) = false := decide_eq_false c13
         clear c13
         (first | rw [c13b0] | (simp only [i64_w, i32_w]; rw [c13b0]) | skip)
         have H' := Ad.mk H
         clear H
         go_wp2
         go_meet
         case rel => exact ⟨_, (x8_2), (x9_2), (x10_2), (by first | rfl | (simp; done) | (simp [*]; done)), (by first | rfl | (simp; done) | (simp [*]; done)), (by first | rfl | (simp; done) | (simp [*]; done)), H', ⟨by have := HJ4.out; have := HK2.out; first | omega | exact Nat.le_refl _⟩, ⟨by (with_reducible repeat (first | refine bkN ?_ _ | refine bkd ?_ | refine bka ?_ _)); exact BK144.out⟩, ⟨by repeat (first | (with_reducible first | exact HB.out | apply pba | apply pbN | apply pb1 | refine pbs ?_ GE144.out) | exact HB.out)⟩⟩
     case rest =>
      clear HC11
      obtain ⟨kq, x8_10, x9_10, x10_10, rfl, rfl, rfl, HA, HJ10, BK144, HB⟩ := hcut
      cases kq with
      | zero => exact absurd HA.out (by simp [leap_UTC.j2])
      | succ kj10 =>
       have H := HA.out
       clear HA
       simp only [leap_UTC.j2] at H
       by_cases c27 : x10_10 = true
       ·subst c27
        have H1 : ((leap_inside.f x9_10).bind fun t148 => (if t148 = true then (some (x9_10, true, 0)) else (some (0, false, 3)))) = some (r1, r2, r3) := by rw [if_pos rfl] at H; exact H
        clear H
        have H := H1
        clear H1
        replace H := Option.bind_eq_some_iff.mp H
        obtain ⟨t148, A280, H⟩ := H
        replace H : (if t148 = true then (some (x9_10, true, 0)) else (some (0, false, 3))) = some (r1, r2, r3) := H
        have A28 := Ad.mk A280
        clear A280
        by_cases c29 : t148 = true
        ·subst c29
         have H1 : (some (x9_10, true, 0)) = some (r1, r2, r3) := by rw [if_pos rfl] at H; exact H
         clear H
         have H := H1
         clear H1
         simp only [Option.some.injEq, Prod.mk.injEq] at H
         obtain ⟨rfl, rfl, rfl⟩ := H
         go_wp2_with (first | ((with_reducible refine gate_callee (f := 24) rfl ?_); refine goesL_ (some 66) rfl rfl Tryd.func24 (by kernel_rfl) rfl #[.int .i64 x9_10] rfl (by (try simp only [List.map_toArray, List.map_cons, List.map_nil]); first | done | rfl | (simp only [List.length_drop, List.length_take]; rfl)) ?_; (with_reducible refine (leap_inside.calls x9_10 true _ A28.out).mono ?_); rintro e w' ⟨rfl, ⟨nd, rfl⟩⟩; refine ⟨_, rfl, ?_⟩))
         go_ret3
         exact ⟨by first | rfl | (simp [ewn, ews] <;> rfl) | (simp [*, ewn, ews] <;> rfl), by repeat (first | (with_reducible first | exact HB.out | apply pba | apply pbN | apply pb1 | refine pbs ?_ GE144.out) | exact HB.out)⟩
        ·replace c29 := Bool.eq_false_iff.mpr c29
         subst c29
         have H1 : (some (0, false, 3)) = some (r1, r2, r3) := by rw [if_neg (show ¬ (false = true) by decide)] at H; exact H
         clear H
         have H := H1
         clear H1
         simp only [Option.some.injEq, Prod.mk.injEq] at H
         obtain ⟨rfl, rfl, rfl⟩ := H
         go_wp2_with (first | ((with_reducible refine gate_callee (f := 24) rfl ?_); refine goesL_ (some 66) rfl rfl Tryd.func24 (by kernel_rfl) rfl #[.int .i64 x9_10] rfl (by (try simp only [List.map_toArray, List.map_cons, List.map_nil]); first | done | rfl | (simp only [List.length_drop, List.length_take]; rfl)) ?_; (with_reducible refine (leap_inside.calls x9_10 false _ A28.out).mono ?_); rintro e w' ⟨rfl, ⟨nd, rfl⟩⟩; refine ⟨_, rfl, ?_⟩))
         go_ret3
         exact ⟨by first | rfl | (simp [ewn, ews] <;> rfl) | (simp [*, ewn, ews] <;> rfl), by repeat (first | (with_reducible first | exact HB.out | apply pba | apply pbN | apply pb1 | refine pbs ?_ GE144.out) | exact HB.out)⟩
       ·replace c27 := Bool.eq_false_iff.mpr c27
        subst c27
        have H1 : ((leap_inside.f (wrap64 (a1 - x8_10))).bind fun t149 => (if t149 = true then (some (wrap64 (a1 - x8_10), false, 0)) else (some (0, false, 3)))) = some (r1, r2, r3) := by rw [if_neg (show ¬ (false = true) by decide)] at H; exact H
        clear H
        have H := H1
        clear H1
        replace H := Option.bind_eq_some_iff.mp H
        obtain ⟨t149, A300, H⟩ := H
        replace H : (if t149 = true then (some (wrap64 (a1 - x8_10), false, 0)) else (some (0, false, 3))) = some (r1, r2, r3) := H
        have A30 := Ad.mk A300
        clear A300
        by_cases c31 : t149 = true
        ·subst c31
         have H1 : (some (wrap64 (a1 - x8_10), false, 0)) = some (r1, r2, r3) := by rw [if_pos rfl] at H; exact H
         clear H
         have H := H1
         clear H1
         simp only [Option.some.injEq, Prod.mk.injEq] at H
         obtain ⟨rfl, rfl, rfl⟩ := H
         go_wp2_with (first | ((with_reducible refine gate_callee (f := 24) rfl ?_); refine goesL_ (some 66) rfl rfl Tryd.func24 (by kernel_rfl) rfl #[.int .i64 (wrap64 (a1 - x8_10))] rfl (by (try simp only [List.map_toArray, List.map_cons, List.map_nil]); first | done | rfl | (exact congrArg (fun z_ : Int => #[.int .i64 z_]) (show (a1 - x8_10) = wrap64 (a1 - x8_10) from by unfold wrap64; omega)) | (simp only [List.length_drop, List.length_take]; rfl)) ?_; (with_reducible refine (leap_inside.calls (wrap64 (a1 - x8_10)) true _ A30.out).mono ?_); rintro e w' ⟨rfl, ⟨nd, rfl⟩⟩; refine ⟨_, rfl, ?_⟩))
         go_ret3
         exact ⟨by first | rfl | (simp [ewn, ews] <;> rfl) | (simp [*, ewn, ews] <;> rfl), by repeat (first | (with_reducible first | exact HB.out | apply pba | apply pbN | apply pb1 | refine pbs ?_ GE144.out) | exact HB.out)⟩
        ·replace c31 := Bool.eq_false_iff.mpr c31
         subst c31
         have H1 : (some (0, false, 3)) = some (r1, r2, r3) := by rw [if_neg (show ¬ (false = true) by decide)] at H; exact H
         clear H
         have H := H1
         clear H1
         simp only [Option.some.injEq, Prod.mk.injEq] at H
         obtain ⟨rfl, rfl, rfl⟩ := H
         go_wp2_with (first | ((with_reducible refine gate_callee (f := 24) rfl ?_); refine goesL_ (some 66) rfl rfl Tryd.func24 (by kernel_rfl) rfl #[.int .i64 (wrap64 (a1 - x8_10))] rfl (by (try simp only [List.map_toArray, List.map_cons, List.map_nil]); first | done | rfl | (exact congrArg (fun z_ : Int => #[.int .i64 z_]) (show (a1 - x8_10) = wrap64 (a1 - x8_10) from by unfold wrap64; omega)) | (simp only [List.length_drop, List.length_take]; rfl)) ?_; (with_reducible refine (leap_inside.calls (wrap64 (a1 - x8_10)) false _ A30.out).mono ?_); rintro e w' ⟨rfl, ⟨nd, rfl⟩⟩; refine ⟨_, rfl, ?_⟩))
         go_ret3
         exact ⟨by first | rfl | (simp [ewn, ews] <;> rfl) | (simp [*, ewn, ews] <;> rfl), by repeat (first | (with_reducible first | exact HB.out | apply pba | apply pbN | apply pb1 | refine pbs ?_ GE144.out) | exact HB.out)⟩
 ·rw [if_neg c4] at H
  have c4b0 : (t145 == 0) = false := beq_eq_false_iff_ne.mpr c4
  have c4b1 : (t145 != 0) = true := bne_iff_ne.mpr c4
  simp only [Option.some.injEq, Prod.mk.injEq] at H
  obtain ⟨rfl, rfl, rfl⟩ := H
  go_enter Tryd.func15, Tryd.ntmps15
  go_wp2_with (first | ((with_reducible refine gate_dst (N := 2) rfl ?_); refine box_event ?hg (N := 2) ?hd (cs := #[.int .i64 a0_0, .int .i64 a0_1, .slice A0_2 l0_2.length c0_2]) (t := 24) ?hr ?_; (case hd => rfl); (case hg => rfl); (case hr => first | (go_simp; done) | (go_simp; rfl)); intro gb144 hg w32 hbox hb; have n0_ := Ad.mk (pbt (by repeat (first | (with_reducible first | exact HB.out | apply pba | apply pbN | apply pb1) | exact HB.out)) hb); have n1_ := Ad.mk (hbox); have n2_ := Ad.mk ((by rw [hg]; exact (pbz (by repeat (first | (with_reducible first | exact HB.out | apply pba | apply pbN | apply pb1) | exact HB.out))) : w.heap.size ≤ gb144)); have n3_ := Ad.mk ((by rw [hg]; exact (pbz (by repeat (first | (with_reducible first | exact HB.out | apply pba | apply pbN | apply pb1) | exact HB.out))) : w.heap.size ≤ gb144)); clear HB; have HB := n0_; have BK144 := n1_; have GW144 := n2_; have GE144 := n3_; clear n0_ n1_ n2_ n3_; clear hb hbox hg; have hcz33_0 : w32.cell? ⟨gb144, 0, none⟩ = some (.int .i64 a0_0) := (bcl BK144.out 0).trans rfl; have hcz33_1 : w32.cell? ⟨gb144, 1, none⟩ = some (.int .i64 a0_1) := (bcl BK144.out 1).trans rfl; have hcz33_2 : w32.cell? ⟨gb144, 2, none⟩ = some (.slice A0_2 l0_2.length c0_2) := (bcl BK144.out 2).trans rfl; have hfz33_0 := bfz BK144.out 0; have hfz33_1 := bfz BK144.out 1; have hfz33_2 := bfz BK144.out 2) | ((with_reducible refine gate_callee (f := 11) rfl ?_); refine goesL_ (some 14) rfl rfl Tryd.func11 (by kernel_rfl) rfl #[.agg #[.int .i64 a0_0, .int .i64 a0_1, .slice A0_2 l0_2.length c0_2]] rfl (by (try simp only [List.map_toArray, List.map_cons, List.map_nil]); first | done | rfl | (simp only [List.length_drop, List.length_take]; rfl)) ?_; (with_reducible refine (leap_Check.calls k a0_0 a0_1 _ _ l0_2 t145 _ ?side1 ?side2 A3.out).mono ?_); (case side1 => repeat (first | exact (Kd.C_below HR0_2.out HB.out) | (with_reducible refine Kd.C_alloc ?_ _) | (with_reducible refine Kd.C_drewN ?_ _) | (with_reducible refine Kd.C_drew ?_))); (case side2 => exact HC0_2.out); rintro e w34 ⟨rfl, hb⟩; refine ⟨_, rfl, ?_⟩; have n0_ := Ad.mk (bbl (g := gb144) (o := .cells #[.int .i64 a0_0, .int .i64 a0_1, .slice A0_2 l0_2.length c0_2] 24 (0, 0)) (by (with_reducible repeat (first | refine bkN ?_ _ | refine bkd ?_ | refine bka ?_ _)); exact BK144.out) hb); have n1_ := Ad.mk (pbt (by repeat (first | (with_reducible first | exact HB.out | apply pba | apply pbN | apply pb1 | refine pbs ?_ GE144.out) | exact HB.out)) hb); clear BK144; clear HB; have BK144 := n0_; have HB := n1_; clear n0_ n1_; (try clear hb); (try clear hb2); (try clear hk); (try clear hi)))
  go_ret3
  exact ⟨by first | rfl | (simp [ewn, ews] <;> rfl) | (simp [*, ewn, ews] <;> rfl), by repeat (first | (with_reducible first | exact HB.out | apply pba | apply pbN | apply pb1 | refine pbs ?_ GE144.out) | exact HB.out)⟩

end Go.Proofs.YtipbkcilpnlgnaaDoor.M
