-- printed
-- tight (tight.py)
import Derived.Test.YtipbkcilpnlgnaaDoorM0
import Derived.Test.YtipbkcilpnlgnaaDoorMD
import Derived.Test.YtipbkcilpnlgnaaDoorM1
namespace Go.Proofs.YtipbkcilpnlgnaaDoor.M
open Go.RowKit Go.Proofs.YtipbkcilpnlgnaaDoorG Go.Proofs.YtipbkcilpnlgnaaDoorW.PA Go.Proofs.YtipbkcilpnlgnaaDoorW.PB Go.Proofs.YtipbkcilpnlgnaaDoorW.PC
attribute [local go_sem] max2_int min2_int max_two min_two max_three min_three max_four min_four   -- for this text's walks alone
set_option linter.unusedVariables false
set_option linter.unusedSimpArgs false

attribute [local go_sem high] eqA44
/-! ### w6_same: function 20 -/
set_option maxHeartbeats 8000000 in
set_option maxRecDepth 100000 in
theorem w6_same.calls (k : Nat) (a0_0 : Int) (a0_1 : Int) (A0_2 : Option Addr) (c0_2 : Nat) (l0_2 : List (S44)) (a1_0 : Int) (a1_1 : Int) (A1_2 : Option Addr) (c1_2 : Nat) (l1_2 : List (S44)) (r : Bool) (w : World) (hr0_2 : Kd.C k44 w A0_2 l0_2.length l0_2) (hc0_2 : l0_2.length ≤ c0_2) (hr1_2 : Kd.C k44 w A1_2 l1_2.length l1_2) (hc1_2 : l1_2.length ≤ c1_2) (h : w6_same.f k a0_0 a0_1 l0_2 a1_0 a1_1 l1_2 = some r) :
  Calls Tryd.prog 20 #[.agg #[.int .i64 a0_0, .int .i64 a0_1, .slice A0_2 l0_2.length c0_2], .agg #[.int .i64 a1_0, .int .i64 a1_1, .slice A1_2 l1_2.length c1_2]] w fun e w' => e = .returned (.bool r) ∧ Below w.heap.size w w' := by
 have hu24 := Tryd.underlying24
 have hu44 := Tryd.underlying44
 have HR0_2 := Ad.mk hr0_2
 have HC0_2 := Ad.mk hc0_2
 clear hr0_2 hc0_2
 have HR1_2 := Ad.mk hr1_2
 have HC1_2 := Ad.mk hc1_2
 clear hr1_2 hc1_2
 have HB := Ad.mk (Below.refl w.heap.size w)
 have H : (if a0_0 = a1_0 then (if a0_1 = a1_1 then (w6_same.j0 k ((l0_2.length : Int) != (l1_2.length : Int)) a0_0 a0_1 l0_2 a1_0 a1_1 l1_2) else (w6_same.j0 k true a0_0 a0_1 l0_2 a1_0 a1_1 l1_2)) else (w6_same.j0 k true a0_0 a0_1 l0_2 a1_0 a1_1 l1_2)) = some r := h
 clear h
 have HC3 := Ad.mk H
 clear H
 go_enter Tryd.func20, Tryd.ntmps20
 go_upto_region 1 with (first | ((with_reducible refine gate_dst (N := 2) rfl ?_); (try (refine gate_guard (by rfl) ?_; dsimp only)); refine box_event ?hg (N := 2) ?hd (cs := #[.int .i64 a0_0, .int .i64 a0_1, .slice A0_2 l0_2.length c0_2]) (t := 24) ?hr ?_; (case hd => rfl); (case hg => rfl); (case hr => first | (go_simp; done) | (go_simp; rfl)); intro gb154 hg w4 hbox hb; have n0_ := Ad.mk (pbt (by repeat (first | (with_reducible first | exact HB.out | apply pba | apply pbN | apply pb1) | exact HB.out)) hb); have n1_ := Ad.mk (hbox); have n2_ := Ad.mk ((by rw [hg]; exact (pbz (by repeat (first | (with_reducible first | exact HB.out | apply pba | apply pbN | apply pb1) | exact HB.out))) : w.heap.size ≤ gb154)); have n3_ := Ad.mk ((by rw [hg]; exact (pbz (by repeat (first | (with_reducible first | exact HB.out | apply pba | apply pbN | apply pb1) | exact HB.out))) : w.heap.size ≤ gb154)); clear HB; have HB := n0_; have BK154 := n1_; have GW154 := n2_; have GE154 := n3_; clear n0_ n1_ n2_ n3_; clear hb hbox hg) | ((with_reducible refine gate_dst (N := 3) rfl ?_); (try (refine gate_guard (by rfl) ?_; dsimp only)); refine box_event ?hg (N := 3) ?hd (cs := #[.int .i64 a1_0, .int .i64 a1_1, .slice A1_2 l1_2.length c1_2]) (t := 24) ?hr ?_; (case hd => rfl); (case hg => rfl); (case hr => first | (go_simp; done) | (go_simp; rfl)); intro gb155 hg w5 hbox hb; have n0_ := Ad.mk (bbl (g := gb154) (o := .cells #[.int .i64 a0_0, .int .i64 a0_1, .slice A0_2 l0_2.length c0_2] 24 (0, 0)) (by (with_reducible repeat (first | refine bkN ?_ _ | refine bkd ?_ | refine bka ?_ _)); exact BK154.out) hb); have n1_ := Ad.mk (pbt (by repeat (first | (with_reducible first | exact HB.out | apply pba | apply pbN | apply pb1 | refine pbs ?_ GE154.out) | exact HB.out)) hb); have n2_ := Ad.mk (hbox); have n3_ := Ad.mk ((by rw [hg]; exact (pbz (by repeat (first | (with_reducible first | exact HB.out | apply pba | apply pbN | apply pb1 | refine pbs ?_ GE154.out) | exact HB.out))) : w.heap.size ≤ gb155)); have n4_ := Ad.mk ((by rw [hg]; exact (pbz (by repeat (first | (with_reducible first | exact HB.out | apply pba | apply pbN | apply pb1 | refine pbs ?_ GE154.out) | exact HB.out))) : w.heap.size ≤ gb155)); have n5_ := Ad.mk ((by rw [hg]; exact Nat.ne_of_lt (blk_lt (g := gb154) (o := .cells #[.int .i64 a0_0, .int .i64 a0_1, .slice A0_2 l0_2.length c0_2] 24 (0, 0)) (by (with_reducible repeat (first | refine bkN ?_ _ | refine bkd ?_ | refine bka ?_ _)); exact BK154.out)) : gb154 ≠ gb155)); have n6_ := Ad.mk ((by rw [hg]; exact Nat.ne_of_gt (blk_lt (g := gb154) (o := .cells #[.int .i64 a0_0, .int .i64 a0_1, .slice A0_2 l0_2.length c0_2] 24 (0, 0)) (by (with_reducible repeat (first | refine bkN ?_ _ | refine bkd ?_ | refine bka ?_ _)); exact BK154.out)) : gb155 ≠ gb154)); clear BK154; clear HB; have BK154 := n0_; have HB := n1_; have BK155 := n2_; have GW155 := n3_; have GE155 := n4_; have NB154_155 := n5_; have NB155_154 := n6_; clear n0_ n1_ n2_ n3_ n4_ n5_ n6_; clear hb hbox hg))
 repeat (go_quiet (first | ((with_reducible refine gate_dst (N := 2) rfl ?_); (try (refine gate_guard (by rfl) ?_; dsimp only)); refine box_event ?hg (N := 2) ?hd (cs := #[.int .i64 a0_0, .int .i64 a0_1, .slice A0_2 l0_2.length c0_2]) (t := 24) ?hr ?_; (case hd => rfl); (case hg => rfl); (case hr => first | (go_simp; done) | (go_simp; rfl)); intro gb154 hg w4 hbox hb; have n0_ := Ad.mk (pbt (by repeat (first | (with_reducible first | exact HB.out | apply pba | apply pbN | apply pb1) | exact HB.out)) hb); have n1_ := Ad.mk (hbox); have n2_ := Ad.mk ((by rw [hg]; exact (pbz (by repeat (first | (with_reducible first | exact HB.out | apply pba | apply pbN | apply pb1) | exact HB.out))) : w.heap.size ≤ gb154)); have n3_ := Ad.mk ((by rw [hg]; exact (pbz (by repeat (first | (with_reducible first | exact HB.out | apply pba | apply pbN | apply pb1) | exact HB.out))) : w.heap.size ≤ gb154)); clear HB; have HB := n0_; have BK154 := n1_; have GW154 := n2_; have GE154 := n3_; clear n0_ n1_ n2_ n3_; clear hb hbox hg) | ((with_reducible refine gate_dst (N := 3) rfl ?_); (try (refine gate_guard (by rfl) ?_; dsimp only)); refine box_event ?hg (N := 3) ?hd (cs := #[.int .i64 a1_0, .int .i64 a1_1, .slice A1_2 l1_2.length c1_2]) (t := 24) ?hr ?_; (case hd => rfl); (case hg => rfl); (case hr => first | (go_simp; done) | (go_simp; rfl)); intro gb155 hg w5 hbox hb; have n0_ := Ad.mk (bbl (g := gb154) (o := .cells #[.int .i64 a0_0, .int .i64 a0_1, .slice A0_2 l0_2.length c0_2] 24 (0, 0)) (by (with_reducible repeat (first | refine bkN ?_ _ | refine bkd ?_ | refine bka ?_ _)); exact BK154.out) hb); have n1_ := Ad.mk (pbt (by repeat (first | (with_reducible first | exact HB.out | apply pba | apply pbN | apply pb1 | refine pbs ?_ GE154.out) | exact HB.out)) hb); have n2_ := Ad.mk (hbox); have n3_ := Ad.mk ((by rw [hg]; exact (pbz (by repeat (first | (with_reducible first | exact HB.out | apply pba | apply pbN | apply pb1 | refine pbs ?_ GE154.out) | exact HB.out))) : w.heap.size ≤ gb155)); have n4_ := Ad.mk ((by rw [hg]; exact (pbz (by repeat (first | (with_reducible first | exact HB.out | apply pba | apply pbN | apply pb1 | refine pbs ?_ GE154.out) | exact HB.out))) : w.heap.size ≤ gb155)); have n5_ := Ad.mk ((by rw [hg]; exact Nat.ne_of_lt (blk_lt (g := gb154) (o := .cells #[.int .i64 a0_0, .int .i64 a0_1, .slice A0_2 l0_2.length c0_2] 24 (0, 0)) (by (with_reducible repeat (first | refine bkN ?_ _ | refine bkd ?_ | refine bka ?_ _)); exact BK154.out)) : gb154 ≠ gb155)); have n6_ := Ad.mk ((by rw [hg]; exact Nat.ne_of_gt (blk_lt (g := gb154) (o := .cells #[.int .i64 a0_0, .int .i64 a0_1, .slice A0_2 l0_2.length c0_2] 24 (0, 0)) (by (with_reducible repeat (first | refine bkN ?_ _ | refine bkd ?_ | refine bka ?_ _)); exact BK154.out)) : gb155 ≠ gb154)); clear BK154; clear HB; have BK154 := n0_; have HB := n1_; have BK155 := n2_; have GW155 := n3_; have GE155 := n4_; have NB154_155 := n5_; have NB155_154 := n6_; clear n0_ n1_ n2_ n3_ n4_ n5_ n6_; clear hb hbox hg)); go_upto_region 1 with (first | ((with_reducible refine gate_dst (N := 2) rfl ?_); (try (refine gate_guard (by rfl) ?_; dsimp only)); refine box_event ?hg (N := 2) ?hd (cs := #[.int .i64 a0_0, .int .i64 a0_1, .slice A0_2 l0_2.length c0_2]) (t := 24) ?hr ?_; (case hd => rfl); (case hg => rfl); (case hr => first | (go_simp; done) | (go_simp; rfl)); intro gb154 hg w4 hbox hb; have n0_ := Ad.mk (pbt (by repeat (first | (with_reducible first | exact HB.out | apply pba | apply pbN | apply pb1) | exact HB.out)) hb); have n1_ := Ad.mk (hbox); have n2_ := Ad.mk ((by rw [hg]; exact (pbz (by repeat (first | (with_reducible first | exact HB.out | apply pba | apply pbN | apply pb1) | exact HB.out))) : w.heap.size ≤ gb154)); have n3_ := Ad.mk ((by rw [hg]; exact (pbz (by repeat (first | (with_reducible first | exact HB.out | apply pba | apply pbN | apply pb1) | exact HB.out))) : w.heap.size ≤ gb154)); clear HB; have HB := n0_; have BK154 := n1_; have GW154 := n2_; have GE154 := n3_; clear n0_ n1_ n2_ n3_; clear hb hbox hg) | ((with_reducible refine gate_dst (N := 3) rfl ?_); (try (refine gate_guard (by rfl) ?_; dsimp only)); refine box_event ?hg (N := 3) ?hd (cs := #[.int .i64 a1_0, .int .i64 a1_1, .slice A1_2 l1_2.length c1_2]) (t := 24) ?hr ?_; (case hd => rfl); (case hg => rfl); (case hr => first | (go_simp; done) | (go_simp; rfl)); intro gb155 hg w5 hbox hb; have n0_ := Ad.mk (bbl (g := gb154) (o := .cells #[.int .i64 a0_0, .int .i64 a0_1, .slice A0_2 l0_2.length c0_2] 24 (0, 0)) (by (with_reducible repeat (first | refine bkN ?_ _ | refine bkd ?_ | refine bka ?_ _)); exact BK154.out) hb); have n1_ := Ad.mk (pbt (by repeat (first | (with_reducible first | exact HB.out | apply pba | apply pbN | apply pb1 | refine pbs ?_ GE154.out) | exact HB.out)) hb); have n2_ := Ad.mk (hbox); have n3_ := Ad.mk ((by rw [hg]; exact (pbz (by repeat (first | (with_reducible first | exact HB.out | apply pba | apply pbN | apply pb1 | refine pbs ?_ GE154.out) | exact HB.out))) : w.heap.size ≤ gb155)); have n4_ := Ad.mk ((by rw [hg]; exact (pbz (by repeat (first | (with_reducible first | exact HB.out | apply pba | apply pbN | apply pb1 | refine pbs ?_ GE154.out) | exact HB.out))) : w.heap.size ≤ gb155)); have n5_ := Ad.mk ((by rw [hg]; exact Nat.ne_of_lt (blk_lt (g := gb154) (o := .cells #[.int .i64 a0_0, .int .i64 a0_1, .slice A0_2 l0_2.length c0_2] 24 (0, 0)) (by (with_reducible repeat (first | refine bkN ?_ _ | refine bkd ?_ | refine bka ?_ _)); exact BK154.out)) : gb154 ≠ gb155)); have n6_ := Ad.mk ((by rw [hg]; exact Nat.ne_of_gt (blk_lt (g := gb154) (o := .cells #[.int .i64 a0_0, .int .i64 a0_1, .slice A0_2 l0_2.length c0_2] 24 (0, 0)) (by (with_reducible repeat (first | refine bkN ?_ _ | refine bkd ?_ | refine bka ?_ _)); exact BK154.out)) : gb155 ≠ gb154)); clear BK154; clear HB; have BK154 := n0_; have HB := n1_; have BK155 := n2_; have GW155 := n3_; have GE155 := n4_; have NB154_155 := n5_; have NB155_154 := n6_; clear n0_ n1_ n2_ n3_ n4_ n5_ n6_; clear hb hbox hg)))
 (try simp only [Act.put, List.setIfInBounds_toArray, List.set_cons_zero, List.set_cons_succ])
 go_cut [26] (fun v26 wc => ∃ (kq : Nat) (x26_2 : Bool), v26 = .bool x26_2 ∧ Ad (w6_same.j0 kq x26_2 a0_0 a0_1 l0_2 a1_0 a1_1 l1_2 = some r) ∧ Ad (kq ≤ k) ∧ Ad (wc.heap[gb154]? = some (.cells #[.int .i64 a0_0, .int .i64 a0_1, (.slice A0_2 l0_2.length c0_2)] 24 (0, 0))) ∧ Ad (wc.heap[gb155]? = some (.cells #[.int .i64 a1_0, .int .i64 a1_1, (.slice A1_2 l1_2.length c1_2)] 24 (0, 0))) ∧ Ad (Below w.heap.size w wc))
 case first =>
  have H := HC3.out
  clear HC3
  by_cases c6 : a0_0 = a1_0
  ·rw [if_pos c6] at H
   have c6b0 : (a0_0 == a1_0) = true := beq_iff_eq.mpr c6
   have c6b1 : (a0_0 != a1_0) = false := bne_eq_false_iff_eq.mpr c6
   clear c6
   (first | rw [c6b0] | (simp only [i64_w, i32_w]; rw [c6b0]) | skip)
   by_cases c7 : a0_1 = a1_1
   ·rw [if_pos c7] at H
    have c7b0 : (a0_1 == a1_1) = true := beq_iff_eq.mpr c7
    have c7b1 : (a0_1 != a1_1) = false := bne_eq_false_iff_eq.mpr c7
    clear c7
    have H' := Ad.mk H
    clear H
    have hnb8 := NB154_155.out
    have hnc8 := NB155_154.out
    have hcz9_0 : w5.cell? ⟨gb154, 0, none⟩ = some (.int .i64 a0_0) := (bcl BK154.out 0).trans rfl
    have hcz9_1 : w5.cell? ⟨gb154, 1, none⟩ = some (.int .i64 a0_1) := (bcl BK154.out 1).trans rfl
    have hcz9_2 : w5.cell? ⟨gb154, 2, none⟩ = some (.slice A0_2 l0_2.length c0_2) := (bcl BK154.out 2).trans rfl
    have hfz9_0 := bfz BK154.out 0
    have hfz9_1 := bfz BK154.out 1
    have hfz9_2 := bfz BK154.out 2
    have hcz10_0 : w5.cell? ⟨gb155, 0, none⟩ = some (.int .i64 a1_0) := (bcl BK155.out 0).trans rfl
    have hcz10_1 : w5.cell? ⟨gb155, 1, none⟩ = some (.int .i64 a1_1) := (bcl BK155.out 1).trans rfl
    have hcz10_2 : w5.cell? ⟨gb155, 2, none⟩ = some (.slice A1_2 l1_2.length c1_2) := (bcl BK155.out 2).trans rfl
    have hfz10_0 := bfz BK155.out 0
    have hfz10_1 := bfz BK155.out 1
    have hfz10_2 := bfz BK155.out 2
    go_wp2
    repeat (go_quiet (fail); try go_wp2)
    go_meet
    case rel => exact ⟨_, (((l0_2.length : Int) != (l1_2.length : Int))), (by first | rfl | (simp; done) | (simp [*]; done)), H', ⟨by first | omega | exact Nat.le_refl _⟩, ⟨by (with_reducible repeat (first | refine bkN ?_ _ | refine bkd ?_ | refine bka ?_ _)); exact BK154.out⟩, ⟨by (with_reducible repeat (first | refine bkN ?_ _ | refine bkd ?_ | refine bka ?_ _)); exact BK155.out⟩, ⟨by repeat (first | (with_reducible first | exact HB.out | apply pba | apply pbN | apply pb1 | refine pbs ?_ GE154.out | refine pbs ?_ GE155.out) | exact HB.out)⟩⟩
   ·rw [if_neg c7] at H
    have c7b0 : (a0_1 == a1_1) = false := beq_eq_false_iff_ne.mpr c7
    have c7b1 : (a0_1 != a1_1) = true := bne_iff_ne.mpr c7
    have H' := Ad.mk H
    clear H
    have hnb11 := NB154_155.out
    have hnc11 := NB155_154.out
    have hcz12_0 : w5.cell? ⟨gb154, 0, none⟩ = some (.int .i64 a0_0) := (bcl BK154.out 0).trans rfl
    have hcz12_1 : w5.cell? ⟨gb154, 1, none⟩ = some (.int .i64 a0_1) := (bcl BK154.out 1).trans rfl
    have hcz12_2 : w5.cell? ⟨gb154, 2, none⟩ = some (.slice A0_2 l0_2.length c0_2) := (bcl BK154.out 2).trans rfl
    have hfz12_0 := bfz BK154.out 0
    have hfz12_1 := bfz BK154.out 1
    have hfz12_2 := bfz BK154.out 2
    have hcz13_0 : w5.cell? ⟨gb155, 0, none⟩ = some (.int .i64 a1_0) := (bcl BK155.out 0).trans rfl
    have hcz13_1 : w5.cell? ⟨gb155, 1, none⟩ = some (.int .i64 a1_1) := (bcl BK155.out 1).trans rfl
    have hcz13_2 : w5.cell? ⟨gb155, 2, none⟩ = some (.slice A1_2 l1_2.length c1_2) := (bcl BK155.out 2).trans rfl
    have hfz13_0 := bfz BK155.out 0
    have hfz13_1 := bfz BK155.out 1
    have hfz13_2 := bfz BK155.out 2
    go_wp2
    repeat (go_quiet (fail); try go_wp2)
    go_meet
    case rel => exact ⟨_, (true), (by first | rfl | (simp; done) | (simp [*]; done)), H', ⟨by first | omega | exact Nat.le_refl _⟩, ⟨by (with_reducible repeat (first | refine bkN ?_ _ | refine bkd ?_ | refine bka ?_ _)); exact BK154.out⟩, ⟨by (with_reducible repeat (first | refine bkN ?_ _ | refine bkd ?_ | refine bka ?_ _)); exact BK155.out⟩, ⟨by repeat (first | (with_reducible first | exact HB.out | apply pba | apply pbN | apply pb1 | refine pbs ?_ GE154.out | refine pbs ?_ GE155.out) | exact HB.out)⟩⟩
  ·rw [if_neg c6] at H
   have c6b0 : (a0_0 == a1_0) = false := beq_eq_false_iff_ne.mpr c6
   have c6b1 : (a0_0 != a1_0) = true := bne_iff_ne.mpr c6
   (first | rw [c6b0] | (simp only [i64_w, i32_w]; rw [c6b0]) | skip)
   have H' := Ad.mk H
   clear H
   have hnb14 := NB154_155.out
   have hnc14 := NB155_154.out
   have hcz15_0 : w5.cell? ⟨gb154, 0, none⟩ = some (.int .i64 a0_0) := (bcl BK154.out 0).trans rfl
   have hcz15_1 : w5.cell? ⟨gb154, 1, none⟩ = some (.int .i64 a0_1) := (bcl BK154.out 1).trans rfl
   have hcz15_2 : w5.cell? ⟨gb154, 2, none⟩ = some (.slice A0_2 l0_2.length c0_2) := (bcl BK154.out 2).trans rfl
   have hfz15_0 := bfz BK154.out 0
   have hfz15_1 := bfz BK154.out 1
   have hfz15_2 := bfz BK154.out 2
   have hcz16_0 : w5.cell? ⟨gb155, 0, none⟩ = some (.int .i64 a1_0) := (bcl BK155.out 0).trans rfl
   have hcz16_1 : w5.cell? ⟨gb155, 1, none⟩ = some (.int .i64 a1_1) := (bcl BK155.out 1).trans rfl
   have hcz16_2 : w5.cell? ⟨gb155, 2, none⟩ = some (.slice A1_2 l1_2.length c1_2) := (bcl BK155.out 2).trans rfl
   have hfz16_0 := bfz BK155.out 0
   have hfz16_1 := bfz BK155.out 1
   have hfz16_2 := bfz BK155.out 2
   go_wp2
   repeat (go_quiet (fail); try go_wp2)
   go_meet
   case rel => exact ⟨_, (true), (by first | rfl | (simp; done) | (simp [*]; done)), H', ⟨by first | omega | exact Nat.le_refl _⟩, ⟨by (with_reducible repeat (first | refine bkN ?_ _ | refine bkd ?_ | refine bka ?_ _)); exact BK154.out⟩, ⟨by (with_reducible repeat (first | refine bkN ?_ _ | refine bkd ?_ | refine bka ?_ _)); exact BK155.out⟩, ⟨by repeat (first | (with_reducible first | exact HB.out | apply pba | apply pbN | apply pb1 | refine pbs ?_ GE154.out | refine pbs ?_ GE155.out) | exact HB.out)⟩⟩
 case rest =>
  clear HC3
  obtain ⟨kq, x26_2, rfl, HA, HJ2, BK154, BK155, HB⟩ := hcut
  cases kq with
  | zero => exact absurd HA.out (by simp [w6_same.j0])
  | succ kj2 =>
   have H := HA.out
   clear HA
   simp only [w6_same.j0] at H
   by_cases c17 : x26_2 = true
   ·subst c17
    have H1 : (some false) = some r := by rw [if_pos rfl] at H; exact H
    clear H
    have H := H1
    clear H1
    obtain rfl := Option.some.inj H
    go_wp2
    repeat (go_quiet (fail); try go_wp2)
    go_ret
    exact ⟨by first | rfl | (simp [ewn, ews] <;> rfl) | (simp [*, ewn, ews] <;> rfl), by repeat (first | (with_reducible first | exact HB.out | apply pba | apply pbN | apply pb1 | refine pbs ?_ GE154.out | refine pbs ?_ GE155.out) | exact HB.out)⟩
   ·replace c17 := Bool.eq_false_iff.mpr c17
    subst c17
    have H1 : (w6_same.l0 kj2 0 a0_0 a0_1 l0_2 a1_0 a1_1 l1_2) = some r := by rw [if_neg (show ¬ (false = true) by decide)] at H; exact H
    clear H
    have H := H1
    clear H1
    have H' := Ad.mk H
    clear H
    go_wp2
    repeat (go_quiet (fail); try go_wp2)
    go_loopg [5] kj2 (fun kq v5 w' => ∃ (x5_2 : Int), v5 = .int .i64 x5_2 ∧ Ad (w6_same.l0 kq x5_2 a0_0 a0_1 l0_2 a1_0 a1_1 l1_2 = some r) ∧ Ad (kq ≤ kj2) ∧ Ad (w'.heap[gb154]? = some (.cells #[.int .i64 a0_0, .int .i64 a0_1, (.slice A0_2 l0_2.length c0_2)] 24 (0, 0))) ∧ Ad (w'.heap[gb155]? = some (.cells #[.int .i64 a1_0, .int .i64 a1_1, (.slice A1_2 l1_2.length c1_2)] 24 (0, 0))) ∧ Ad (Below w.heap.size w w'))
    case atStart => exact ⟨(0), (by first | rfl | (simp; done) | (simp [*]; done)), H', ⟨Nat.le_refl _⟩, ⟨by (with_reducible repeat (first | refine bkN ?_ _ | refine bkd ?_ | refine bka ?_ _)); exact BK154.out⟩, ⟨by (with_reducible repeat (first | refine bkN ?_ _ | refine bkd ?_ | refine bka ?_ _)); exact BK155.out⟩, ⟨by repeat (first | (with_reducible first | exact HB.out | apply pba | apply pbN | apply pb1 | refine pbs ?_ GE154.out | refine pbs ?_ GE155.out) | exact HB.out)⟩⟩
    case round =>
     clear H'
     obtain ⟨x5_2, rfl, HA, HK2, BK154, BK155, HB⟩ := hrel
     cases gk with
     | zero => exact absurd HA.out (by simp [w6_same.l0])
     | succ k2 =>
      have H := HA.out
      clear HA
      simp only [w6_same.l0] at H
      by_cases c18 : x5_2 < (l0_2.length : Int)
      ·rw [if_pos c18] at H
       have c18b0 : decide (x5_2 < (l0_2.length : Int)) = true := decide_eq_true c18
       clear c18
       by_cases c19 : 0 ≤ x5_2
       ·rw [if_pos c19] at H
        have c19b0 : decide (0 ≤ x5_2) = true := decide_eq_true c19
        clear c19
        by_cases c20 : x5_2 < (l1_2.length : Int)
        ·rw [if_pos c20] at H
         have c20b0 : decide (x5_2 < (l1_2.length : Int)) = true := decide_eq_true c20
         clear c20
         by_cases c21 : (!(((rd_T44 l0_2 x5_2).f0) == ((rd_T44 l1_2 x5_2).f0)) || (!(((rd_T44 l0_2 x5_2).f1) == ((rd_T44 l1_2 x5_2).f1)))) = true
         ·rw [if_pos c21] at H
          have c21b0 : (!(((rd_T44 l0_2 x5_2).f0) == ((rd_T44 l1_2 x5_2).f0)) || (!(((rd_T44 l0_2 x5_2).f1) == ((rd_T44 l1_2 x5_2).f1)))) = true := c21
          clear c21
          obtain rfl := Option.some.inj H
          have hnb22 := NB154_155.out
          have hnc22 := NB155_154.out
          have hcz23_0 : wr.cell? ⟨gb154, 0, none⟩ = some (.int .i64 a0_0) := (bcl BK154.out 0).trans rfl
          have hcz23_1 : wr.cell? ⟨gb154, 1, none⟩ = some (.int .i64 a0_1) := (bcl BK154.out 1).trans rfl
          have hcz23_2 : wr.cell? ⟨gb154, 2, none⟩ = some (.slice A0_2 l0_2.length c0_2) := (bcl BK154.out 2).trans rfl
          have hfz23_0 := bfz BK154.out 0
          have hfz23_1 := bfz BK154.out 1
          have hfz23_2 := bfz BK154.out 2
          have p156 : 0 ≤ (x5_2 : Int) := of_decide_eq_true (by first | (with_reducible assumption) | assumption)
          have q156 : x5_2 < (l0_2.length : Int) := of_decide_eq_true (by first | (with_reducible assumption) | assumption)
          obtain ⟨ad156, e156, hx156_0, hx156_1⟩ := at_T44 HR0_2.out x5_2 p156 q156
          cases e156
          replace hx156_0 := (HB.out.cell (World.block_lt_of_cell? w _ hx156_0)).trans hx156_0
          replace hx156_1 := (HB.out.cell (World.block_lt_of_cell? w _ hx156_1)).trans hx156_1
          replace p156 := eq_true p156
          replace q156 := eq_true q156
          have hcz24_0 : wr.cell? ⟨gb155, 0, none⟩ = some (.int .i64 a1_0) := (bcl BK155.out 0).trans rfl
          have hcz24_1 : wr.cell? ⟨gb155, 1, none⟩ = some (.int .i64 a1_1) := (bcl BK155.out 1).trans rfl
          have hcz24_2 : wr.cell? ⟨gb155, 2, none⟩ = some (.slice A1_2 l1_2.length c1_2) := (bcl BK155.out 2).trans rfl
          have hfz24_0 := bfz BK155.out 0
          have hfz24_1 := bfz BK155.out 1
          have hfz24_2 := bfz BK155.out 2
          have p157 : 0 ≤ (x5_2 : Int) := of_decide_eq_true (by first | (with_reducible assumption) | assumption)
          have q157 : x5_2 < (l1_2.length : Int) := of_decide_eq_true (by first | (with_reducible assumption) | assumption)
          obtain ⟨ad157, e157, hx157_0, hx157_1⟩ := at_T44 HR1_2.out x5_2 p157 q157
          cases e157
          replace hx157_0 := (HB.out.cell (World.block_lt_of_cell? w _ hx157_0)).trans hx157_0
          replace hx157_1 := (HB.out.cell (World.block_lt_of_cell? w _ hx157_1)).trans hx157_1
          replace p157 := eq_true p157
          replace q157 := eq_true q157
          go_wp2
          repeat (go_quiet (fail); try go_wp2)
          go_ret
          exact ⟨by first | rfl | (simp [ewn, ews] <;> rfl) | (simp [*, ewn, ews] <;> rfl), by repeat (first | (with_reducible first | exact HB.out | apply pba | apply pbN | apply pb1 | refine pbs ?_ GE154.out | refine pbs ?_ GE155.out) | exact HB.out)⟩
         ·rw [if_neg c21] at H
          have c21b0 : (!(((rd_T44 l0_2 x5_2).f0) == ((rd_T44 l1_2 x5_2).f0)) || (!(((rd_T44 l0_2 x5_2).f1) == ((rd_T44 l1_2 x5_2).f1)))) = false := by simpa using c21
          clear c21
          have H' := Ad.mk H
          clear H
          have hnb25 := NB154_155.out
          have hnc25 := NB155_154.out
          have hcz26_0 : wr.cell? ⟨gb154, 0, none⟩ = some (.int .i64 a0_0) := (bcl BK154.out 0).trans rfl
          have hcz26_1 : wr.cell? ⟨gb154, 1, none⟩ = some (.int .i64 a0_1) := (bcl BK154.out 1).trans rfl
          have hcz26_2 : wr.cell? ⟨gb154, 2, none⟩ = some (.slice A0_2 l0_2.length c0_2) := (bcl BK154.out 2).trans rfl
          have hfz26_0 := bfz BK154.out 0
          have hfz26_1 := bfz BK154.out 1
          have hfz26_2 := bfz BK154.out 2
          have p156 : 0 ≤ (x5_2 : Int) := of_decide_eq_true (by first | (with_reducible assumption) | assumption)
          have q156 : x5_2 < (l0_2.length : Int) := of_decide_eq_true (by first | (with_reducible assumption) | assumption)
          obtain ⟨ad156, e156, hx156_0, hx156_1⟩ := at_T44 HR0_2.out x5_2 p156 q156
          cases e156
          replace hx156_0 := (HB.out.cell (World.block_lt_of_cell? w _ hx156_0)).trans hx156_0
          replace hx156_1 := (HB.out.cell (World.block_lt_of_cell? w _ hx156_1)).trans hx156_1
          replace p156 := eq_true p156
          replace q156 := eq_true q156
          have hcz27_0 : wr.cell? ⟨gb155, 0, none⟩ = some (.int .i64 a1_0) := (bcl BK155.out 0).trans rfl
          have hcz27_1 : wr.cell? ⟨gb155, 1, none⟩ = some (.int .i64 a1_1) := (bcl BK155.out 1).trans rfl
          have hcz27_2 : wr.cell? ⟨gb155, 2, none⟩ = some (.slice A1_2 l1_2.length c1_2) := (bcl BK155.out 2).trans rfl
          have hfz27_0 := bfz BK155.out 0
          have hfz27_1 := bfz BK155.out 1
          have hfz27_2 := bfz BK155.out 2
          have p157 : 0 ≤ (x5_2 : Int) := of_decide_eq_true (by first | (with_reducible assumption) | assumption)
          have q157 : x5_2 < (l1_2.length : Int) := of_decide_eq_true (by first | (with_reducible assumption) | assumption)
          obtain ⟨ad157, e157, hx157_0, hx157_1⟩ := at_T44 HR1_2.out x5_2 p157 q157
          cases e157
          replace hx157_0 := (HB.out.cell (World.block_lt_of_cell? w _ hx157_0)).trans hx157_0
          replace hx157_1 := (HB.out.cell (World.block_lt_of_cell? w _ hx157_1)).trans hx157_1
          replace p157 := eq_true p157
          replace q157 := eq_true q157
          go_wp2
          repeat (go_quiet (fail); try go_wp2)
          go_roundg k2
          case measure => have := HJ2.out; have := HK2.out; omega
          case rel => exact ⟨(wrap64 (x5_2 + 1)), (by first | rfl | (simp; done) | (simp [*]; done)), H', ⟨by have := HJ2.out; have := HK2.out; omega⟩, ⟨by (with_reducible repeat (first | refine bkN ?_ _ | refine bkd ?_ | refine bka ?_ _)); exact BK154.out⟩, ⟨by (with_reducible repeat (first | refine bkN ?_ _ | refine bkd ?_ | refine bka ?_ _)); exact BK155.out⟩, ⟨by repeat (first | (with_reducible first | exact HB.out | apply pba | apply pbN | apply pb1 | refine pbs ?_ GE154.out | refine pbs ?_ GE155.out) | exact HB.out)⟩⟩
        ·rw [if_neg c20] at H
         exact absurd H (by simp)
       ·rw [if_neg c19] at H
        exact absurd H (by simp)
      ·rw [if_neg c18] at H
       have c18b0 : decide (x5_2 < (l0_2.length : Int)) = false := decide_eq_false c18
       clear c18
       obtain rfl := Option.some.inj H
       have hnb28 := NB154_155.out
       have hnc28 := NB155_154.out
       have hcz29_0 : wr.cell? ⟨gb154, 0, none⟩ = some (.int .i64 a0_0) := (bcl BK154.out 0).trans rfl
       have hcz29_1 : wr.cell? ⟨gb154, 1, none⟩ = some (.int .i64 a0_1) := (bcl BK154.out 1).trans rfl
       have hcz29_2 : wr.cell? ⟨gb154, 2, none⟩ = some (.slice A0_2 l0_2.length c0_2) := (bcl BK154.out 2).trans rfl
       have hfz29_0 := bfz BK154.out 0
       have hfz29_1 := bfz BK154.out 1
       have hfz29_2 := bfz BK154.out 2
       go_wp2
       repeat (go_quiet (fail); try go_wp2)
       go_ret
       exact ⟨by first | rfl | (simp [ewn, ews] <;> rfl) | (simp [*, ewn, ews] <;> rfl), by repeat (first | (with_reducible first | exact HB.out | apply pba | apply pbN | apply pb1 | refine pbs ?_ GE154.out | refine pbs ?_ GE155.out) | exact HB.out)⟩

end Go.Proofs.YtipbkcilpnlgnaaDoor.M
