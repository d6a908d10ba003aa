-- Written by a program of this session (the kit's printer, patched) out of the translation. Lean checks it.
-- tight (tight.py)
import Derived.Test.YtipbkcilpnlgnaaDoorM0
import Derived.Test.YtipbkcilpnlgnaaDoorMD
import Derived.Test.YtipbkcilpnlgnaaDoorM13
import Derived.Test.YtipbkcilpnlgnaaDoorM14
namespace Go.Proofs.YtipbkcilpnlgnaaDoor.M
open Go.RowKit Go.Proofs.YtipbkcilpnlgnaaDoorG Go.Proofs.YtipbkcilpnlgnaaDoorW.PrintWords Go.Proofs.YtipbkcilpnlgnaaDoorW.PrintLast Go.Proofs.YtipbkcilpnlgnaaDoorW.PrintMore
attribute [local go_sem] max2_int min2_int max_two min_two max_three min_three max_four min_four   -- for this text's walks alone
set_option linter.unusedVariables false
set_option linter.unusedSimpArgs false

/-! ### timesyncref05_Of: function 44 -/
set_option maxHeartbeats 8000000 in
set_option maxRecDepth 100000 in
theorem timesyncref05_Of.calls (k : Nat) (a0 : Int) (r1 : Int) (r2 : Int) (r3 : Int) (r4 : Int) (r5 : Int) (r6 : Int) (r7 : Int) (r8 : Int) (w : World) (h : timesyncref05_Of.f k a0 = some (r1, r2, r3, r4, r5, r6, r7, r8)) :
  Calls Tryd.prog 44 #[.int .i64 a0] w fun e w' => e = .returned (.tuple #[.agg #[.int .i64 r1, .int .i64 r2, .int .i64 r3, .int .i64 r4, .int .i64 r5, .int .i64 r6, .int .i64 r7], .int .i64 r8]) ∧ Below w.heap.size w w' := by
 have hu48 := Tryd.underlying48
 have HB := Aside0.mk (Below.refl w.heap.size w)
 have H : (if a0 < (-8000000000) then (timesyncref05_Of.j0 k a0 true) else (timesyncref05_Of.j0 k a0 (decide (a0 > 8000000000)))) = some (r1, r2, r3, r4, r5, r6, r7, r8) := h
 clear h
 have HC2 := Aside0.mk H
 clear H
 go_enter Tryd.func44, Tryd.ntmps44
 go_upto_region 1 with (first | ((with_reducible refine gate_dst (N := 2) rfl ?_); refine box_event ?hg (N := 2) ?hd (cs := #[.int .i64 0, .int .i64 0, .int .i64 0, .int .i64 0, .int .i64 0, .int .i64 0, .int .i64 0]) (t := 48) ?hr ?_; (case hd => rfl); (case hg => rfl); (case hr => first | (go_simp; done) | (go_simp; rfl)); intro gb227 hg w3 hbox hb; have n0_ := Aside0.mk (below_step (by repeat (first | (with_reducible first | exact HB.out | apply below_alloc | apply pw_below_drewN | apply below_drew1) | exact HB.out)) hb); have n1_ := Aside0.mk (hbox); have n2_ := Aside0.mk ((by rw [hg]; exact (below_size (by repeat (first | (with_reducible first | exact HB.out | apply below_alloc | apply pw_below_drewN | apply below_drew1) | exact HB.out))) : w.heap.size ≤ gb227)); have n3_ := Aside0.mk ((by rw [hg]; exact (below_size (by repeat (first | (with_reducible first | exact HB.out | apply below_alloc | apply pw_below_drewN | apply below_drew1) | exact HB.out))) : w.heap.size ≤ gb227)); clear HB; have HB := n0_; have BK227 := n1_; have GW227 := n2_; have GE227 := n3_; clear n0_ n1_ n2_ n3_; clear hb hbox hg))
 (try simp only [Act.put, List.setIfInBounds_toArray, List.set_cons_zero, List.set_cons_succ])
 go_cut [12] (fun v12 wc => ∃ (kq : Nat) (x12_1 : Bool), v12 = .bool x12_1 ∧ Aside0 (timesyncref05_Of.j0 kq a0 x12_1 = some (r1, r2, r3, r4, r5, r6, r7, r8)) ∧ Aside0 (kq ≤ k) ∧ Aside0 (wc.heap[gb227]? = some (.cells #[.int .i64 0, .int .i64 0, .int .i64 0, .int .i64 0, .int .i64 0, .int .i64 0, .int .i64 0] 48 (0, 0))) ∧ Aside0 (Below w.heap.size w wc))
 case first =>
  have H := HC2.out
  clear HC2
  by_cases c4 : a0 < (-8000000000)
  ·rw [if_pos c4] at H
   have c4b0 : decide (a0 < (-8000000000)) = true := decide_eq_true c4
   clear c4
   (first | rw [c4b0] | (simp only [i64_w, i32_w]; rw [c4b0]) | skip)
   have H' := Aside0.mk H
   clear H
   go_wp2
   go_meet
   case rel => exact ⟨_, (true), (by first | rfl | (simp; done) | (simp [*]; done)), H', ⟨by first | omega | exact Nat.le_refl _⟩, ⟨by (with_reducible repeat (first | refine blk_drewN ?_ _ | refine blk_drew ?_ | refine blk_alloc ?_ _)); exact BK227.out⟩, ⟨by repeat (first | (with_reducible first | exact HB.out | apply below_alloc | apply pw_below_drewN | apply below_drew1 | refine below_set ?_ GE227.out) | exact HB.out)⟩⟩
  ·rw [if_neg c4] at H
   have c4b0 : decide (a0 < (-8000000000)) = false := decide_eq_false c4
   clear c4
   (first | rw [c4b0] | (simp only [i64_w, i32_w]; rw [c4b0]) | skip)
   have H' := Aside0.mk H
   clear H
   go_wp2
   go_meet
   case rel => exact ⟨_, (decide (a0 > 8000000000)), (by first | rfl | (simp; done) | (simp [*]; done)), H', ⟨by first | omega | exact Nat.le_refl _⟩, ⟨by (with_reducible repeat (first | refine blk_drewN ?_ _ | refine blk_drew ?_ | refine blk_alloc ?_ _)); exact BK227.out⟩, ⟨by repeat (first | (with_reducible first | exact HB.out | apply below_alloc | apply pw_below_drewN | apply below_drew1 | refine below_set ?_ GE227.out) | exact HB.out)⟩⟩
 case rest =>
  clear HC2
  try clear p2
  try clear c4
  try clear c4b0
  obtain ⟨kq, x12_1, rfl, HA, HJ1, BK227, HB⟩ := hcut
  cases kq with
  | zero => exact absurd HA.out (by simp [timesyncref05_Of.j0])
  | succ kj1 =>
   have H := HA.out
   clear HA
   simp only [timesyncref05_Of.j0] at H
   by_cases c5 : x12_1 = true
   ·subst c5
    have H1 : (some (0, 0, 0, 0, 0, 0, 0, 3)) = some (r1, r2, r3, r4, r5, r6, r7, r8) := by rw [if_pos rfl] at H; exact H
    clear H
    have H := H1
    clear H1
    simp only [Option.some.injEq, Prod.mk.injEq] at H
    obtain ⟨rfl, rfl, rfl, rfl, rfl, rfl, rfl, rfl⟩ := H
    have hcz6_0 : wc.cell? ⟨gb227, 0, none⟩ = some (.int .i64 0) := (blk_cell BK227.out 0).trans rfl
    have hcz6_1 : wc.cell? ⟨gb227, 1, none⟩ = some (.int .i64 0) := (blk_cell BK227.out 1).trans rfl
    have hcz6_2 : wc.cell? ⟨gb227, 2, none⟩ = some (.int .i64 0) := (blk_cell BK227.out 2).trans rfl
    have hcz6_3 : wc.cell? ⟨gb227, 3, none⟩ = some (.int .i64 0) := (blk_cell BK227.out 3).trans rfl
    have hcz6_4 : wc.cell? ⟨gb227, 4, none⟩ = some (.int .i64 0) := (blk_cell BK227.out 4).trans rfl
    have hcz6_5 : wc.cell? ⟨gb227, 5, none⟩ = some (.int .i64 0) := (blk_cell BK227.out 5).trans rfl
    have hcz6_6 : wc.cell? ⟨gb227, 6, none⟩ = some (.int .i64 0) := (blk_cell BK227.out 6).trans rfl
    have hfz6_0 := blk_frozen BK227.out 0
    have hfz6_1 := blk_frozen BK227.out 1
    have hfz6_2 := blk_frozen BK227.out 2
    have hfz6_3 := blk_frozen BK227.out 3
    have hfz6_4 := blk_frozen BK227.out 4
    have hfz6_5 := blk_frozen BK227.out 5
    have hfz6_6 := blk_frozen BK227.out 6
    go_wp2
    refine bodyPost_ret (results_ct rfl _ _ gb227 48 #[.int .i64 0, .int .i64 0, .int .i64 0, .int .i64 0, .int .i64 0, .int .i64 0, .int .i64 0] (0, 0) _ rfl (by (with_reducible repeat (first | refine blk_drewN ?_ _ | refine blk_drew ?_ | refine blk_alloc ?_ _)); refine blk_put (cs := #[.int .i64 0, .int .i64 0, .int .i64 0, .int .i64 0, .int .i64 0, .int .i64 0, .int .i64 0]) ?_ 6 _ rfl; (with_reducible repeat (first | refine blk_drewN ?_ _ | refine blk_drew ?_ | refine blk_alloc ?_ _)); refine blk_put (cs := #[.int .i64 0, .int .i64 0, .int .i64 0, .int .i64 0, .int .i64 0, .int .i64 0, .int .i64 0]) ?_ 5 _ rfl; (with_reducible repeat (first | refine blk_drewN ?_ _ | refine blk_drew ?_ | refine blk_alloc ?_ _)); refine blk_put (cs := #[.int .i64 0, .int .i64 0, .int .i64 0, .int .i64 0, .int .i64 0, .int .i64 0, .int .i64 0]) ?_ 4 _ rfl; (with_reducible repeat (first | refine blk_drewN ?_ _ | refine blk_drew ?_ | refine blk_alloc ?_ _)); refine blk_put (cs := #[.int .i64 0, .int .i64 0, .int .i64 0, .int .i64 0, .int .i64 0, .int .i64 0, .int .i64 0]) ?_ 3 _ rfl; (with_reducible repeat (first | refine blk_drewN ?_ _ | refine blk_drew ?_ | refine blk_alloc ?_ _)); refine blk_put (cs := #[.int .i64 0, .int .i64 0, .int .i64 0, .int .i64 0, .int .i64 0, .int .i64 0, .int .i64 0]) ?_ 2 _ rfl; (with_reducible repeat (first | refine blk_drewN ?_ _ | refine blk_drew ?_ | refine blk_alloc ?_ _)); refine blk_put (cs := #[.int .i64 0, .int .i64 0, .int .i64 0, .int .i64 0, .int .i64 0, .int .i64 0, .int .i64 0]) ?_ 1 _ rfl; (with_reducible repeat (first | refine blk_drewN ?_ _ | refine blk_drew ?_ | refine blk_alloc ?_ _)); refine blk_put (cs := #[.int .i64 0, .int .i64 0, .int .i64 0, .int .i64 0, .int .i64 0, .int .i64 0, .int .i64 0]) ?_ 0 _ rfl; (with_reducible repeat (first | refine blk_drewN ?_ _ | refine blk_drew ?_ | refine blk_alloc ?_ _)); exact BK227.out) Tryd.underlying48 rfl (by kernel_rfl)) rfl ?_
    exact ⟨by first | rfl | (simp [errW_none, errW_some] <;> rfl) | (simp [*, errW_none, errW_some] <;> rfl), by repeat (first | (with_reducible first | exact HB.out | apply below_alloc | apply pw_below_drewN | apply below_drew1 | refine below_set ?_ GE227.out) | exact HB.out)⟩
   ·replace c5 := Bool.eq_false_iff.mpr c5
    subst c5
    have H1 : ((timesyncref05_dayOf.f kj1 a0).bind fun t228 => (timesyncref05_Of.l0 kj1 t228 1900 1 0 (wrap64 (Int.tdiv (wrap64 (a0 - (wrap64 (t228 * 86400)))) 3600)) (Int.tmod (wrap64 (Int.tdiv (wrap64 (a0 - (wrap64 (t228 * 86400)))) 60)) 60) (Int.tmod (wrap64 (a0 - (wrap64 (t228 * 86400)))) 60) 0)) = some (r1, r2, r3, r4, r5, r6, r7, r8) := by rw [if_neg (show ¬ (false = true) by decide)] at H; exact H
    clear H
    have H := H1
    clear H1
    replace H := Option.bind_eq_some_iff.mp H
    obtain ⟨t228, A70, H⟩ := H
    replace H : (timesyncref05_Of.l0 kj1 t228 1900 1 0 (wrap64 (Int.tdiv (wrap64 (a0 - (wrap64 (t228 * 86400)))) 3600)) (Int.tmod (wrap64 (Int.tdiv (wrap64 (a0 - (wrap64 (t228 * 86400)))) 60)) 60) (Int.tmod (wrap64 (a0 - (wrap64 (t228 * 86400)))) 60) 0) = some (r1, r2, r3, r4, r5, r6, r7, r8) := H
    have A7 := Aside0.mk A70
    clear A70
    have H' := Aside0.mk H
    clear H
    go_wp2_with (first | ((with_reducible refine gate_callee (f := 53) rfl ?_); refine goesL_ (some 15) rfl rfl Tryd.func53 (by kernel_rfl) rfl #[.int .i64 a0] rfl (by (try simp only [List.map_toArray, List.map_cons, List.map_nil]); first | done | rfl | (simp only [List.length_drop, List.length_take]; rfl)) ?_; (with_reducible refine (timesyncref05_dayOf.calls kj1 a0 t228 _ A7.out).mono ?_); rintro e w' ⟨rfl, ⟨nd, rfl⟩⟩; refine ⟨_, rfl, ?_⟩; (try (rw [drewN_self wc]; generalize hq_ : World.drewN wc _ = wc; have n0_ : Aside0 (wc.heap[gb227]? = some (.cells #[.int .i64 0, .int .i64 0, .int .i64 0, .int .i64 0, .int .i64 0, .int .i64 0, .int .i64 0] 48 (0, 0))) := ⟨by rw [← hq_]; exact (by (with_reducible repeat (first | refine blk_drewN ?_ _ | refine blk_drew ?_ | refine blk_alloc ?_ _)); exact BK227.out)⟩; have n1_ : Aside0 (Below w.heap.size w wc) := ⟨by rw [← hq_]; exact (by repeat (first | (with_reducible first | exact HB.out | apply below_alloc | apply pw_below_drewN | apply below_drew1 | refine below_set ?_ GE227.out) | exact HB.out))⟩; clear BK227 HB hq_; have BK227 := n0_; have HB := n1_; clear n0_ n1_; have czqgb227_0 : wc.cell? ⟨gb227, 0, none⟩ = some (.int .i64 0) := (blk_cell BK227.out 0).trans rfl; have fzqgb227_0 := blk_frozen BK227.out 0; have czqgb227_1 : wc.cell? ⟨gb227, 1, none⟩ = some (.int .i64 0) := (blk_cell BK227.out 1).trans rfl; have fzqgb227_1 := blk_frozen BK227.out 1; have czqgb227_2 : wc.cell? ⟨gb227, 2, none⟩ = some (.int .i64 0) := (blk_cell BK227.out 2).trans rfl; have fzqgb227_2 := blk_frozen BK227.out 2; have czqgb227_3 : wc.cell? ⟨gb227, 3, none⟩ = some (.int .i64 0) := (blk_cell BK227.out 3).trans rfl; have fzqgb227_3 := blk_frozen BK227.out 3; have czqgb227_4 : wc.cell? ⟨gb227, 4, none⟩ = some (.int .i64 0) := (blk_cell BK227.out 4).trans rfl; have fzqgb227_4 := blk_frozen BK227.out 4; have czqgb227_5 : wc.cell? ⟨gb227, 5, none⟩ = some (.int .i64 0) := (blk_cell BK227.out 5).trans rfl; have fzqgb227_5 := blk_frozen BK227.out 5; have czqgb227_6 : wc.cell? ⟨gb227, 6, none⟩ = some (.int .i64 0) := (blk_cell BK227.out 6).trans rfl; have fzqgb227_6 := blk_frozen BK227.out 6))) | ((with_reducible refine gate_dst (N := 6) rfl ?_); refine box_event ?hg (N := 6) ?hd (cs := #[.int .i64 0, .int .i64 0, .int .i64 0, .int .i64 0, .int .i64 0, .int .i64 0, .int .i64 0]) (t := 48) ?hr ?_; (case hd => rfl); (case hg => rfl); (case hr => first | (go_simp; done) | (go_simp; rfl)); intro gb229 hg w8 hbox hb; have n0_ := Aside0.mk (blk_below (g := gb227) (o := .cells #[.int .i64 0, .int .i64 0, .int .i64 0, .int .i64 0, .int .i64 0, .int .i64 0, .int .i64 0] 48 (0, 0)) (by (with_reducible repeat (first | refine blk_drewN ?_ _ | refine blk_drew ?_ | refine blk_alloc ?_ _)); exact BK227.out) hb); have n1_ := Aside0.mk (below_step (by repeat (first | (with_reducible first | exact HB.out | apply below_alloc | apply pw_below_drewN | apply below_drew1 | refine below_set ?_ GE227.out) | exact HB.out)) hb); have n2_ := Aside0.mk (hbox); have n3_ := Aside0.mk ((by rw [hg]; exact (below_size (by repeat (first | (with_reducible first | exact HB.out | apply below_alloc | apply pw_below_drewN | apply below_drew1 | refine below_set ?_ GE227.out) | exact HB.out))) : w.heap.size ≤ gb229)); have n4_ := Aside0.mk ((by rw [hg]; exact (below_size (by repeat (first | (with_reducible first | exact HB.out | apply below_alloc | apply pw_below_drewN | apply below_drew1 | refine below_set ?_ GE227.out) | exact HB.out))) : w.heap.size ≤ gb229)); have n5_ := Aside0.mk ((by rw [hg]; exact Nat.ne_of_lt (blk_lt (g := gb227) (o := .cells #[.int .i64 0, .int .i64 0, .int .i64 0, .int .i64 0, .int .i64 0, .int .i64 0, .int .i64 0] 48 (0, 0)) (by (with_reducible repeat (first | refine blk_drewN ?_ _ | refine blk_drew ?_ | refine blk_alloc ?_ _)); exact BK227.out)) : gb227 ≠ gb229)); have n6_ := Aside0.mk ((by rw [hg]; exact Nat.ne_of_gt (blk_lt (g := gb227) (o := .cells #[.int .i64 0, .int .i64 0, .int .i64 0, .int .i64 0, .int .i64 0, .int .i64 0, .int .i64 0] 48 (0, 0)) (by (with_reducible repeat (first | refine blk_drewN ?_ _ | refine blk_drew ?_ | refine blk_alloc ?_ _)); exact BK227.out)) : gb229 ≠ gb227)); clear BK227; clear HB; have BK227 := n0_; have HB := n1_; have BK229 := n2_; have GW229 := n3_; have GE229 := n4_; have NB227_229 := n5_; have NB229_227 := n6_; clear n0_ n1_ n2_ n3_ n4_ n5_ n6_; clear hb hbox hg; have hnb9 := NB229_227.out; have hnc9 := NB227_229.out; have hcz10_0 : w8.cell? ⟨gb229, 0, none⟩ = some (.int .i64 0) := (blk_cell BK229.out 0).trans rfl; have hcz10_1 : w8.cell? ⟨gb229, 1, none⟩ = some (.int .i64 0) := (blk_cell BK229.out 1).trans rfl; have hcz10_2 : w8.cell? ⟨gb229, 2, none⟩ = some (.int .i64 0) := (blk_cell BK229.out 2).trans rfl; have hcz10_3 : w8.cell? ⟨gb229, 3, none⟩ = some (.int .i64 0) := (blk_cell BK229.out 3).trans rfl; have hcz10_4 : w8.cell? ⟨gb229, 4, none⟩ = some (.int .i64 0) := (blk_cell BK229.out 4).trans rfl; have hcz10_5 : w8.cell? ⟨gb229, 5, none⟩ = some (.int .i64 0) := (blk_cell BK229.out 5).trans rfl; have hcz10_6 : w8.cell? ⟨gb229, 6, none⟩ = some (.int .i64 0) := (blk_cell BK229.out 6).trans rfl; have hfz10_0 := blk_frozen BK229.out 0; have hfz10_1 := blk_frozen BK229.out 1; have hfz10_2 := blk_frozen BK229.out 2; have hfz10_3 := blk_frozen BK229.out 3; have hfz10_4 := blk_frozen BK229.out 4; have hfz10_5 := blk_frozen BK229.out 5; have hfz10_6 := blk_frozen BK229.out 6))
    go_loopg [4] kj1 (fun kq v4 w' => ∃ (x4_2 : Int) (x230000_2 : Int), v4 = .int .i64 x4_2 ∧ Aside0 (timesyncref05_Of.l0 kq x4_2 x230000_2 1 0 (wrap64 (Int.tdiv (wrap64 (a0 - (wrap64 (t228 * 86400)))) 3600)) (Int.tmod (wrap64 (Int.tdiv (wrap64 (a0 - (wrap64 (t228 * 86400)))) 60)) 60) (Int.tmod (wrap64 (a0 - (wrap64 (t228 * 86400)))) 60) 0 = some (r1, r2, r3, r4, r5, r6, r7, r8)) ∧ Aside0 (kq ≤ kj1) ∧ Aside0 (w'.heap[gb227]? = some (.cells #[.int .i64 0, .int .i64 0, .int .i64 0, .int .i64 0, .int .i64 0, .int .i64 0, .int .i64 0] 48 (0, 0))) ∧ Aside0 (w'.heap[gb229]? = some (.cells #[.int .i64 x230000_2, .int .i64 1, .int .i64 0, .int .i64 (wrap64 (Int.tdiv (wrap64 (a0 - (wrap64 (t228 * 86400)))) 3600)), .int .i64 (Int.tmod (wrap64 (Int.tdiv (wrap64 (a0 - (wrap64 (t228 * 86400)))) 60)) 60), .int .i64 (Int.tmod (wrap64 (a0 - (wrap64 (t228 * 86400)))) 60), .int .i64 0] 48 (0, 0))) ∧ Aside0 (Below w.heap.size w w'))
    case atStart => exact ⟨(t228), (1900), (by first | rfl | (simp; done) | (simp [*]; done)), H', ⟨Nat.le_refl _⟩, ⟨by (with_reducible repeat (first | refine blk_drewN ?_ _ | refine blk_drew ?_ | refine blk_alloc ?_ _)); refine blk_far ?_ NB227_229.out _; (with_reducible repeat (first | refine blk_drewN ?_ _ | refine blk_drew ?_ | refine blk_alloc ?_ _)); refine blk_far ?_ NB227_229.out _; (with_reducible repeat (first | refine blk_drewN ?_ _ | refine blk_drew ?_ | refine blk_alloc ?_ _)); refine blk_far ?_ NB227_229.out _; (with_reducible repeat (first | refine blk_drewN ?_ _ | refine blk_drew ?_ | refine blk_alloc ?_ _)); refine blk_far ?_ NB227_229.out _; (with_reducible repeat (first | refine blk_drewN ?_ _ | refine blk_drew ?_ | refine blk_alloc ?_ _)); refine blk_far ?_ NB227_229.out _; (with_reducible repeat (first | refine blk_drewN ?_ _ | refine blk_drew ?_ | refine blk_alloc ?_ _)); refine blk_far ?_ NB227_229.out _; (with_reducible repeat (first | refine blk_drewN ?_ _ | refine blk_drew ?_ | refine blk_alloc ?_ _)); refine blk_far ?_ NB227_229.out _; (with_reducible repeat (first | refine blk_drewN ?_ _ | refine blk_drew ?_ | refine blk_alloc ?_ _)); exact BK227.out⟩, ⟨by (with_reducible repeat (first | refine blk_drewN ?_ _ | refine blk_drew ?_ | refine blk_alloc ?_ _)); refine blk_put (cs := #[.int .i64 1900, .int .i64 1, .int .i64 0, .int .i64 (wrap64 (Int.tdiv (wrap64 (a0 - (wrap64 (t228 * 86400)))) 3600)), .int .i64 (Int.tmod (wrap64 (Int.tdiv (wrap64 (a0 - (wrap64 (t228 * 86400)))) 60)) 60), .int .i64 (Int.tmod (wrap64 (a0 - (wrap64 (t228 * 86400)))) 60), .int .i64 0]) ?_ 6 _ rfl; (with_reducible repeat (first | refine blk_drewN ?_ _ | refine blk_drew ?_ | refine blk_alloc ?_ _)); refine blk_put (cs := #[.int .i64 1900, .int .i64 1, .int .i64 0, .int .i64 (wrap64 (Int.tdiv (wrap64 (a0 - (wrap64 (t228 * 86400)))) 3600)), .int .i64 (Int.tmod (wrap64 (Int.tdiv (wrap64 (a0 - (wrap64 (t228 * 86400)))) 60)) 60), .int .i64 0, .int .i64 0]) ?_ 5 _ rfl; (with_reducible repeat (first | refine blk_drewN ?_ _ | refine blk_drew ?_ | refine blk_alloc ?_ _)); refine blk_put (cs := #[.int .i64 1900, .int .i64 1, .int .i64 0, .int .i64 (wrap64 (Int.tdiv (wrap64 (a0 - (wrap64 (t228 * 86400)))) 3600)), .int .i64 0, .int .i64 0, .int .i64 0]) ?_ 4 _ rfl; (with_reducible repeat (first | refine blk_drewN ?_ _ | refine blk_drew ?_ | refine blk_alloc ?_ _)); refine blk_put (cs := #[.int .i64 1900, .int .i64 1, .int .i64 0, .int .i64 0, .int .i64 0, .int .i64 0, .int .i64 0]) ?_ 3 _ rfl; (with_reducible repeat (first | refine blk_drewN ?_ _ | refine blk_drew ?_ | refine blk_alloc ?_ _)); refine blk_put (cs := #[.int .i64 1900, .int .i64 1, .int .i64 0, .int .i64 0, .int .i64 0, .int .i64 0, .int .i64 0]) ?_ 2 _ rfl; (with_reducible repeat (first | refine blk_drewN ?_ _ | refine blk_drew ?_ | refine blk_alloc ?_ _)); refine blk_put (cs := #[.int .i64 1900, .int .i64 0, .int .i64 0, .int .i64 0, .int .i64 0, .int .i64 0, .int .i64 0]) ?_ 1 _ rfl; (with_reducible repeat (first | refine blk_drewN ?_ _ | refine blk_drew ?_ | refine blk_alloc ?_ _)); refine blk_put (cs := #[.int .i64 0, .int .i64 0, .int .i64 0, .int .i64 0, .int .i64 0, .int .i64 0, .int .i64 0]) ?_ 0 _ rfl; (with_reducible repeat (first | refine blk_drewN ?_ _ | refine blk_drew ?_ | refine blk_alloc ?_ _)); exact BK229.out⟩, ⟨by repeat (first | (with_reducible first | exact HB.out | apply below_alloc | apply pw_below_drewN | apply below_drew1 | refine below_set ?_ GE227.out | refine below_set ?_ GE229.out) | exact HB.out)⟩⟩
    case round =>
     clear H'
     try clear p2
     try clear c4
     try clear c4b0
     try clear c5
     try clear p6
     try clear c9
     try clear hcz10_0
     try clear hcz10_1
     try clear hcz10_2
     try clear hcz10_3
     try clear hcz10_4
     try clear hcz10_5
     try clear hcz10_6
     try clear hcz6_0
     try clear hcz6_1
     try clear hcz6_2
     try clear hcz6_3
     try clear hcz6_4
     try clear hcz6_5
     try clear hcz6_6
     try clear hfz10_0
     try clear hfz10_1
     try clear hfz10_2
     try clear hfz10_3
     try clear hfz10_4
     try clear hfz10_5
     try clear hfz10_6
     try clear hfz6_0
     try clear hfz6_1
     try clear hfz6_2
     try clear hfz6_3
     try clear hfz6_4
     try clear hfz6_5
     try clear hfz6_6
     try clear p2
     obtain ⟨x4_2, x230000_2, rfl, HA, HK2, BK227, BK229, HB⟩ := hrel
     cases gk with
     | zero => exact absurd HA.out (by simp [timesyncref05_Of.l0])
     | succ k2 =>
      have H := HA.out
      clear HA
      simp only [timesyncref05_Of.l0] at H
      by_cases c11 : x4_2 < 0
      ·rw [if_pos c11] at H
       have c11b0 : decide (x4_2 < 0) = true := decide_eq_true c11
       clear c11
       replace H := Option.bind_eq_some_iff.mp H
       obtain ⟨t230, A120, H⟩ := H
       replace H : (timesyncref05_Of.l0 k2 (wrap64 (x4_2 + t230)) (wrap64 (x230000_2 - 1)) 1 0 (wrap64 (Int.tdiv (wrap64 (a0 - (wrap64 (t228 * 86400)))) 3600)) (Int.tmod (wrap64 (Int.tdiv (wrap64 (a0 - (wrap64 (t228 * 86400)))) 60)) 60) (Int.tmod (wrap64 (a0 - (wrap64 (t228 * 86400)))) 60) 0) = some (r1, r2, r3, r4, r5, r6, r7, r8) := H
       have A12 := Aside0.mk A120
       clear A120
       have H' := Aside0.mk H
       clear H
       have hnb13 := NB229_227.out
       have hnc13 := NB227_229.out
       have hcz14_0 : wr.cell? ⟨gb229, 0, none⟩ = some (.int .i64 x230000_2) := (blk_cell BK229.out 0).trans rfl
       have hcz14_1 : wr.cell? ⟨gb229, 1, none⟩ = some (.int .i64 1) := (blk_cell BK229.out 1).trans rfl
       have hcz14_2 : wr.cell? ⟨gb229, 2, none⟩ = some (.int .i64 0) := (blk_cell BK229.out 2).trans rfl
       have hcz14_3 : wr.cell? ⟨gb229, 3, none⟩ = some (.int .i64 (wrap64 (Int.tdiv (wrap64 (a0 - (wrap64 (t228 * 86400)))) 3600))) := (blk_cell BK229.out 3).trans rfl
       have hcz14_4 : wr.cell? ⟨gb229, 4, none⟩ = some (.int .i64 (Int.tmod (wrap64 (Int.tdiv (wrap64 (a0 - (wrap64 (t228 * 86400)))) 60)) 60)) := (blk_cell BK229.out 4).trans rfl
       have hcz14_5 : wr.cell? ⟨gb229, 5, none⟩ = some (.int .i64 (Int.tmod (wrap64 (a0 - (wrap64 (t228 * 86400)))) 60)) := (blk_cell BK229.out 5).trans rfl
       have hcz14_6 : wr.cell? ⟨gb229, 6, none⟩ = some (.int .i64 0) := (blk_cell BK229.out 6).trans rfl
       have hfz14_0 := blk_frozen BK229.out 0
       have hfz14_1 := blk_frozen BK229.out 1
       have hfz14_2 := blk_frozen BK229.out 2
       have hfz14_3 := blk_frozen BK229.out 3
       have hfz14_4 := blk_frozen BK229.out 4
       have hfz14_5 := blk_frozen BK229.out 5
       have hfz14_6 := blk_frozen BK229.out 6
       go_wp2_with (first | ((with_reducible refine gate_callee (f := 54) rfl ?_); refine goesL_ (some 37) rfl rfl Tryd.func54 (by kernel_rfl) rfl #[.int .i64 (wrap64 (x230000_2 - 1))] rfl (by (try simp only [List.map_toArray, List.map_cons, List.map_nil]); first | done | rfl | (exact congrArg (fun z_ : Int => #[.int .i64 z_]) (show (x230000_2 - 1) = wrap64 (x230000_2 - 1) from by unfold wrap64; omega)) | (simp only [List.length_drop, List.length_take]; rfl)) ?_; (with_reducible refine (timesyncref05_yearDays.calls (wrap64 (x230000_2 - 1)) t230 _ A12.out).mono ?_); rintro e w' ⟨rfl, ⟨nd, rfl⟩⟩; refine ⟨_, rfl, ?_⟩))
       go_roundg k2
       case measure => have := HJ1.out; have := HK2.out; omega
       case rel => exact ⟨(wrap64 (x4_2 + t230)), (wrap64 (x230000_2 - 1)), (by first | rfl | (simp; done) | (simp [*]; done)), H', ⟨by have := HJ1.out; have := HK2.out; omega⟩, ⟨by (with_reducible repeat (first | refine blk_drewN ?_ _ | refine blk_drew ?_ | refine blk_alloc ?_ _)); refine blk_far ?_ NB227_229.out _; (with_reducible repeat (first | refine blk_drewN ?_ _ | refine blk_drew ?_ | refine blk_alloc ?_ _)); exact BK227.out⟩, ⟨by (with_reducible repeat (first | refine blk_drewN ?_ _ | refine blk_drew ?_ | refine blk_alloc ?_ _)); refine blk_put (cs := #[.int .i64 x230000_2, .int .i64 1, .int .i64 0, .int .i64 (wrap64 (Int.tdiv (wrap64 (a0 - (wrap64 (t228 * 86400)))) 3600)), .int .i64 (Int.tmod (wrap64 (Int.tdiv (wrap64 (a0 - (wrap64 (t228 * 86400)))) 60)) 60), .int .i64 (Int.tmod (wrap64 (a0 - (wrap64 (t228 * 86400)))) 60), .int .i64 0]) ?_ 0 _ rfl; (with_reducible repeat (first | refine blk_drewN ?_ _ | refine blk_drew ?_ | refine blk_alloc ?_ _)); exact BK229.out⟩, ⟨by repeat (first | (with_reducible first | exact HB.out | apply below_alloc | apply pw_below_drewN | apply below_drew1 | refine below_set ?_ GE227.out | refine below_set ?_ GE229.out) | exact HB.out)⟩⟩
      ·rw [if_neg c11] at H
       have c11b0 : decide (x4_2 < 0) = false := decide_eq_false c11
       clear c11
       have H' := Aside0.mk H
       clear H
       go_wp2
       go_loopg [4] k2 (fun kq v4 w' => ∃ (x4_3 : Int) (x230000_3 : Int), v4 = .int .i64 x4_3 ∧ Aside0 (timesyncref05_Of.l1 kq x4_3 x230000_3 1 0 (wrap64 (Int.tdiv (wrap64 (a0 - (wrap64 (t228 * 86400)))) 3600)) (Int.tmod (wrap64 (Int.tdiv (wrap64 (a0 - (wrap64 (t228 * 86400)))) 60)) 60) (Int.tmod (wrap64 (a0 - (wrap64 (t228 * 86400)))) 60) 0 = some (r1, r2, r3, r4, r5, r6, r7, r8)) ∧ Aside0 (kq ≤ k2) ∧ Aside0 (w'.heap[gb227]? = some (.cells #[.int .i64 0, .int .i64 0, .int .i64 0, .int .i64 0, .int .i64 0, .int .i64 0, .int .i64 0] 48 (0, 0))) ∧ Aside0 (w'.heap[gb229]? = some (.cells #[.int .i64 x230000_3, .int .i64 1, .int .i64 0, .int .i64 (wrap64 (Int.tdiv (wrap64 (a0 - (wrap64 (t228 * 86400)))) 3600)), .int .i64 (Int.tmod (wrap64 (Int.tdiv (wrap64 (a0 - (wrap64 (t228 * 86400)))) 60)) 60), .int .i64 (Int.tmod (wrap64 (a0 - (wrap64 (t228 * 86400)))) 60), .int .i64 0] 48 (0, 0))) ∧ Aside0 (Below w.heap.size w w'))
       case atStart => exact ⟨(x4_2), (x230000_2), (by first | rfl | (simp; done) | (simp [*]; done)), H', ⟨Nat.le_refl _⟩, ⟨by (with_reducible repeat (first | refine blk_drewN ?_ _ | refine blk_drew ?_ | refine blk_alloc ?_ _)); exact BK227.out⟩, ⟨by (with_reducible repeat (first | refine blk_drewN ?_ _ | refine blk_drew ?_ | refine blk_alloc ?_ _)); exact BK229.out⟩, ⟨by repeat (first | (with_reducible first | exact HB.out | apply below_alloc | apply pw_below_drewN | apply below_drew1 | refine below_set ?_ GE227.out | refine below_set ?_ GE229.out) | exact HB.out)⟩⟩
       case round =>
        clear H'
        try clear c1
        try clear p2
        try clear c4
        try clear c4b0
        try clear c5
        try clear p6
        try clear c9
        try clear c11
        try clear c11b0
        try clear c13
        try clear hcz10_0
        try clear hcz10_1
        try clear hcz10_2
        try clear hcz10_3
        try clear hcz10_4
        try clear hcz10_5
        try clear hcz10_6
        try clear hcz14_0
        try clear hcz14_1
        try clear hcz14_2
        try clear hcz14_3
        try clear hcz14_4
        try clear hcz14_5
        try clear hcz14_6
        try clear hcz6_0
        try clear hcz6_1
        try clear hcz6_2
        try clear hcz6_3
        try clear hcz6_4
        try clear hcz6_5
        try clear hcz6_6
        try clear hfz10_0
        try clear hfz10_1
        try clear hfz10_2
        try clear hfz10_3
        try clear hfz10_4
        try clear hfz10_5
        try clear hfz10_6
        try clear hfz14_0
        try clear hfz14_1
        try clear hfz14_2
        try clear hfz14_3
        try clear hfz14_4
        try clear hfz14_5
        try clear hfz14_6
        try clear hfz6_0
        try clear hfz6_1
        try clear hfz6_2
        try clear hfz6_3
        try clear hfz6_4
        try clear hfz6_5
        try clear hfz6_6
        try clear p2
        try clear p6
        obtain ⟨x4_3, x230000_3, rfl, HA, HK3, BK227, BK229, HB⟩ := hrel
        cases gk with
        | zero => exact absurd HA.out (by simp [timesyncref05_Of.l1])
        | succ k3 =>
         have H := HA.out
         clear HA
         simp only [timesyncref05_Of.l1] at H
         replace H := Option.bind_eq_some_iff.mp H
         obtain ⟨t231, A150, H⟩ := H
         replace H : (if x4_3 ≥ t231 then ((timesyncref05_yearDays.f x230000_3).bind fun t232 => (timesyncref05_Of.l1 k3 (wrap64 (x4_3 - t232)) (wrap64 (x230000_3 + 1)) 1 0 (wrap64 (Int.tdiv (wrap64 (a0 - (wrap64 (t228 * 86400)))) 3600)) (Int.tmod (wrap64 (Int.tdiv (wrap64 (a0 - (wrap64 (t228 * 86400)))) 60)) 60) (Int.tmod (wrap64 (a0 - (wrap64 (t228 * 86400)))) 60) 0)) else (timesyncref05_Of.l2 k3 x4_3 x230000_3 1 0 (wrap64 (Int.tdiv (wrap64 (a0 - (wrap64 (t228 * 86400)))) 3600)) (Int.tmod (wrap64 (Int.tdiv (wrap64 (a0 - (wrap64 (t228 * 86400)))) 60)) 60) (Int.tmod (wrap64 (a0 - (wrap64 (t228 * 86400)))) 60) 0)) = some (r1, r2, r3, r4, r5, r6, r7, r8) := H
         have A15 := Aside0.mk A150
         clear A150
         by_cases c16 : x4_3 ≥ t231
         ·rw [if_pos c16] at H
          have c16b0 : decide (t231 ≤ x4_3) = true := decide_eq_true c16
          clear c16
          replace H := Option.bind_eq_some_iff.mp H
          obtain ⟨t232, A170, H⟩ := H
          replace H : (timesyncref05_Of.l1 k3 (wrap64 (x4_3 - t232)) (wrap64 (x230000_3 + 1)) 1 0 (wrap64 (Int.tdiv (wrap64 (a0 - (wrap64 (t228 * 86400)))) 3600)) (Int.tmod (wrap64 (Int.tdiv (wrap64 (a0 - (wrap64 (t228 * 86400)))) 60)) 60) (Int.tmod (wrap64 (a0 - (wrap64 (t228 * 86400)))) 60) 0) = some (r1, r2, r3, r4, r5, r6, r7, r8) := H
          have A17 := Aside0.mk A170
          clear A170
          have H' := Aside0.mk H
          clear H
          have hnb18 := NB229_227.out
          have hnc18 := NB227_229.out
          have hcz19_0 : wr.cell? ⟨gb229, 0, none⟩ = some (.int .i64 x230000_3) := (blk_cell BK229.out 0).trans rfl
          have hcz19_1 : wr.cell? ⟨gb229, 1, none⟩ = some (.int .i64 1) := (blk_cell BK229.out 1).trans rfl
          have hcz19_2 : wr.cell? ⟨gb229, 2, none⟩ = some (.int .i64 0) := (blk_cell BK229.out 2).trans rfl
          have hcz19_3 : wr.cell? ⟨gb229, 3, none⟩ = some (.int .i64 (wrap64 (Int.tdiv (wrap64 (a0 - (wrap64 (t228 * 86400)))) 3600))) := (blk_cell BK229.out 3).trans rfl
          have hcz19_4 : wr.cell? ⟨gb229, 4, none⟩ = some (.int .i64 (Int.tmod (wrap64 (Int.tdiv (wrap64 (a0 - (wrap64 (t228 * 86400)))) 60)) 60)) := (blk_cell BK229.out 4).trans rfl
          have hcz19_5 : wr.cell? ⟨gb229, 5, none⟩ = some (.int .i64 (Int.tmod (wrap64 (a0 - (wrap64 (t228 * 86400)))) 60)) := (blk_cell BK229.out 5).trans rfl
          have hcz19_6 : wr.cell? ⟨gb229, 6, none⟩ = some (.int .i64 0) := (blk_cell BK229.out 6).trans rfl
          have hfz19_0 := blk_frozen BK229.out 0
          have hfz19_1 := blk_frozen BK229.out 1
          have hfz19_2 := blk_frozen BK229.out 2
          have hfz19_3 := blk_frozen BK229.out 3
          have hfz19_4 := blk_frozen BK229.out 4
          have hfz19_5 := blk_frozen BK229.out 5
          have hfz19_6 := blk_frozen BK229.out 6
          go_wp2_with (first | ((with_reducible refine gate_callee (f := 54) rfl ?_); refine goesL_ (some 42) rfl rfl Tryd.func54 (by kernel_rfl) rfl #[.int .i64 x230000_3] rfl (by (try simp only [List.map_toArray, List.map_cons, List.map_nil]); first | done | rfl | (simp only [List.length_drop, List.length_take]; rfl)) ?_; (with_reducible refine (timesyncref05_yearDays.calls x230000_3 t231 _ A15.out).mono ?_); rintro e w' ⟨rfl, ⟨nd, rfl⟩⟩; refine ⟨_, rfl, ?_⟩; (try (rw [drewN_self wr]; generalize hq_ : World.drewN wr _ = wr; have n0_ : Aside0 (wr.heap[gb227]? = some (.cells #[.int .i64 0, .int .i64 0, .int .i64 0, .int .i64 0, .int .i64 0, .int .i64 0, .int .i64 0] 48 (0, 0))) := ⟨by rw [← hq_]; exact (by (with_reducible repeat (first | refine blk_drewN ?_ _ | refine blk_drew ?_ | refine blk_alloc ?_ _)); exact BK227.out)⟩; have n1_ : Aside0 (wr.heap[gb229]? = some (.cells #[.int .i64 x230000_3, .int .i64 1, .int .i64 0, .int .i64 (wrap64 (Int.tdiv (wrap64 (a0 - (wrap64 (t228 * 86400)))) 3600)), .int .i64 (Int.tmod (wrap64 (Int.tdiv (wrap64 (a0 - (wrap64 (t228 * 86400)))) 60)) 60), .int .i64 (Int.tmod (wrap64 (a0 - (wrap64 (t228 * 86400)))) 60), .int .i64 0] 48 (0, 0))) := ⟨by rw [← hq_]; exact (by (with_reducible repeat (first | refine blk_drewN ?_ _ | refine blk_drew ?_ | refine blk_alloc ?_ _)); exact BK229.out)⟩; have n2_ : Aside0 (Below w.heap.size w wr) := ⟨by rw [← hq_]; exact (by repeat (first | (with_reducible first | exact HB.out | apply below_alloc | apply pw_below_drewN | apply below_drew1 | refine below_set ?_ GE227.out | refine below_set ?_ GE229.out) | exact HB.out))⟩; clear BK227 BK229 HB hq_; have BK227 := n0_; have BK229 := n1_; have HB := n2_; clear n0_ n1_ n2_; have czqgb227_0 : wr.cell? ⟨gb227, 0, none⟩ = some (.int .i64 0) := (blk_cell BK227.out 0).trans rfl; have fzqgb227_0 := blk_frozen BK227.out 0; have czqgb227_1 : wr.cell? ⟨gb227, 1, none⟩ = some (.int .i64 0) := (blk_cell BK227.out 1).trans rfl; have fzqgb227_1 := blk_frozen BK227.out 1; have czqgb227_2 : wr.cell? ⟨gb227, 2, none⟩ = some (.int .i64 0) := (blk_cell BK227.out 2).trans rfl; have fzqgb227_2 := blk_frozen BK227.out 2; have czqgb227_3 : wr.cell? ⟨gb227, 3, none⟩ = some (.int .i64 0) := (blk_cell BK227.out 3).trans rfl; have fzqgb227_3 := blk_frozen BK227.out 3; have czqgb227_4 : wr.cell? ⟨gb227, 4, none⟩ = some (.int .i64 0) := (blk_cell BK227.out 4).trans rfl; have fzqgb227_4 := blk_frozen BK227.out 4; have czqgb227_5 : wr.cell? ⟨gb227, 5, none⟩ = some (.int .i64 0) := (blk_cell BK227.out 5).trans rfl; have fzqgb227_5 := blk_frozen BK227.out 5; have czqgb227_6 : wr.cell? ⟨gb227, 6, none⟩ = some (.int .i64 0) := (blk_cell BK227.out 6).trans rfl; have fzqgb227_6 := blk_frozen BK227.out 6; have czqgb229_0 : wr.cell? ⟨gb229, 0, none⟩ = some (.int .i64 x230000_3) := (blk_cell BK229.out 0).trans rfl; have fzqgb229_0 := blk_frozen BK229.out 0; have czqgb229_1 : wr.cell? ⟨gb229, 1, none⟩ = some (.int .i64 1) := (blk_cell BK229.out 1).trans rfl; have fzqgb229_1 := blk_frozen BK229.out 1; have czqgb229_2 : wr.cell? ⟨gb229, 2, none⟩ = some (.int .i64 0) := (blk_cell BK229.out 2).trans rfl; have fzqgb229_2 := blk_frozen BK229.out 2; have czqgb229_3 : wr.cell? ⟨gb229, 3, none⟩ = some (.int .i64 (wrap64 (Int.tdiv (wrap64 (a0 - (wrap64 (t228 * 86400)))) 3600))) := (blk_cell BK229.out 3).trans rfl; have fzqgb229_3 := blk_frozen BK229.out 3; have czqgb229_4 : wr.cell? ⟨gb229, 4, none⟩ = some (.int .i64 (Int.tmod (wrap64 (Int.tdiv (wrap64 (a0 - (wrap64 (t228 * 86400)))) 60)) 60)) := (blk_cell BK229.out 4).trans rfl; have fzqgb229_4 := blk_frozen BK229.out 4; have czqgb229_5 : wr.cell? ⟨gb229, 5, none⟩ = some (.int .i64 (Int.tmod (wrap64 (a0 - (wrap64 (t228 * 86400)))) 60)) := (blk_cell BK229.out 5).trans rfl; have fzqgb229_5 := blk_frozen BK229.out 5; have czqgb229_6 : wr.cell? ⟨gb229, 6, none⟩ = some (.int .i64 0) := (blk_cell BK229.out 6).trans rfl; have fzqgb229_6 := blk_frozen BK229.out 6))) | ((with_reducible refine gate_callee (f := 54) rfl ?_); refine goesL_ (some 47) rfl rfl Tryd.func54 (by kernel_rfl) rfl #[.int .i64 x230000_3] rfl (by (try simp only [List.map_toArray, List.map_cons, List.map_nil]); first | done | rfl | (simp only [List.length_drop, List.length_take]; rfl)) ?_; (with_reducible refine (timesyncref05_yearDays.calls x230000_3 t232 _ A17.out).mono ?_); rintro e w' ⟨rfl, ⟨nd, rfl⟩⟩; refine ⟨_, rfl, ?_⟩; (try (rw [drewN_self wr]; generalize hq_ : World.drewN wr _ = wr; have n0_ : Aside0 (wr.heap[gb227]? = some (.cells #[.int .i64 0, .int .i64 0, .int .i64 0, .int .i64 0, .int .i64 0, .int .i64 0, .int .i64 0] 48 (0, 0))) := ⟨by rw [← hq_]; exact (by (with_reducible repeat (first | refine blk_drewN ?_ _ | refine blk_drew ?_ | refine blk_alloc ?_ _)); exact BK227.out)⟩; have n1_ : Aside0 (wr.heap[gb229]? = some (.cells #[.int .i64 x230000_3, .int .i64 1, .int .i64 0, .int .i64 (wrap64 (Int.tdiv (wrap64 (a0 - (wrap64 (t228 * 86400)))) 3600)), .int .i64 (Int.tmod (wrap64 (Int.tdiv (wrap64 (a0 - (wrap64 (t228 * 86400)))) 60)) 60), .int .i64 (Int.tmod (wrap64 (a0 - (wrap64 (t228 * 86400)))) 60), .int .i64 0] 48 (0, 0))) := ⟨by rw [← hq_]; exact (by (with_reducible repeat (first | refine blk_drewN ?_ _ | refine blk_drew ?_ | refine blk_alloc ?_ _)); exact BK229.out)⟩; have n2_ : Aside0 (Below w.heap.size w wr) := ⟨by rw [← hq_]; exact (by repeat (first | (with_reducible first | exact HB.out | apply below_alloc | apply pw_below_drewN | apply below_drew1 | refine below_set ?_ GE227.out | refine below_set ?_ GE229.out) | exact HB.out))⟩; clear BK227 BK229 HB hq_; have BK227 := n0_; have BK229 := n1_; have HB := n2_; clear n0_ n1_ n2_; have czqgb227_0 : wr.cell? ⟨gb227, 0, none⟩ = some (.int .i64 0) := (blk_cell BK227.out 0).trans rfl; have fzqgb227_0 := blk_frozen BK227.out 0; have czqgb227_1 : wr.cell? ⟨gb227, 1, none⟩ = some (.int .i64 0) := (blk_cell BK227.out 1).trans rfl; have fzqgb227_1 := blk_frozen BK227.out 1; have czqgb227_2 : wr.cell? ⟨gb227, 2, none⟩ = some (.int .i64 0) := (blk_cell BK227.out 2).trans rfl; have fzqgb227_2 := blk_frozen BK227.out 2; have czqgb227_3 : wr.cell? ⟨gb227, 3, none⟩ = some (.int .i64 0) := (blk_cell BK227.out 3).trans rfl; have fzqgb227_3 := blk_frozen BK227.out 3; have czqgb227_4 : wr.cell? ⟨gb227, 4, none⟩ = some (.int .i64 0) := (blk_cell BK227.out 4).trans rfl; have fzqgb227_4 := blk_frozen BK227.out 4; have czqgb227_5 : wr.cell? ⟨gb227, 5, none⟩ = some (.int .i64 0) := (blk_cell BK227.out 5).trans rfl; have fzqgb227_5 := blk_frozen BK227.out 5; have czqgb227_6 : wr.cell? ⟨gb227, 6, none⟩ = some (.int .i64 0) := (blk_cell BK227.out 6).trans rfl; have fzqgb227_6 := blk_frozen BK227.out 6; have czqgb229_0 : wr.cell? ⟨gb229, 0, none⟩ = some (.int .i64 x230000_3) := (blk_cell BK229.out 0).trans rfl; have fzqgb229_0 := blk_frozen BK229.out 0; have czqgb229_1 : wr.cell? ⟨gb229, 1, none⟩ = some (.int .i64 1) := (blk_cell BK229.out 1).trans rfl; have fzqgb229_1 := blk_frozen BK229.out 1; have czqgb229_2 : wr.cell? ⟨gb229, 2, none⟩ = some (.int .i64 0) := (blk_cell BK229.out 2).trans rfl; have fzqgb229_2 := blk_frozen BK229.out 2; have czqgb229_3 : wr.cell? ⟨gb229, 3, none⟩ = some (.int .i64 (wrap64 (Int.tdiv (wrap64 (a0 - (wrap64 (t228 * 86400)))) 3600))) := (blk_cell BK229.out 3).trans rfl; have fzqgb229_3 := blk_frozen BK229.out 3; have czqgb229_4 : wr.cell? ⟨gb229, 4, none⟩ = some (.int .i64 (Int.tmod (wrap64 (Int.tdiv (wrap64 (a0 - (wrap64 (t228 * 86400)))) 60)) 60)) := (blk_cell BK229.out 4).trans rfl; have fzqgb229_4 := blk_frozen BK229.out 4; have czqgb229_5 : wr.cell? ⟨gb229, 5, none⟩ = some (.int .i64 (Int.tmod (wrap64 (a0 - (wrap64 (t228 * 86400)))) 60)) := (blk_cell BK229.out 5).trans rfl; have fzqgb229_5 := blk_frozen BK229.out 5; have czqgb229_6 : wr.cell? ⟨gb229, 6, none⟩ = some (.int .i64 0) := (blk_cell BK229.out 6).trans rfl; have fzqgb229_6 := blk_frozen BK229.out 6))))
          go_roundg k3
          case measure => have := HJ1.out; have := HK2.out; have := HK3.out; omega
          case rel => exact ⟨(wrap64 (x4_3 - t232)), (wrap64 (x230000_3 + 1)), (by first | rfl | (simp; done) | (simp [*]; done)), H', ⟨by have := HJ1.out; have := HK2.out; have := HK3.out; omega⟩, ⟨by (with_reducible repeat (first | refine blk_drewN ?_ _ | refine blk_drew ?_ | refine blk_alloc ?_ _)); refine blk_far ?_ NB227_229.out _; (with_reducible repeat (first | refine blk_drewN ?_ _ | refine blk_drew ?_ | refine blk_alloc ?_ _)); exact BK227.out⟩, ⟨by (with_reducible repeat (first | refine blk_drewN ?_ _ | refine blk_drew ?_ | refine blk_alloc ?_ _)); refine blk_put (cs := #[.int .i64 x230000_3, .int .i64 1, .int .i64 0, .int .i64 (wrap64 (Int.tdiv (wrap64 (a0 - (wrap64 (t228 * 86400)))) 3600)), .int .i64 (Int.tmod (wrap64 (Int.tdiv (wrap64 (a0 - (wrap64 (t228 * 86400)))) 60)) 60), .int .i64 (Int.tmod (wrap64 (a0 - (wrap64 (t228 * 86400)))) 60), .int .i64 0]) ?_ 0 _ rfl; (with_reducible repeat (first | refine blk_drewN ?_ _ | refine blk_drew ?_ | refine blk_alloc ?_ _)); exact BK229.out⟩, ⟨by repeat (first | (with_reducible first | exact HB.out | apply below_alloc | apply pw_below_drewN | apply below_drew1 | refine below_set ?_ GE227.out | refine below_set ?_ GE229.out) | exact HB.out)⟩⟩
         ·rw [if_neg c16] at H
          have c16b0 : decide (t231 ≤ x4_3) = false := decide_eq_false c16
          clear c16
          have H' := Aside0.mk H
          clear H
          have hnb20 := NB229_227.out
          have hnc20 := NB227_229.out
          have hcz21_0 : wr.cell? ⟨gb229, 0, none⟩ = some (.int .i64 x230000_3) := (blk_cell BK229.out 0).trans rfl
          have hcz21_1 : wr.cell? ⟨gb229, 1, none⟩ = some (.int .i64 1) := (blk_cell BK229.out 1).trans rfl
          have hcz21_2 : wr.cell? ⟨gb229, 2, none⟩ = some (.int .i64 0) := (blk_cell BK229.out 2).trans rfl
          have hcz21_3 : wr.cell? ⟨gb229, 3, none⟩ = some (.int .i64 (wrap64 (Int.tdiv (wrap64 (a0 - (wrap64 (t228 * 86400)))) 3600))) := (blk_cell BK229.out 3).trans rfl
          have hcz21_4 : wr.cell? ⟨gb229, 4, none⟩ = some (.int .i64 (Int.tmod (wrap64 (Int.tdiv (wrap64 (a0 - (wrap64 (t228 * 86400)))) 60)) 60)) := (blk_cell BK229.out 4).trans rfl
          have hcz21_5 : wr.cell? ⟨gb229, 5, none⟩ = some (.int .i64 (Int.tmod (wrap64 (a0 - (wrap64 (t228 * 86400)))) 60)) := (blk_cell BK229.out 5).trans rfl
          have hcz21_6 : wr.cell? ⟨gb229, 6, none⟩ = some (.int .i64 0) := (blk_cell BK229.out 6).trans rfl
          have hfz21_0 := blk_frozen BK229.out 0
          have hfz21_1 := blk_frozen BK229.out 1
          have hfz21_2 := blk_frozen BK229.out 2
          have hfz21_3 := blk_frozen BK229.out 3
          have hfz21_4 := blk_frozen BK229.out 4
          have hfz21_5 := blk_frozen BK229.out 5
          have hfz21_6 := blk_frozen BK229.out 6
          go_wp2_with (first | ((with_reducible refine gate_callee (f := 54) rfl ?_); refine goesL_ (some 42) rfl rfl Tryd.func54 (by kernel_rfl) rfl #[.int .i64 x230000_3] rfl (by (try simp only [List.map_toArray, List.map_cons, List.map_nil]); first | done | rfl | (simp only [List.length_drop, List.length_take]; rfl)) ?_; (with_reducible refine (timesyncref05_yearDays.calls x230000_3 t231 _ A15.out).mono ?_); rintro e w' ⟨rfl, ⟨nd, rfl⟩⟩; refine ⟨_, rfl, ?_⟩))
          go_loopg [4] k3 (fun kq v4 w' => ∃ (x4_4 : Int) (x230001_4 : Int), v4 = .int .i64 x4_4 ∧ Aside0 (timesyncref05_Of.l2 kq x4_4 x230000_3 x230001_4 0 (wrap64 (Int.tdiv (wrap64 (a0 - (wrap64 (t228 * 86400)))) 3600)) (Int.tmod (wrap64 (Int.tdiv (wrap64 (a0 - (wrap64 (t228 * 86400)))) 60)) 60) (Int.tmod (wrap64 (a0 - (wrap64 (t228 * 86400)))) 60) 0 = some (r1, r2, r3, r4, r5, r6, r7, r8)) ∧ Aside0 (kq ≤ k3) ∧ Aside0 (w'.heap[gb227]? = some (.cells #[.int .i64 0, .int .i64 0, .int .i64 0, .int .i64 0, .int .i64 0, .int .i64 0, .int .i64 0] 48 (0, 0))) ∧ Aside0 (w'.heap[gb229]? = some (.cells #[.int .i64 x230000_3, .int .i64 x230001_4, .int .i64 0, .int .i64 (wrap64 (Int.tdiv (wrap64 (a0 - (wrap64 (t228 * 86400)))) 3600)), .int .i64 (Int.tmod (wrap64 (Int.tdiv (wrap64 (a0 - (wrap64 (t228 * 86400)))) 60)) 60), .int .i64 (Int.tmod (wrap64 (a0 - (wrap64 (t228 * 86400)))) 60), .int .i64 0] 48 (0, 0))) ∧ Aside0 (Below w.heap.size w w'))
          case atStart => exact ⟨(x4_3), (1), (by first | rfl | (simp; done) | (simp [*]; done)), H', ⟨Nat.le_refl _⟩, ⟨by (with_reducible repeat (first | refine blk_drewN ?_ _ | refine blk_drew ?_ | refine blk_alloc ?_ _)); exact BK227.out⟩, ⟨by (with_reducible repeat (first | refine blk_drewN ?_ _ | refine blk_drew ?_ | refine blk_alloc ?_ _)); exact BK229.out⟩, ⟨by repeat (first | (with_reducible first | exact HB.out | apply below_alloc | apply pw_below_drewN | apply below_drew1 | refine below_set ?_ GE227.out | refine below_set ?_ GE229.out) | exact HB.out)⟩⟩
          case round =>
           clear H'
           try clear c1
           try clear c2
           try clear p2
           try clear c4
           try clear c4b0
           try clear c5
           try clear p6
           try clear c9
           try clear c11
           try clear c11b0
           try clear c13
           try clear c16
           try clear c16b0
           try clear c18
           try clear c20
           try clear hcz10_0
           try clear hcz10_1
           try clear hcz10_2
           try clear hcz10_3
           try clear hcz10_4
           try clear hcz10_5
           try clear hcz10_6
           try clear hcz14_0
           try clear hcz14_1
           try clear hcz14_2
           try clear hcz14_3
           try clear hcz14_4
           try clear hcz14_5
           try clear hcz14_6
           try clear hcz19_0
           try clear hcz19_1
           try clear hcz19_2
           try clear hcz19_3
           try clear hcz19_4
           try clear hcz19_5
           try clear hcz19_6
           try clear hcz21_0
           try clear hcz21_1
           try clear hcz21_2
           try clear hcz21_3
           try clear hcz21_4
           try clear hcz21_5
           try clear hcz21_6
           try clear hcz6_0
           try clear hcz6_1
           try clear hcz6_2
           try clear hcz6_3
           try clear hcz6_4
           try clear hcz6_5
           try clear hcz6_6
           try clear hfz10_0
           try clear hfz10_1
           try clear hfz10_2
           try clear hfz10_3
           try clear hfz10_4
           try clear hfz10_5
           try clear hfz10_6
           try clear hfz14_0
           try clear hfz14_1
           try clear hfz14_2
           try clear hfz14_3
           try clear hfz14_4
           try clear hfz14_5
           try clear hfz14_6
           try clear hfz19_0
           try clear hfz19_1
           try clear hfz19_2
           try clear hfz19_3
           try clear hfz19_4
           try clear hfz19_5
           try clear hfz19_6
           try clear hfz21_0
           try clear hfz21_1
           try clear hfz21_2
           try clear hfz21_3
           try clear hfz21_4
           try clear hfz21_5
           try clear hfz21_6
           try clear hfz6_0
           try clear hfz6_1
           try clear hfz6_2
           try clear hfz6_3
           try clear hfz6_4
           try clear hfz6_5
           try clear hfz6_6
           try clear p2
           try clear p6
           obtain ⟨x4_4, x230001_4, rfl, HA, HK4, BK227, BK229, HB⟩ := hrel
           cases gk with
           | zero => exact absurd HA.out (by simp [timesyncref05_Of.l2])
           | succ k4 =>
            have H := HA.out
            clear HA
            simp only [timesyncref05_Of.l2] at H
            replace H := Option.bind_eq_some_iff.mp H
            obtain ⟨t233, A220, H⟩ := H
            replace H : (if x4_4 ≥ t233 then ((timesyncref05_MonthDays.f k4 x230000_3 x230001_4).bind fun t234 => (timesyncref05_Of.l2 k4 (wrap64 (x4_4 - t234)) x230000_3 (wrap64 (x230001_4 + 1)) 0 (wrap64 (Int.tdiv (wrap64 (a0 - (wrap64 (t228 * 86400)))) 3600)) (Int.tmod (wrap64 (Int.tdiv (wrap64 (a0 - (wrap64 (t228 * 86400)))) 60)) 60) (Int.tmod (wrap64 (a0 - (wrap64 (t228 * 86400)))) 60) 0)) else (some (x230000_3, x230001_4, wrap64 (x4_4 + 1), (wrap64 (Int.tdiv (wrap64 (a0 - (wrap64 (t228 * 86400)))) 3600)), (Int.tmod (wrap64 (Int.tdiv (wrap64 (a0 - (wrap64 (t228 * 86400)))) 60)) 60), (Int.tmod (wrap64 (a0 - (wrap64 (t228 * 86400)))) 60), 0, 0))) = some (r1, r2, r3, r4, r5, r6, r7, r8) := H
            have A22 := Aside0.mk A220
            clear A220
            by_cases c23 : x4_4 ≥ t233
            ·rw [if_pos c23] at H
             have c23b0 : decide (t233 ≤ x4_4) = true := decide_eq_true c23
             clear c23
             replace H := Option.bind_eq_some_iff.mp H
             obtain ⟨t234, A240, H⟩ := H
             replace H : (timesyncref05_Of.l2 k4 (wrap64 (x4_4 - t234)) x230000_3 (wrap64 (x230001_4 + 1)) 0 (wrap64 (Int.tdiv (wrap64 (a0 - (wrap64 (t228 * 86400)))) 3600)) (Int.tmod (wrap64 (Int.tdiv (wrap64 (a0 - (wrap64 (t228 * 86400)))) 60)) 60) (Int.tmod (wrap64 (a0 - (wrap64 (t228 * 86400)))) 60) 0) = some (r1, r2, r3, r4, r5, r6, r7, r8) := H
             have A24 := Aside0.mk A240
             clear A240
             have H' := Aside0.mk H
             clear H
             have hnb25 := NB229_227.out
             have hnc25 := NB227_229.out
             have hcz26_0 : wr.cell? ⟨gb229, 0, none⟩ = some (.int .i64 x230000_3) := (blk_cell BK229.out 0).trans rfl
             have hcz26_1 : wr.cell? ⟨gb229, 1, none⟩ = some (.int .i64 x230001_4) := (blk_cell BK229.out 1).trans rfl
             have hcz26_2 : wr.cell? ⟨gb229, 2, none⟩ = some (.int .i64 0) := (blk_cell BK229.out 2).trans rfl
             have hcz26_3 : wr.cell? ⟨gb229, 3, none⟩ = some (.int .i64 (wrap64 (Int.tdiv (wrap64 (a0 - (wrap64 (t228 * 86400)))) 3600))) := (blk_cell BK229.out 3).trans rfl
             have hcz26_4 : wr.cell? ⟨gb229, 4, none⟩ = some (.int .i64 (Int.tmod (wrap64 (Int.tdiv (wrap64 (a0 - (wrap64 (t228 * 86400)))) 60)) 60)) := (blk_cell BK229.out 4).trans rfl
             have hcz26_5 : wr.cell? ⟨gb229, 5, none⟩ = some (.int .i64 (Int.tmod (wrap64 (a0 - (wrap64 (t228 * 86400)))) 60)) := (blk_cell BK229.out 5).trans rfl
             have hcz26_6 : wr.cell? ⟨gb229, 6, none⟩ = some (.int .i64 0) := (blk_cell BK229.out 6).trans rfl
             have hfz26_0 := blk_frozen BK229.out 0
             have hfz26_1 := blk_frozen BK229.out 1
             have hfz26_2 := blk_frozen BK229.out 2
             have hfz26_3 := blk_frozen BK229.out 3
             have hfz26_4 := blk_frozen BK229.out 4
             have hfz26_5 := blk_frozen BK229.out 5
             have hfz26_6 := blk_frozen BK229.out 6
             go_wp2_with (first | ((with_reducible refine gate_callee (f := 55) rfl ?_); refine goesL_ (some 58) rfl rfl Tryd.func55 (by kernel_rfl) rfl #[.int .i64 x230000_3, .int .i64 x230001_4] rfl (by (try simp only [List.map_toArray, List.map_cons, List.map_nil]); first | done | rfl | (simp only [List.length_drop, List.length_take]; rfl)) ?_; (with_reducible refine (timesyncref05_MonthDays.calls k4 x230000_3 x230001_4 t233 _ A22.out).mono ?_); rintro e w' ⟨rfl, ⟨nd, rfl⟩⟩; refine ⟨_, rfl, ?_⟩; (try (rw [drewN_self wr]; generalize hq_ : World.drewN wr _ = wr; have n0_ : Aside0 (wr.heap[gb227]? = some (.cells #[.int .i64 0, .int .i64 0, .int .i64 0, .int .i64 0, .int .i64 0, .int .i64 0, .int .i64 0] 48 (0, 0))) := ⟨by rw [← hq_]; exact (by (with_reducible repeat (first | refine blk_drewN ?_ _ | refine blk_drew ?_ | refine blk_alloc ?_ _)); exact BK227.out)⟩; have n1_ : Aside0 (wr.heap[gb229]? = some (.cells #[.int .i64 x230000_3, .int .i64 x230001_4, .int .i64 0, .int .i64 (wrap64 (Int.tdiv (wrap64 (a0 - (wrap64 (t228 * 86400)))) 3600)), .int .i64 (Int.tmod (wrap64 (Int.tdiv (wrap64 (a0 - (wrap64 (t228 * 86400)))) 60)) 60), .int .i64 (Int.tmod (wrap64 (a0 - (wrap64 (t228 * 86400)))) 60), .int .i64 0] 48 (0, 0))) := ⟨by rw [← hq_]; exact (by (with_reducible repeat (first | refine blk_drewN ?_ _ | refine blk_drew ?_ | refine blk_alloc ?_ _)); exact BK229.out)⟩; have n2_ : Aside0 (Below w.heap.size w wr) := ⟨by rw [← hq_]; exact (by repeat (first | (with_reducible first | exact HB.out | apply below_alloc | apply pw_below_drewN | apply below_drew1 | refine below_set ?_ GE227.out | refine below_set ?_ GE229.out) | exact HB.out))⟩; clear BK227 BK229 HB hq_; have BK227 := n0_; have BK229 := n1_; have HB := n2_; clear n0_ n1_ n2_; have czqgb227_0 : wr.cell? ⟨gb227, 0, none⟩ = some (.int .i64 0) := (blk_cell BK227.out 0).trans rfl; have fzqgb227_0 := blk_frozen BK227.out 0; have czqgb227_1 : wr.cell? ⟨gb227, 1, none⟩ = some (.int .i64 0) := (blk_cell BK227.out 1).trans rfl; have fzqgb227_1 := blk_frozen BK227.out 1; have czqgb227_2 : wr.cell? ⟨gb227, 2, none⟩ = some (.int .i64 0) := (blk_cell BK227.out 2).trans rfl; have fzqgb227_2 := blk_frozen BK227.out 2; have czqgb227_3 : wr.cell? ⟨gb227, 3, none⟩ = some (.int .i64 0) := (blk_cell BK227.out 3).trans rfl; have fzqgb227_3 := blk_frozen BK227.out 3; have czqgb227_4 : wr.cell? ⟨gb227, 4, none⟩ = some (.int .i64 0) := (blk_cell BK227.out 4).trans rfl; have fzqgb227_4 := blk_frozen BK227.out 4; have czqgb227_5 : wr.cell? ⟨gb227, 5, none⟩ = some (.int .i64 0) := (blk_cell BK227.out 5).trans rfl; have fzqgb227_5 := blk_frozen BK227.out 5; have czqgb227_6 : wr.cell? ⟨gb227, 6, none⟩ = some (.int .i64 0) := (blk_cell BK227.out 6).trans rfl; have fzqgb227_6 := blk_frozen BK227.out 6; have czqgb229_0 : wr.cell? ⟨gb229, 0, none⟩ = some (.int .i64 x230000_3) := (blk_cell BK229.out 0).trans rfl; have fzqgb229_0 := blk_frozen BK229.out 0; have czqgb229_1 : wr.cell? ⟨gb229, 1, none⟩ = some (.int .i64 x230001_4) := (blk_cell BK229.out 1).trans rfl; have fzqgb229_1 := blk_frozen BK229.out 1; have czqgb229_2 : wr.cell? ⟨gb229, 2, none⟩ = some (.int .i64 0) := (blk_cell BK229.out 2).trans rfl; have fzqgb229_2 := blk_frozen BK229.out 2; have czqgb229_3 : wr.cell? ⟨gb229, 3, none⟩ = some (.int .i64 (wrap64 (Int.tdiv (wrap64 (a0 - (wrap64 (t228 * 86400)))) 3600))) := (blk_cell BK229.out 3).trans rfl; have fzqgb229_3 := blk_frozen BK229.out 3; have czqgb229_4 : wr.cell? ⟨gb229, 4, none⟩ = some (.int .i64 (Int.tmod (wrap64 (Int.tdiv (wrap64 (a0 - (wrap64 (t228 * 86400)))) 60)) 60)) := (blk_cell BK229.out 4).trans rfl; have fzqgb229_4 := blk_frozen BK229.out 4; have czqgb229_5 : wr.cell? ⟨gb229, 5, none⟩ = some (.int .i64 (Int.tmod (wrap64 (a0 - (wrap64 (t228 * 86400)))) 60)) := (blk_cell BK229.out 5).trans rfl; have fzqgb229_5 := blk_frozen BK229.out 5; have czqgb229_6 : wr.cell? ⟨gb229, 6, none⟩ = some (.int .i64 0) := (blk_cell BK229.out 6).trans rfl; have fzqgb229_6 := blk_frozen BK229.out 6))) | ((with_reducible refine gate_callee (f := 55) rfl ?_); refine goesL_ (some 65) rfl rfl Tryd.func55 (by kernel_rfl) rfl #[.int .i64 x230000_3, .int .i64 x230001_4] rfl (by (try simp only [List.map_toArray, List.map_cons, List.map_nil]); first | done | rfl | (simp only [List.length_drop, List.length_take]; rfl)) ?_; (with_reducible refine (timesyncref05_MonthDays.calls k4 x230000_3 x230001_4 t234 _ A24.out).mono ?_); rintro e w' ⟨rfl, ⟨nd, rfl⟩⟩; refine ⟨_, rfl, ?_⟩; (try (rw [drewN_self wr]; generalize hq_ : World.drewN wr _ = wr; have n0_ : Aside0 (wr.heap[gb227]? = some (.cells #[.int .i64 0, .int .i64 0, .int .i64 0, .int .i64 0, .int .i64 0, .int .i64 0, .int .i64 0] 48 (0, 0))) := ⟨by rw [← hq_]; exact (by (with_reducible repeat (first | refine blk_drewN ?_ _ | refine blk_drew ?_ | refine blk_alloc ?_ _)); exact BK227.out)⟩; have n1_ : Aside0 (wr.heap[gb229]? = some (.cells #[.int .i64 x230000_3, .int .i64 x230001_4, .int .i64 0, .int .i64 (wrap64 (Int.tdiv (wrap64 (a0 - (wrap64 (t228 * 86400)))) 3600)), .int .i64 (Int.tmod (wrap64 (Int.tdiv (wrap64 (a0 - (wrap64 (t228 * 86400)))) 60)) 60), .int .i64 (Int.tmod (wrap64 (a0 - (wrap64 (t228 * 86400)))) 60), .int .i64 0] 48 (0, 0))) := ⟨by rw [← hq_]; exact (by (with_reducible repeat (first | refine blk_drewN ?_ _ | refine blk_drew ?_ | refine blk_alloc ?_ _)); exact BK229.out)⟩; have n2_ : Aside0 (Below w.heap.size w wr) := ⟨by rw [← hq_]; exact (by repeat (first | (with_reducible first | exact HB.out | apply below_alloc | apply pw_below_drewN | apply below_drew1 | refine below_set ?_ GE227.out | refine below_set ?_ GE229.out) | exact HB.out))⟩; clear BK227 BK229 HB hq_; have BK227 := n0_; have BK229 := n1_; have HB := n2_; clear n0_ n1_ n2_; have czqgb227_0 : wr.cell? ⟨gb227, 0, none⟩ = some (.int .i64 0) := (blk_cell BK227.out 0).trans rfl; have fzqgb227_0 := blk_frozen BK227.out 0; have czqgb227_1 : wr.cell? ⟨gb227, 1, none⟩ = some (.int .i64 0) := (blk_cell BK227.out 1).trans rfl; have fzqgb227_1 := blk_frozen BK227.out 1; have czqgb227_2 : wr.cell? ⟨gb227, 2, none⟩ = some (.int .i64 0) := (blk_cell BK227.out 2).trans rfl; have fzqgb227_2 := blk_frozen BK227.out 2; have czqgb227_3 : wr.cell? ⟨gb227, 3, none⟩ = some (.int .i64 0) := (blk_cell BK227.out 3).trans rfl; have fzqgb227_3 := blk_frozen BK227.out 3; have czqgb227_4 : wr.cell? ⟨gb227, 4, none⟩ = some (.int .i64 0) := (blk_cell BK227.out 4).trans rfl; have fzqgb227_4 := blk_frozen BK227.out 4; have czqgb227_5 : wr.cell? ⟨gb227, 5, none⟩ = some (.int .i64 0) := (blk_cell BK227.out 5).trans rfl; have fzqgb227_5 := blk_frozen BK227.out 5; have czqgb227_6 : wr.cell? ⟨gb227, 6, none⟩ = some (.int .i64 0) := (blk_cell BK227.out 6).trans rfl; have fzqgb227_6 := blk_frozen BK227.out 6; have czqgb229_0 : wr.cell? ⟨gb229, 0, none⟩ = some (.int .i64 x230000_3) := (blk_cell BK229.out 0).trans rfl; have fzqgb229_0 := blk_frozen BK229.out 0; have czqgb229_1 : wr.cell? ⟨gb229, 1, none⟩ = some (.int .i64 x230001_4) := (blk_cell BK229.out 1).trans rfl; have fzqgb229_1 := blk_frozen BK229.out 1; have czqgb229_2 : wr.cell? ⟨gb229, 2, none⟩ = some (.int .i64 0) := (blk_cell BK229.out 2).trans rfl; have fzqgb229_2 := blk_frozen BK229.out 2; have czqgb229_3 : wr.cell? ⟨gb229, 3, none⟩ = some (.int .i64 (wrap64 (Int.tdiv (wrap64 (a0 - (wrap64 (t228 * 86400)))) 3600))) := (blk_cell BK229.out 3).trans rfl; have fzqgb229_3 := blk_frozen BK229.out 3; have czqgb229_4 : wr.cell? ⟨gb229, 4, none⟩ = some (.int .i64 (Int.tmod (wrap64 (Int.tdiv (wrap64 (a0 - (wrap64 (t228 * 86400)))) 60)) 60)) := (blk_cell BK229.out 4).trans rfl; have fzqgb229_4 := blk_frozen BK229.out 4; have czqgb229_5 : wr.cell? ⟨gb229, 5, none⟩ = some (.int .i64 (Int.tmod (wrap64 (a0 - (wrap64 (t228 * 86400)))) 60)) := (blk_cell BK229.out 5).trans rfl; have fzqgb229_5 := blk_frozen BK229.out 5; have czqgb229_6 : wr.cell? ⟨gb229, 6, none⟩ = some (.int .i64 0) := (blk_cell BK229.out 6).trans rfl; have fzqgb229_6 := blk_frozen BK229.out 6))))
             go_roundg k4
             case measure => have := HJ1.out; have := HK2.out; have := HK3.out; have := HK4.out; omega
             case rel => exact ⟨(wrap64 (x4_4 - t234)), (wrap64 (x230001_4 + 1)), (by first | rfl | (simp; done) | (simp [*]; done)), H', ⟨by have := HJ1.out; have := HK2.out; have := HK3.out; have := HK4.out; omega⟩, ⟨by (with_reducible repeat (first | refine blk_drewN ?_ _ | refine blk_drew ?_ | refine blk_alloc ?_ _)); refine blk_far ?_ NB227_229.out _; (with_reducible repeat (first | refine blk_drewN ?_ _ | refine blk_drew ?_ | refine blk_alloc ?_ _)); exact BK227.out⟩, ⟨by (with_reducible repeat (first | refine blk_drewN ?_ _ | refine blk_drew ?_ | refine blk_alloc ?_ _)); refine blk_put (cs := #[.int .i64 x230000_3, .int .i64 x230001_4, .int .i64 0, .int .i64 (wrap64 (Int.tdiv (wrap64 (a0 - (wrap64 (t228 * 86400)))) 3600)), .int .i64 (Int.tmod (wrap64 (Int.tdiv (wrap64 (a0 - (wrap64 (t228 * 86400)))) 60)) 60), .int .i64 (Int.tmod (wrap64 (a0 - (wrap64 (t228 * 86400)))) 60), .int .i64 0]) ?_ 1 _ rfl; (with_reducible repeat (first | refine blk_drewN ?_ _ | refine blk_drew ?_ | refine blk_alloc ?_ _)); exact BK229.out⟩, ⟨by repeat (first | (with_reducible first | exact HB.out | apply below_alloc | apply pw_below_drewN | apply below_drew1 | refine below_set ?_ GE227.out | refine below_set ?_ GE229.out) | exact HB.out)⟩⟩
            ·rw [if_neg c23] at H
             have c23b0 : decide (t233 ≤ x4_4) = false := decide_eq_false c23
             clear c23
             simp only [Option.some.injEq, Prod.mk.injEq] at H
             obtain ⟨rfl, rfl, rfl, rfl, rfl, rfl, rfl, rfl⟩ := H
             have hnb27 := NB229_227.out
             have hnc27 := NB227_229.out
             have hcz28_0 : wr.cell? ⟨gb229, 0, none⟩ = some (.int .i64 x230000_3) := (blk_cell BK229.out 0).trans rfl
             have hcz28_1 : wr.cell? ⟨gb229, 1, none⟩ = some (.int .i64 x230001_4) := (blk_cell BK229.out 1).trans rfl
             have hcz28_2 : wr.cell? ⟨gb229, 2, none⟩ = some (.int .i64 0) := (blk_cell BK229.out 2).trans rfl
             have hcz28_3 : wr.cell? ⟨gb229, 3, none⟩ = some (.int .i64 (wrap64 (Int.tdiv (wrap64 (a0 - (wrap64 (t228 * 86400)))) 3600))) := (blk_cell BK229.out 3).trans rfl
             have hcz28_4 : wr.cell? ⟨gb229, 4, none⟩ = some (.int .i64 (Int.tmod (wrap64 (Int.tdiv (wrap64 (a0 - (wrap64 (t228 * 86400)))) 60)) 60)) := (blk_cell BK229.out 4).trans rfl
             have hcz28_5 : wr.cell? ⟨gb229, 5, none⟩ = some (.int .i64 (Int.tmod (wrap64 (a0 - (wrap64 (t228 * 86400)))) 60)) := (blk_cell BK229.out 5).trans rfl
             have hcz28_6 : wr.cell? ⟨gb229, 6, none⟩ = some (.int .i64 0) := (blk_cell BK229.out 6).trans rfl
             have hfz28_0 := blk_frozen BK229.out 0
             have hfz28_1 := blk_frozen BK229.out 1
             have hfz28_2 := blk_frozen BK229.out 2
             have hfz28_3 := blk_frozen BK229.out 3
             have hfz28_4 := blk_frozen BK229.out 4
             have hfz28_5 := blk_frozen BK229.out 5
             have hfz28_6 := blk_frozen BK229.out 6
             go_wp2_with (first | ((with_reducible refine gate_callee (f := 55) rfl ?_); refine goesL_ (some 58) rfl rfl Tryd.func55 (by kernel_rfl) rfl #[.int .i64 x230000_3, .int .i64 x230001_4] rfl (by (try simp only [List.map_toArray, List.map_cons, List.map_nil]); first | done | rfl | (simp only [List.length_drop, List.length_take]; rfl)) ?_; (with_reducible refine (timesyncref05_MonthDays.calls k4 x230000_3 x230001_4 t233 _ A22.out).mono ?_); rintro e w' ⟨rfl, ⟨nd, rfl⟩⟩; refine ⟨_, rfl, ?_⟩; (try (rw [drewN_self wr]; generalize hq_ : World.drewN wr _ = wr; have n0_ : Aside0 (wr.heap[gb227]? = some (.cells #[.int .i64 0, .int .i64 0, .int .i64 0, .int .i64 0, .int .i64 0, .int .i64 0, .int .i64 0] 48 (0, 0))) := ⟨by rw [← hq_]; exact (by (with_reducible repeat (first | refine blk_drewN ?_ _ | refine blk_drew ?_ | refine blk_alloc ?_ _)); exact BK227.out)⟩; have n1_ : Aside0 (wr.heap[gb229]? = some (.cells #[.int .i64 x230000_3, .int .i64 x230001_4, .int .i64 0, .int .i64 (wrap64 (Int.tdiv (wrap64 (a0 - (wrap64 (t228 * 86400)))) 3600)), .int .i64 (Int.tmod (wrap64 (Int.tdiv (wrap64 (a0 - (wrap64 (t228 * 86400)))) 60)) 60), .int .i64 (Int.tmod (wrap64 (a0 - (wrap64 (t228 * 86400)))) 60), .int .i64 0] 48 (0, 0))) := ⟨by rw [← hq_]; exact (by (with_reducible repeat (first | refine blk_drewN ?_ _ | refine blk_drew ?_ | refine blk_alloc ?_ _)); exact BK229.out)⟩; have n2_ : Aside0 (Below w.heap.size w wr) := ⟨by rw [← hq_]; exact (by repeat (first | (with_reducible first | exact HB.out | apply below_alloc | apply pw_below_drewN | apply below_drew1 | refine below_set ?_ GE227.out | refine below_set ?_ GE229.out) | exact HB.out))⟩; clear BK227 BK229 HB hq_; have BK227 := n0_; have BK229 := n1_; have HB := n2_; clear n0_ n1_ n2_; have czqgb227_0 : wr.cell? ⟨gb227, 0, none⟩ = some (.int .i64 0) := (blk_cell BK227.out 0).trans rfl; have fzqgb227_0 := blk_frozen BK227.out 0; have czqgb227_1 : wr.cell? ⟨gb227, 1, none⟩ = some (.int .i64 0) := (blk_cell BK227.out 1).trans rfl; have fzqgb227_1 := blk_frozen BK227.out 1; have czqgb227_2 : wr.cell? ⟨gb227, 2, none⟩ = some (.int .i64 0) := (blk_cell BK227.out 2).trans rfl; have fzqgb227_2 := blk_frozen BK227.out 2; have czqgb227_3 : wr.cell? ⟨gb227, 3, none⟩ = some (.int .i64 0) := (blk_cell BK227.out 3).trans rfl; have fzqgb227_3 := blk_frozen BK227.out 3; have czqgb227_4 : wr.cell? ⟨gb227, 4, none⟩ = some (.int .i64 0) := (blk_cell BK227.out 4).trans rfl; have fzqgb227_4 := blk_frozen BK227.out 4; have czqgb227_5 : wr.cell? ⟨gb227, 5, none⟩ = some (.int .i64 0) := (blk_cell BK227.out 5).trans rfl; have fzqgb227_5 := blk_frozen BK227.out 5; have czqgb227_6 : wr.cell? ⟨gb227, 6, none⟩ = some (.int .i64 0) := (blk_cell BK227.out 6).trans rfl; have fzqgb227_6 := blk_frozen BK227.out 6; have czqgb229_0 : wr.cell? ⟨gb229, 0, none⟩ = some (.int .i64 x230000_3) := (blk_cell BK229.out 0).trans rfl; have fzqgb229_0 := blk_frozen BK229.out 0; have czqgb229_1 : wr.cell? ⟨gb229, 1, none⟩ = some (.int .i64 x230001_4) := (blk_cell BK229.out 1).trans rfl; have fzqgb229_1 := blk_frozen BK229.out 1; have czqgb229_2 : wr.cell? ⟨gb229, 2, none⟩ = some (.int .i64 0) := (blk_cell BK229.out 2).trans rfl; have fzqgb229_2 := blk_frozen BK229.out 2; have czqgb229_3 : wr.cell? ⟨gb229, 3, none⟩ = some (.int .i64 (wrap64 (Int.tdiv (wrap64 (a0 - (wrap64 (t228 * 86400)))) 3600))) := (blk_cell BK229.out 3).trans rfl; have fzqgb229_3 := blk_frozen BK229.out 3; have czqgb229_4 : wr.cell? ⟨gb229, 4, none⟩ = some (.int .i64 (Int.tmod (wrap64 (Int.tdiv (wrap64 (a0 - (wrap64 (t228 * 86400)))) 60)) 60)) := (blk_cell BK229.out 4).trans rfl; have fzqgb229_4 := blk_frozen BK229.out 4; have czqgb229_5 : wr.cell? ⟨gb229, 5, none⟩ = some (.int .i64 (Int.tmod (wrap64 (a0 - (wrap64 (t228 * 86400)))) 60)) := (blk_cell BK229.out 5).trans rfl; have fzqgb229_5 := blk_frozen BK229.out 5; have czqgb229_6 : wr.cell? ⟨gb229, 6, none⟩ = some (.int .i64 0) := (blk_cell BK229.out 6).trans rfl; have fzqgb229_6 := blk_frozen BK229.out 6)); have hcz29_0 : wr.cell? ⟨gb227, 0, none⟩ = some (.int .i64 0) := (blk_cell BK227.out 0).trans rfl; have hcz29_1 : wr.cell? ⟨gb227, 1, none⟩ = some (.int .i64 0) := (blk_cell BK227.out 1).trans rfl; have hcz29_2 : wr.cell? ⟨gb227, 2, none⟩ = some (.int .i64 0) := (blk_cell BK227.out 2).trans rfl; have hcz29_3 : wr.cell? ⟨gb227, 3, none⟩ = some (.int .i64 0) := (blk_cell BK227.out 3).trans rfl; have hcz29_4 : wr.cell? ⟨gb227, 4, none⟩ = some (.int .i64 0) := (blk_cell BK227.out 4).trans rfl; have hcz29_5 : wr.cell? ⟨gb227, 5, none⟩ = some (.int .i64 0) := (blk_cell BK227.out 5).trans rfl; have hcz29_6 : wr.cell? ⟨gb227, 6, none⟩ = some (.int .i64 0) := (blk_cell BK227.out 6).trans rfl; have hfz29_0 := blk_frozen BK227.out 0; have hfz29_1 := blk_frozen BK227.out 1; have hfz29_2 := blk_frozen BK227.out 2; have hfz29_3 := blk_frozen BK227.out 3; have hfz29_4 := blk_frozen BK227.out 4; have hfz29_5 := blk_frozen BK227.out 5; have hfz29_6 := blk_frozen BK227.out 6))
             refine bodyPost_ret (results_ct rfl _ _ gb227 48 #[.int .i64 x230000_3, .int .i64 x230001_4, .int .i64 (wrap64 (x4_4 + 1)), .int .i64 (wrap64 (Int.tdiv (wrap64 (a0 - (wrap64 (t228 * 86400)))) 3600)), .int .i64 (Int.tmod (wrap64 (Int.tdiv (wrap64 (a0 - (wrap64 (t228 * 86400)))) 60)) 60), .int .i64 (Int.tmod (wrap64 (a0 - (wrap64 (t228 * 86400)))) 60), .int .i64 0] (0, 0) _ rfl (by (with_reducible repeat (first | refine blk_drewN ?_ _ | refine blk_drew ?_ | refine blk_alloc ?_ _)); refine blk_put (cs := #[.int .i64 x230000_3, .int .i64 x230001_4, .int .i64 (wrap64 (x4_4 + 1)), .int .i64 (wrap64 (Int.tdiv (wrap64 (a0 - (wrap64 (t228 * 86400)))) 3600)), .int .i64 (Int.tmod (wrap64 (Int.tdiv (wrap64 (a0 - (wrap64 (t228 * 86400)))) 60)) 60), .int .i64 (Int.tmod (wrap64 (a0 - (wrap64 (t228 * 86400)))) 60), .int .i64 0]) ?_ 6 _ rfl; (with_reducible repeat (first | refine blk_drewN ?_ _ | refine blk_drew ?_ | refine blk_alloc ?_ _)); refine blk_put (cs := #[.int .i64 x230000_3, .int .i64 x230001_4, .int .i64 (wrap64 (x4_4 + 1)), .int .i64 (wrap64 (Int.tdiv (wrap64 (a0 - (wrap64 (t228 * 86400)))) 3600)), .int .i64 (Int.tmod (wrap64 (Int.tdiv (wrap64 (a0 - (wrap64 (t228 * 86400)))) 60)) 60), .int .i64 0, .int .i64 0]) ?_ 5 _ rfl; (with_reducible repeat (first | refine blk_drewN ?_ _ | refine blk_drew ?_ | refine blk_alloc ?_ _)); refine blk_put (cs := #[.int .i64 x230000_3, .int .i64 x230001_4, .int .i64 (wrap64 (x4_4 + 1)), .int .i64 (wrap64 (Int.tdiv (wrap64 (a0 - (wrap64 (t228 * 86400)))) 3600)), .int .i64 0, .int .i64 0, .int .i64 0]) ?_ 4 _ rfl; (with_reducible repeat (first | refine blk_drewN ?_ _ | refine blk_drew ?_ | refine blk_alloc ?_ _)); refine blk_put (cs := #[.int .i64 x230000_3, .int .i64 x230001_4, .int .i64 (wrap64 (x4_4 + 1)), .int .i64 0, .int .i64 0, .int .i64 0, .int .i64 0]) ?_ 3 _ rfl; (with_reducible repeat (first | refine blk_drewN ?_ _ | refine blk_drew ?_ | refine blk_alloc ?_ _)); refine blk_put (cs := #[.int .i64 x230000_3, .int .i64 x230001_4, .int .i64 0, .int .i64 0, .int .i64 0, .int .i64 0, .int .i64 0]) ?_ 2 _ rfl; (with_reducible repeat (first | refine blk_drewN ?_ _ | refine blk_drew ?_ | refine blk_alloc ?_ _)); refine blk_put (cs := #[.int .i64 x230000_3, .int .i64 0, .int .i64 0, .int .i64 0, .int .i64 0, .int .i64 0, .int .i64 0]) ?_ 1 _ rfl; (with_reducible repeat (first | refine blk_drewN ?_ _ | refine blk_drew ?_ | refine blk_alloc ?_ _)); refine blk_put (cs := #[.int .i64 0, .int .i64 0, .int .i64 0, .int .i64 0, .int .i64 0, .int .i64 0, .int .i64 0]) ?_ 0 _ rfl; (with_reducible repeat (first | refine blk_drewN ?_ _ | refine blk_drew ?_ | refine blk_alloc ?_ _)); refine blk_far ?_ NB227_229.out _; (with_reducible repeat (first | refine blk_drewN ?_ _ | refine blk_drew ?_ | refine blk_alloc ?_ _)); exact BK227.out) Tryd.underlying48 rfl (by kernel_rfl)) rfl ?_
             exact ⟨by first | rfl | (simp [errW_none, errW_some] <;> rfl) | (simp [*, errW_none, errW_some] <;> rfl), by repeat (first | (with_reducible first | exact HB.out | apply below_alloc | apply pw_below_drewN | apply below_drew1 | refine below_set ?_ GE227.out | refine below_set ?_ GE229.out) | exact HB.out)⟩

end Go.Proofs.YtipbkcilpnlgnaaDoor.M
