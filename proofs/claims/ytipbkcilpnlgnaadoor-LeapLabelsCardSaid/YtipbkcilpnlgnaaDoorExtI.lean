/-
  leap.month by hand, in stages.
-/
import Derived.Test.YtipbkcilpnlgnaaDoorExtG
import Derived.Test.YtipbkcilpnlgnaaDoorExtH
namespace Go.Proofs.YtipbkcilpnlgnaaDoor.M
open Go.RowKit Go.Proofs.YtipbkcilpnlgnaaDoorG Go.Proofs.YtipbkcilpnlgnaaDoorW.PA Go.Proofs.YtipbkcilpnlgnaaDoorW.PB Go.Proofs.YtipbkcilpnlgnaaDoorW.PC
set_option linter.unusedVariables false
set_option linter.unusedSimpArgs false
set_option maxHeartbeats 8000000 in
set_option maxRecDepth 100000 in
theorem leap_month.calls (a0 : Int) (a1 : Int) (r1 : Int) (r2 : Bool) (w : World) (h : leap_month.f a0 a1 = some (r1, r2)) :
    Calls Tryd.prog 25 #[.int .i64 a0, .int .i64 a1] w fun e w' => e = .returned (.tuple #[.int .i64 r1, .bool r2]) ∧ Below w.heap.size w w' := by
  have hu48 := Tryd.underlying48
  have HB := Ad.mk (Below.refl w.heap.size w)
  have H := Option.bind_eq_some_iff.mp h
  clear h
  obtain ⟨⟨t105, t106, t107, t108, t109, t110, t111, t112⟩, A30, H⟩ := H
  replace H : (if t112 = 0 then (if (wrap64 (t106 + a1)) > 12 then ((civil_Seconds.f (wrap64 (t105 + 1)) 1 1 0 0 0 0).bind fun bt114 => (some (bt114.1, (bt114.2 == 0)))) else ((civil_Seconds.f t105 (wrap64 (t106 + a1)) 1 0 0 0 0).bind fun bt116 => (some (bt116.1, (bt116.2 == 0))))) else (some (0, false))) = some (r1, r2) := H
  have A3 := Ad.mk A30
  clear A30
  go_enter Tryd.func25, Tryd.ntmps25
  go_upto_region 2 with (first | ((with_reducible refine gate_callee (f := 23) rfl ?_); refine goesL_ (some 11) rfl rfl Tryd.func23 (by kernel_rfl) rfl #[.int .i64 a0] rfl (by (try simp only [List.map_toArray, List.map_cons, List.map_nil]); first | done | rfl | (simp only [List.length_drop, List.length_take]; rfl)) ?_; (with_reducible refine (civil_Of.calls a0 t105 t106 t107 t108 t109 t110 t111 t112 _ A3.out).mono ?_); rintro e w7 ⟨rfl, hb⟩; refine ⟨_, rfl, ?_⟩; have n0_ := Ad.mk (pbt (by repeat (first | (with_reducible first | exact HB.out | apply pba | apply pbN | apply pb1) | exact HB.out)) hb); clear HB; have HB := n0_; clear n0_; (try clear hb); (try clear hb2); (try clear hk); (try clear hi)) | ((with_reducible refine gate_dst (N := 6) rfl ?_); refine box_event ?hg (N := 6) ?hd (cs := #[.int .i64 0, .int .i64 0, .int .i64 0, .int .i64 0, .int .i64 0, .int .i64 0, .int .i64 0]) (t := 48) ?hr ?_; (case hd => rfl); (case hg => rfl); (case hr => first | (go_simp; done) | (go_simp; rfl)); intro gb113 hg w8 hbox hb; have n0_ := Ad.mk (pbt (by repeat (first | (with_reducible first | exact HB.out | apply pba | apply pbN | apply pb1) | exact HB.out)) hb); have n1_ := Ad.mk (hbox); have n2_ := Ad.mk ((by rw [hg]; exact (pbz (by repeat (first | (with_reducible first | exact HB.out | apply pba | apply pbN | apply pb1) | exact HB.out))) : w.heap.size ≤ gb113)); have n3_ := Ad.mk ((by rw [hg]; exact (pbz (by repeat (first | (with_reducible first | exact HB.out | apply pba | apply pbN | apply pb1) | exact HB.out))) : w.heap.size ≤ gb113)); clear HB; have HB := n0_; have BK113 := n1_; have GW113 := n2_; have GE113 := n3_; clear n0_ n1_ n2_ n3_; clear hb hbox hg; have ha0 : w8.cell? ⟨gb113, 0, none⟩ = some (.int .i64 0) := (bcl BK113.out 0).trans rfl; have hc0 := bfz BK113.out 0; have ha1 : w8.cell? ⟨gb113, 1, none⟩ = some (.int .i64 0) := (bcl BK113.out 1).trans rfl; have hc1 := bfz BK113.out 1; have ha2 : w8.cell? ⟨gb113, 2, none⟩ = some (.int .i64 0) := (bcl BK113.out 2).trans rfl; have hc2 := bfz BK113.out 2; have ha3 : w8.cell? ⟨gb113, 3, none⟩ = some (.int .i64 0) := (bcl BK113.out 3).trans rfl; have hc3 := bfz BK113.out 3; have ha4 : w8.cell? ⟨gb113, 4, none⟩ = some (.int .i64 0) := (bcl BK113.out 4).trans rfl; have hc4 := bfz BK113.out 4; have ha5 : w8.cell? ⟨gb113, 5, none⟩ = some (.int .i64 0) := (bcl BK113.out 5).trans rfl; have hc5 := bfz BK113.out 5; have ha6 : w8.cell? ⟨gb113, 6, none⟩ = some (.int .i64 0) := (bcl BK113.out 6).trans rfl; have hc6 := bfz BK113.out 6))
  refine at_world (fun W => W.heap[gb113]? = some (.cells #[.int .i64 t105, .int .i64 t106, .int .i64 t107, .int .i64 t108, .int .i64 t109, .int .i64 t110, .int .i64 t111] 48 (0, 0)) ∧ Below w.heap.size w W) ⟨by (with_reducible repeat (first | refine bkN ?_ _ | refine bkd ?_ | refine bka ?_ _)); refine blk_put (cs := #[.int .i64 t105, .int .i64 t106, .int .i64 t107, .int .i64 t108, .int .i64 t109, .int .i64 t110, .int .i64 0]) ?_ 6 _ rfl; refine blk_put (cs := #[.int .i64 t105, .int .i64 t106, .int .i64 t107, .int .i64 t108, .int .i64 t109, .int .i64 0, .int .i64 0]) ?_ 5 _ rfl; refine blk_put (cs := #[.int .i64 t105, .int .i64 t106, .int .i64 t107, .int .i64 t108, .int .i64 0, .int .i64 0, .int .i64 0]) ?_ 4 _ rfl; refine blk_put (cs := #[.int .i64 t105, .int .i64 t106, .int .i64 t107, .int .i64 0, .int .i64 0, .int .i64 0, .int .i64 0]) ?_ 3 _ rfl; refine blk_put (cs := #[.int .i64 t105, .int .i64 t106, .int .i64 0, .int .i64 0, .int .i64 0, .int .i64 0, .int .i64 0]) ?_ 2 _ rfl; refine blk_put (cs := #[.int .i64 t105, .int .i64 0, .int .i64 0, .int .i64 0, .int .i64 0, .int .i64 0, .int .i64 0]) ?_ 1 _ rfl; refine blk_put (cs := #[.int .i64 0, .int .i64 0, .int .i64 0, .int .i64 0, .int .i64 0, .int .i64 0, .int .i64 0]) ?_ 0 _ rfl; (with_reducible repeat (first | refine bkN ?_ _ | refine bkd ?_ | refine bka ?_ _)); exact BK113.out, by repeat (first | (with_reducible first | exact HB.out | apply pba | apply pbN | apply pb1 | refine pbs ?_ GE113.out) | exact HB.out)⟩ ?_
  rintro W ⟨K113, KB⟩
  (try clear ha0 ha1 ha2 ha3 ha4 ha5 ha6 hc0 hc1 hc2 hc3 hc4 hc5 hc6)
  have ha0 : W.cell? ⟨gb113, 0, none⟩ = some (.int .i64 t105) := (bcl K113 0).trans rfl
  have hc0 := bfz K113 0
  have ha1 : W.cell? ⟨gb113, 1, none⟩ = some (.int .i64 t106) := (bcl K113 1).trans rfl
  have hc1 := bfz K113 1
  have ha2 : W.cell? ⟨gb113, 2, none⟩ = some (.int .i64 t107) := (bcl K113 2).trans rfl
  have hc2 := bfz K113 2
  have ha3 : W.cell? ⟨gb113, 3, none⟩ = some (.int .i64 t108) := (bcl K113 3).trans rfl
  have hc3 := bfz K113 3
  have ha4 : W.cell? ⟨gb113, 4, none⟩ = some (.int .i64 t109) := (bcl K113 4).trans rfl
  have hc4 := bfz K113 4
  have ha5 : W.cell? ⟨gb113, 5, none⟩ = some (.int .i64 t110) := (bcl K113 5).trans rfl
  have hc5 := bfz K113 5
  have ha6 : W.cell? ⟨gb113, 6, none⟩ = some (.int .i64 t111) := (bcl K113 6).trans rfl
  have hc6 := bfz K113 6
  clear BK113 HB
  have BK113 := Ad.mk K113
  have HB := Ad.mk KB
  clear K113 KB
  by_cases c4 : t112 = 0
  · rw [if_pos c4] at H
    have c4b0 : (t112 == 0) = true := beq_iff_eq.mpr c4
    have c4b1 : (t112 != 0) = false := bne_eq_false_iff_eq.mpr c4
    clear c4
    go_upto_region 5 with fail
    refine at_world (fun W => W.heap[gb113]? = some (.cells #[.int .i64 t105, .int .i64 (wrap64 (t106 + a1)), .int .i64 1, .int .i64 0, .int .i64 0, .int .i64 0, .int .i64 0] 48 (0, 0)) ∧ Below w.heap.size w W) ⟨by (with_reducible repeat (first | refine bkN ?_ _ | refine bkd ?_ | refine bka ?_ _)); refine blk_put (cs := #[.int .i64 t105, .int .i64 (wrap64 (t106 + a1)), .int .i64 1, .int .i64 0, .int .i64 0, .int .i64 0, .int .i64 t111]) ?_ 6 _ rfl; refine blk_put (cs := #[.int .i64 t105, .int .i64 (wrap64 (t106 + a1)), .int .i64 1, .int .i64 0, .int .i64 0, .int .i64 t110, .int .i64 t111]) ?_ 5 _ rfl; refine blk_put (cs := #[.int .i64 t105, .int .i64 (wrap64 (t106 + a1)), .int .i64 1, .int .i64 0, .int .i64 t109, .int .i64 t110, .int .i64 t111]) ?_ 4 _ rfl; refine blk_put (cs := #[.int .i64 t105, .int .i64 (wrap64 (t106 + a1)), .int .i64 1, .int .i64 t108, .int .i64 t109, .int .i64 t110, .int .i64 t111]) ?_ 3 _ rfl; refine blk_put (cs := #[.int .i64 t105, .int .i64 (wrap64 (t106 + a1)), .int .i64 t107, .int .i64 t108, .int .i64 t109, .int .i64 t110, .int .i64 t111]) ?_ 2 _ rfl; refine blk_put (cs := #[.int .i64 t105, .int .i64 t106, .int .i64 t107, .int .i64 t108, .int .i64 t109, .int .i64 t110, .int .i64 t111]) ?_ 1 _ rfl; refine blk_put (cs := #[.int .i64 t105, .int .i64 t106, .int .i64 t107, .int .i64 t108, .int .i64 t109, .int .i64 t110, .int .i64 t111]) ?_ 0 _ rfl; (with_reducible repeat (first | refine bkN ?_ _ | refine bkd ?_ | refine bka ?_ _)); exact BK113.out, by repeat (first | (with_reducible first | exact HB.out | apply pba | apply pbN | apply pb1 | refine pbs ?_ GE113.out) | exact HB.out)⟩ ?_
    rintro W ⟨K113, KB⟩
    (try clear ha0 ha1 ha2 ha3 ha4 ha5 ha6 hc0 hc1 hc2 hc3 hc4 hc5 hc6)
    have ha0 : W.cell? ⟨gb113, 0, none⟩ = some (.int .i64 t105) := (bcl K113 0).trans rfl
    have hc0 := bfz K113 0
    have ha1 : W.cell? ⟨gb113, 1, none⟩ = some (.int .i64 (wrap64 (t106 + a1))) := (bcl K113 1).trans rfl
    have hc1 := bfz K113 1
    have ha2 : W.cell? ⟨gb113, 2, none⟩ = some (.int .i64 1) := (bcl K113 2).trans rfl
    have hc2 := bfz K113 2
    have ha3 : W.cell? ⟨gb113, 3, none⟩ = some (.int .i64 0) := (bcl K113 3).trans rfl
    have hc3 := bfz K113 3
    have ha4 : W.cell? ⟨gb113, 4, none⟩ = some (.int .i64 0) := (bcl K113 4).trans rfl
    have hc4 := bfz K113 4
    have ha5 : W.cell? ⟨gb113, 5, none⟩ = some (.int .i64 0) := (bcl K113 5).trans rfl
    have hc5 := bfz K113 5
    have ha6 : W.cell? ⟨gb113, 6, none⟩ = some (.int .i64 0) := (bcl K113 6).trans rfl
    have hc6 := bfz K113 6
    clear BK113 HB
    have BK113 := Ad.mk K113
    have HB := Ad.mk KB
    clear K113 KB
    by_cases c5 : (wrap64 (t106 + a1)) > 12
    · rw [if_pos c5] at H
      have c5b0 : decide (12 < (wrap64 (t106 + a1))) = true := decide_eq_true c5
      have c5b1 : decide ((wrap64 (t106 + a1)) > 12) = true := decide_eq_true c5
      clear c5
      replace H := Option.bind_eq_some_iff.mp H
      obtain ⟨⟨t114, t115⟩, A60, H⟩ := H
      replace H : (some (t114, (t115 == 0))) = some (r1, r2) := H
      have A6 := Ad.mk A60
      clear A60
      simp only [Option.some.injEq, Prod.mk.injEq] at H
      obtain ⟨rfl, rfl⟩ := H
      go_upto_region 7 with fail
      refine at_world (fun W => W.heap[gb113]? = some (.cells #[.int .i64 (wrap64 (t105 + 1)), .int .i64 1, .int .i64 1, .int .i64 0, .int .i64 0, .int .i64 0, .int .i64 0] 48 (0, 0)) ∧ Below w.heap.size w W) ⟨by (with_reducible repeat (first | refine bkN ?_ _ | refine bkd ?_ | refine bka ?_ _)); refine blk_put (cs := #[.int .i64 (wrap64 (t105 + 1)), .int .i64 (wrap64 (t106 + a1)), .int .i64 1, .int .i64 0, .int .i64 0, .int .i64 0, .int .i64 0]) ?_ 1 _ rfl; refine blk_put (cs := #[.int .i64 t105, .int .i64 (wrap64 (t106 + a1)), .int .i64 1, .int .i64 0, .int .i64 0, .int .i64 0, .int .i64 0]) ?_ 0 _ rfl; (with_reducible repeat (first | refine bkN ?_ _ | refine bkd ?_ | refine bka ?_ _)); exact BK113.out, by repeat (first | (with_reducible first | exact HB.out | apply pba | apply pbN | apply pb1 | refine pbs ?_ GE113.out) | exact HB.out)⟩ ?_
      rintro W ⟨K113, KB⟩
      (try clear ha0 ha1 ha2 ha3 ha4 ha5 ha6 hc0 hc1 hc2 hc3 hc4 hc5 hc6)
      have ha0 : W.cell? ⟨gb113, 0, none⟩ = some (.int .i64 (wrap64 (t105 + 1))) := (bcl K113 0).trans rfl
      have hc0 := bfz K113 0
      have ha1 : W.cell? ⟨gb113, 1, none⟩ = some (.int .i64 1) := (bcl K113 1).trans rfl
      have hc1 := bfz K113 1
      have ha2 : W.cell? ⟨gb113, 2, none⟩ = some (.int .i64 1) := (bcl K113 2).trans rfl
      have hc2 := bfz K113 2
      have ha3 : W.cell? ⟨gb113, 3, none⟩ = some (.int .i64 0) := (bcl K113 3).trans rfl
      have hc3 := bfz K113 3
      have ha4 : W.cell? ⟨gb113, 4, none⟩ = some (.int .i64 0) := (bcl K113 4).trans rfl
      have hc4 := bfz K113 4
      have ha5 : W.cell? ⟨gb113, 5, none⟩ = some (.int .i64 0) := (bcl K113 5).trans rfl
      have hc5 := bfz K113 5
      have ha6 : W.cell? ⟨gb113, 6, none⟩ = some (.int .i64 0) := (bcl K113 6).trans rfl
      have hc6 := bfz K113 6
      clear BK113 HB
      have BK113 := Ad.mk K113
      have HB := Ad.mk KB
      clear K113 KB
      go_wp2_with (first | ((with_reducible refine gate_callee (f := 43) rfl ?_); refine goesL_ (some 33) rfl rfl Tryd.func43 (by kernel_rfl) rfl #[.agg #[.int .i64 (wrap64 (t105 + 1)), .int .i64 1, .int .i64 1, .int .i64 0, .int .i64 0, .int .i64 0, .int .i64 0]] rfl (by (try simp only [List.map_toArray, List.map_cons, List.map_nil]); first | done | rfl) ?_; (with_reducible refine (civil_Seconds.calls (wrap64 (t105 + 1)) 1 1 0 0 0 0 t114 t115 _ A6.out).mono ?_); rintro e w10 ⟨rfl, hb⟩; refine ⟨_, rfl, ?_⟩; have HB9 := Ad.mk (pbt (by repeat (first | (with_reducible first | exact HB.out | apply pba | apply pbN | apply pb1 | refine pbs ?_ GE113.out) | exact HB.out)) hb); clear hb) | fail)
      go_ret2
      exact ⟨by first | rfl | (simp; done) | (simp [*]; done), by repeat (first | (with_reducible first | exact HB9.out | apply pba | apply pbN | apply pb1) | exact HB9.out)⟩
    · rw [if_neg c5] at H
      have c5b0 : decide (12 < (wrap64 (t106 + a1))) = false := decide_eq_false c5
      have c5b1 : decide ((wrap64 (t106 + a1)) > 12) = false := decide_eq_false c5
      clear c5
      replace H := Option.bind_eq_some_iff.mp H
      obtain ⟨⟨t116, t117⟩, A60, H⟩ := H
      replace H : (some (t116, (t117 == 0))) = some (r1, r2) := H
      have A6 := Ad.mk A60
      clear A60
      simp only [Option.some.injEq, Prod.mk.injEq] at H
      obtain ⟨rfl, rfl⟩ := H
      go_wp2_with (first | ((with_reducible refine gate_callee (f := 43) rfl ?_); refine goesL_ (some 33) rfl rfl Tryd.func43 (by kernel_rfl) rfl #[.agg #[.int .i64 t105, .int .i64 (wrap64 (t106 + a1)), .int .i64 1, .int .i64 0, .int .i64 0, .int .i64 0, .int .i64 0]] rfl (by (try simp only [List.map_toArray, List.map_cons, List.map_nil]); first | done | rfl) ?_; (with_reducible refine (civil_Seconds.calls t105 (wrap64 (t106 + a1)) 1 0 0 0 0 t116 t117 _ A6.out).mono ?_); rintro e w10 ⟨rfl, hb⟩; refine ⟨_, rfl, ?_⟩; have HB9 := Ad.mk (pbt (by repeat (first | (with_reducible first | exact HB.out | apply pba | apply pbN | apply pb1 | refine pbs ?_ GE113.out) | exact HB.out)) hb); clear hb) | fail)
      go_ret2
      exact ⟨by first | rfl | (simp; done) | (simp [*]; done), by repeat (first | (with_reducible first | exact HB9.out | apply pba | apply pbN | apply pb1) | exact HB9.out)⟩
  · rw [if_neg c4] at H
    have c4b0 : (t112 == 0) = false := beq_eq_false_iff_ne.mpr c4
    have c4b1 : (t112 != 0) = true := bne_iff_ne.mpr c4
    simp only [Option.some.injEq, Prod.mk.injEq] at H
    obtain ⟨rfl, rfl⟩ := H
    go_wp2
    go_ret2
    exact ⟨by first | rfl | (simp; done), by repeat (first | (with_reducible first | exact HB.out | apply pba | apply pbN | apply pb1 | refine pbs ?_ GE113.out) | exact HB.out)⟩
end Go.Proofs.YtipbkcilpnlgnaaDoor.M
