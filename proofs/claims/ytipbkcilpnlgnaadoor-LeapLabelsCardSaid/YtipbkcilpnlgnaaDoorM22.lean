-- printed
-- tight (tight.py)
import Derived.Test.YtipbkcilpnlgnaaDoorM0
import Derived.Test.YtipbkcilpnlgnaaDoorMD
import Derived.Test.YtipbkcilpnlgnaaDoorM12
import Derived.Test.YtipbkcilpnlgnaaDoorM17
import Derived.Test.YtipbkcilpnlgnaaDoorM21
namespace Go.Proofs.YtipbkcilpnlgnaaDoor.M
open Go.RowKit Go.Proofs.YtipbkcilpnlgnaaDoorG Go.Proofs.YtipbkcilpnlgnaaDoorW.PA Go.Proofs.YtipbkcilpnlgnaaDoorW.PB Go.Proofs.YtipbkcilpnlgnaaDoorW.PC
attribute [local go_sem] max2_int min2_int max_two min_two max_three min_three max_four min_four   -- for this text's walks alone
set_option linter.unusedVariables false
set_option linter.unusedSimpArgs false

/-! ### r6_UTC: function 16 -/
set_option maxHeartbeats 8000000 in
set_option maxRecDepth 100000 in
theorem r6_UTC.calls (k : Nat) (a0_0 : Int) (a0_1 : Int) (A0_2 : Option Addr) (c0_2 : Nat) (l0_2 : List (S44)) (a1 : Int) (r1 : Int) (r2 : Bool) (r3 : Int) (w : World) (hr0_2 : Kd.C k44 w A0_2 l0_2.length l0_2) (hc0_2 : l0_2.length ≤ c0_2) (h : r6_UTC.f k a0_0 a0_1 l0_2 a1 = some (r1, r2, r3)) :
  Calls Tryd.prog 16 #[.agg #[.int .i64 a0_0, .int .i64 a0_1, .slice A0_2 l0_2.length c0_2], .int .i64 a1] w fun e w' => e = .returned (.tuple #[.int .i64 r1, .bool r2, .int .i64 r3]) ∧ Below w.heap.size w w' := by
 have hu24 := Tryd.underlying24
 have HR0_2 := Ad.mk hr0_2
 have HC0_2 := Ad.mk hc0_2
 clear hr0_2 hc0_2
 have HB := Ad.mk (Below.refl w.heap.size w)
 have H : ((r6_Check.f k a0_0 a0_1 l0_2).bind fun t279 => (if t279 = 0 then ((r6_in.f a1 8000002000).bind fun t280 => (if t280 = true then (r6_UTC.l0 k a1 (-1) a0_0 a0_1 l0_2) else (some (0, false, 3)))) else (some (0, false, t279)))) = some (r1, r2, r3) := h
 clear h
 replace H := Option.bind_eq_some_iff.mp H
 obtain ⟨t279, A30, H⟩ := H
 replace H : (if t279 = 0 then ((r6_in.f a1 8000002000).bind fun t280 => (if t280 = true then (r6_UTC.l0 k a1 (-1) a0_0 a0_1 l0_2) else (some (0, false, 3)))) else (some (0, false, t279))) = some (r1, r2, r3) := H
 have A3 := Ad.mk A30
 clear A30
 by_cases c4 : t279 = 0
 ·rw [if_pos c4] at H
  have c4b0 : (t279 == 0) = true := beq_iff_eq.mpr c4
  have c4b1 : (t279 != 0) = false := bne_eq_false_iff_eq.mpr c4
  clear c4
  replace H := Option.bind_eq_some_iff.mp H
  obtain ⟨t280, A50, H⟩ := H
  replace H : (if t280 = true then (r6_UTC.l0 k a1 (-1) a0_0 a0_1 l0_2) else (some (0, false, 3))) = some (r1, r2, r3) := H
  have A5 := Ad.mk A50
  clear A50
  by_cases c6 : t280 = true
  ·subst c6
   have H1 : (r6_UTC.l0 k a1 (-1) a0_0 a0_1 l0_2) = some (r1, r2, r3) := by rw [if_pos rfl] at H; exact H
   clear H
   have H := H1
   clear H1
   have H' := Ad.mk H
   clear H
   go_enter Tryd.func16, Tryd.ntmps16
   go_wp2_with (first | ((with_reducible refine gate_dst (N := 2) rfl ?_); refine box_event ?hg (N := 2) ?hd (cs := #[.int .i64 a0_0, .int .i64 a0_1, .slice A0_2 l0_2.length c0_2]) (t := 24) ?hr ?_; (case hd => rfl); (case hg => rfl); (case hr => first | (go_simp; done) | (go_simp; rfl)); intro gb278 hg w7 hbox hb; have n0_ := Ad.mk (pbt (by repeat (first | (with_reducible first | exact HB.out | apply pba | apply pbN | apply pb1) | exact HB.out)) hb); have n1_ := Ad.mk (hbox); have n2_ := Ad.mk ((by rw [hg]; exact (pbz (by repeat (first | (with_reducible first | exact HB.out | apply pba | apply pbN | apply pb1) | exact HB.out))) : w.heap.size ≤ gb278)); have n3_ := Ad.mk ((by rw [hg]; exact (pbz (by repeat (first | (with_reducible first | exact HB.out | apply pba | apply pbN | apply pb1) | exact HB.out))) : w.heap.size ≤ gb278)); clear HB; have HB := n0_; have BK278 := n1_; have GW278 := n2_; have GE278 := n3_; clear n0_ n1_ n2_ n3_; clear hb hbox hg; have hcz8_0 : w7.cell? ⟨gb278, 0, none⟩ = some (.int .i64 a0_0) := (bcl BK278.out 0).trans rfl; have hcz8_1 : w7.cell? ⟨gb278, 1, none⟩ = some (.int .i64 a0_1) := (bcl BK278.out 1).trans rfl; have hcz8_2 : w7.cell? ⟨gb278, 2, none⟩ = some (.slice A0_2 l0_2.length c0_2) := (bcl BK278.out 2).trans rfl; have hfz8_0 := bfz BK278.out 0; have hfz8_1 := bfz BK278.out 1; have hfz8_2 := bfz BK278.out 2) | ((with_reducible refine gate_callee (f := 12) rfl ?_); refine goesL_ (some 15) rfl rfl Tryd.func12 (by kernel_rfl) rfl #[.agg #[.int .i64 a0_0, .int .i64 a0_1, .slice A0_2 l0_2.length c0_2]] rfl (by (try simp only [List.map_toArray, List.map_cons, List.map_nil]); first | done | rfl | (simp only [List.length_drop, List.length_take]; rfl)) ?_; (with_reducible refine (r6_Check.calls k a0_0 a0_1 _ _ l0_2 t279 _ ?side1 ?side2 A3.out).mono ?_); (case side1 => repeat (first | exact (Kd.C_below HR0_2.out HB.out) | (with_reducible refine Kd.C_alloc ?_ _) | (with_reducible refine Kd.C_drewN ?_ _) | (with_reducible refine Kd.C_drew ?_))); (case side2 => exact HC0_2.out); rintro e w9 ⟨rfl, hb⟩; refine ⟨_, rfl, ?_⟩; have n0_ := Ad.mk (bbl (g := gb278) (o := .cells #[.int .i64 a0_0, .int .i64 a0_1, .slice A0_2 l0_2.length c0_2] 24 (0, 0)) (by (with_reducible repeat (first | refine bkN ?_ _ | refine bkd ?_ | refine bka ?_ _)); exact BK278.out) hb); have n1_ := Ad.mk (pbt (by repeat (first | (with_reducible first | exact HB.out | apply pba | apply pbN | apply pb1 | refine pbs ?_ GE278.out) | exact HB.out)) hb); clear BK278; clear HB; have BK278 := n0_; have HB := n1_; clear n0_ n1_; (try clear hb); (try clear hb2); (try clear hk); (try clear hi)) | ((with_reducible refine gate_callee (f := 27) rfl ?_); refine goesL_ (some 20) rfl rfl Tryd.func27 (by kernel_rfl) rfl #[.int .i64 a1, .int .i64 8000002000] rfl (by (try simp only [List.map_toArray, List.map_cons, List.map_nil]); first | done | rfl | (simp only [List.length_drop, List.length_take]; rfl)) ?_; (with_reducible refine (r6_in.calls a1 8000002000 true _ A5.out).mono ?_); rintro e w' ⟨rfl, ⟨nd, rfl⟩⟩; refine ⟨_, rfl, ?_⟩))
   go_loopg [8] k (fun kq v8 w' => ∃ (x8_1 : Int), v8 = .int .i64 x8_1 ∧ Ad (r6_UTC.l0 kq a1 x8_1 a0_0 a0_1 l0_2 = some (r1, r2, r3)) ∧ Ad (kq ≤ k) ∧ Ad (w'.heap[gb278]? = some (.cells #[.int .i64 a0_0, .int .i64 a0_1, (.slice A0_2 l0_2.length c0_2)] 24 (0, 0))) ∧ Ad (Below w.heap.size w w'))
   case atStart => exact ⟨((-1)), (by first | rfl | (simp; done) | (simp [*]; done)), H', ⟨Nat.le_refl _⟩, ⟨by (with_reducible repeat (first | refine bkN ?_ _ | refine bkd ?_ | refine bka ?_ _)); exact BK278.out⟩, ⟨by repeat (first | (with_reducible first | exact HB.out | apply pba | apply pbN | apply pb1 | refine pbs ?_ GE278.out) | exact HB.out)⟩⟩
   case round =>
    clear H'
    obtain ⟨x8_1, rfl, HA, HK1, BK278, HB⟩ := hrel
    cases gk with
    | zero => exact absurd HA.out (by simp [r6_UTC.l0])
    | succ k1 =>
     have H := HA.out
     clear HA
     simp only [r6_UTC.l0] at H
     by_cases c10 : x8_1 < (l0_2.length : Int)
     ·rw [if_pos c10] at H
      have c10b0 : decide (x8_1 < (l0_2.length : Int)) = true := decide_eq_true c10
      clear c10
      have HC11 := Ad.mk H
      clear H
      have hcz12_0 : wr.cell? ⟨gb278, 0, none⟩ = some (.int .i64 a0_0) := (bcl BK278.out 0).trans rfl
      have hcz12_1 : wr.cell? ⟨gb278, 1, none⟩ = some (.int .i64 a0_1) := (bcl BK278.out 1).trans rfl
      have hcz12_2 : wr.cell? ⟨gb278, 2, none⟩ = some (.slice A0_2 l0_2.length c0_2) := (bcl BK278.out 2).trans rfl
      have hfz12_0 := bfz BK278.out 0
      have hfz12_1 := bfz BK278.out 1
      have hfz12_2 := bfz BK278.out 2
      go_upto_if 34 with (fail)
      go_cut [9] (fun v9 wc => ∃ (kq : Nat) (x9_10 : Int), v9 = .int .i64 x9_10 ∧ Ad (r6_UTC.j1 kq a1 x8_1 x9_10 a0_0 a0_1 l0_2 = some (r1, r2, r3)) ∧ Ad (kq ≤ k1) ∧ Ad (wc.heap[gb278]? = some (.cells #[.int .i64 a0_0, .int .i64 a0_1, (.slice A0_2 l0_2.length c0_2)] 24 (0, 0))) ∧ Ad (Below w.heap.size w wc))
      case first =>
       have H := HC11.out
       clear HC11
       by_cases c13 : x8_1 ≥ 0
       ·rw [if_pos c13] at H
        have c13b0 : decide (0 ≤ x8_1) = true := decide_eq_true c13
        clear c13
        (first | rw [c13b0] | (simp only [i64_w, i32_w]; rw [c13b0]) | skip)
        by_cases c14 : 0 ≤ x8_1
        ·rw [if_pos c14] at H
         have c14b0 : decide (0 ≤ x8_1) = true := decide_eq_true c14
         clear c14
         have H' := Ad.mk H
         clear H
         have hcz15_0 : wr.cell? ⟨gb278, 0, none⟩ = some (.int .i64 a0_0) := (bcl BK278.out 0).trans rfl
         have hcz15_1 : wr.cell? ⟨gb278, 1, none⟩ = some (.int .i64 a0_1) := (bcl BK278.out 1).trans rfl
         have hcz15_2 : wr.cell? ⟨gb278, 2, none⟩ = some (.slice A0_2 l0_2.length c0_2) := (bcl BK278.out 2).trans rfl
         have hfz15_0 := bfz BK278.out 0
         have hfz15_1 := bfz BK278.out 1
         have hfz15_2 := bfz BK278.out 2
         have p281 : 0 ≤ (x8_1 : Int) := of_decide_eq_true (by first | (with_reducible assumption) | assumption)
         have q281 : x8_1 < (l0_2.length : Int) := of_decide_eq_true (by first | (with_reducible assumption) | assumption)
         obtain ⟨ad281, e281, hx281_0, hx281_1⟩ := at_T44 HR0_2.out x8_1 p281 q281
         cases e281
         replace hx281_0 := (HB.out.cell (World.block_lt_of_cell? w _ hx281_0)).trans hx281_0
         replace hx281_1 := (HB.out.cell (World.block_lt_of_cell? w _ hx281_1)).trans hx281_1
         replace p281 := eq_true p281
         replace q281 := eq_true q281
         go_wp2
         go_meet
         case rel => exact ⟨_, (wrap64 (a1 - ((rd_T44 l0_2 x8_1).f1))), (by first | rfl | (simp; done) | (simp [*]; done)), H', ⟨by have := HK1.out; first | omega | exact Nat.le_refl _⟩, ⟨by (with_reducible repeat (first | refine bkN ?_ _ | refine bkd ?_ | refine bka ?_ _)); exact BK278.out⟩, ⟨by repeat (first | (with_reducible first | exact HB.out | apply pba | apply pbN | apply pb1 | refine pbs ?_ GE278.out) | exact HB.out)⟩⟩
        ·rw [if_neg c14] at H
         exact absurd H (by simp)
       ·rw [if_neg c13] at H
        have c13b0 : decide (0 ≤ x8_1) = false := decide_eq_false c13
        clear c13
        (first | rw [c13b0] | (simp only [i64_w, i32_w]; rw [c13b0]) | skip)
        have H' := Ad.mk H
        clear H
        go_wp2
        go_meet
        case rel => exact ⟨_, (wrap64 (a1 - a0_0)), (by first | rfl | (simp; done) | (simp [*]; done)), H', ⟨by have := HK1.out; first | omega | exact Nat.le_refl _⟩, ⟨by (with_reducible repeat (first | refine bkN ?_ _ | refine bkd ?_ | refine bka ?_ _)); exact BK278.out⟩, ⟨by repeat (first | (with_reducible first | exact HB.out | apply pba | apply pbN | apply pb1 | refine pbs ?_ GE278.out) | exact HB.out)⟩⟩
      case rest =>
       clear HC11
       obtain ⟨kq, x9_10, rfl, HA, HJ10, BK278, HB⟩ := hcut
       cases kq with
       | zero => exact absurd HA.out (by simp [r6_UTC.j1])
       | succ kj10 =>
        have H := HA.out
        clear HA
        simp only [r6_UTC.j1] at H
        replace H := Option.bind_eq_some_iff.mp H
        obtain ⟨⟨t282, t283⟩, A160, H⟩ := H
        replace H : (if t283 = 0 then (r6_UTC.j2 kj10 a1 x8_1 x9_10 (t282 == a1) a0_0 a0_1 l0_2) else (r6_UTC.j2 kj10 a1 x8_1 x9_10 false a0_0 a0_1 l0_2)) = some (r1, r2, r3) := H
        have A16 := Ad.mk A160
        clear A160
        have HC17 := Ad.mk H
        clear H
        have hcz18_0 : wc.cell? ⟨gb278, 0, none⟩ = some (.int .i64 a0_0) := (bcl BK278.out 0).trans rfl
        have hcz18_1 : wc.cell? ⟨gb278, 1, none⟩ = some (.int .i64 a0_1) := (bcl BK278.out 1).trans rfl
        have hcz18_2 : wc.cell? ⟨gb278, 2, none⟩ = some (.slice A0_2 l0_2.length c0_2) := (bcl BK278.out 2).trans rfl
        have hfz18_0 := bfz BK278.out 0
        have hfz18_1 := bfz BK278.out 1
        have hfz18_2 := bfz BK278.out 2
        go_upto_region 13 with (first | ((with_reducible refine gate_callee (f := 14) rfl ?_); refine goesL_ (some 46) rfl rfl Tryd.func14 (by kernel_rfl) rfl #[.agg #[.int .i64 a0_0, .int .i64 a0_1, .slice A0_2 l0_2.length c0_2], .int .i64 x9_10, .bool false] rfl (by (try simp only [List.map_toArray, List.map_cons, List.map_nil]); first | done | rfl | (simp only [List.length_drop, List.length_take]; rfl)) ?_; (with_reducible refine (r6_TAI.calls kj10 a0_0 a0_1 _ _ l0_2 x9_10 false t282 t283 _ ?side1 ?side2 A16.out).mono ?_); (case side1 => repeat (first | exact (Kd.C_below HR0_2.out HB.out) | (with_reducible refine Kd.C_alloc ?_ _) | (with_reducible refine Kd.C_drewN ?_ _) | (with_reducible refine Kd.C_drew ?_))); (case side2 => exact HC0_2.out); rintro e w19 ⟨rfl, hb⟩; refine ⟨_, rfl, ?_⟩; have n0_ := Ad.mk (bbl (g := gb278) (o := .cells #[.int .i64 a0_0, .int .i64 a0_1, .slice A0_2 l0_2.length c0_2] 24 (0, 0)) (by (with_reducible repeat (first | refine bkN ?_ _ | refine bkd ?_ | refine bka ?_ _)); exact BK278.out) hb); have n1_ := Ad.mk (pbt (by repeat (first | (with_reducible first | exact HB.out | apply pba | apply pbN | apply pb1 | refine pbs ?_ GE278.out) | exact HB.out)) hb); clear BK278; clear HB; have BK278 := n0_; have HB := n1_; clear n0_ n1_; (try clear hb); (try clear hb2); (try clear hk); (try clear hi)))
        (try simp only [Act.put, List.setIfInBounds_toArray, List.set_cons_zero, List.set_cons_succ])
        go_cut [55] (fun v55 wc => ∃ (kq : Nat) (x55_16 : Bool), v55 = .bool x55_16 ∧ Ad (r6_UTC.j2 kq a1 x8_1 x9_10 x55_16 a0_0 a0_1 l0_2 = some (r1, r2, r3)) ∧ Ad (kq ≤ kj10) ∧ Ad (wc.heap[gb278]? = some (.cells #[.int .i64 a0_0, .int .i64 a0_1, (.slice A0_2 l0_2.length c0_2)] 24 (0, 0))) ∧ Ad (Below w.heap.size w wc))
        case first =>
         have H := HC17.out
         clear HC17
         by_cases c20 : t283 = 0
         ·rw [if_pos c20] at H
          have c20b0 : (t283 == 0) = true := beq_iff_eq.mpr c20
          have c20b1 : (t283 != 0) = false := bne_eq_false_iff_eq.mpr c20
          clear c20
          (first | rw [c20b0] | (simp only [i64_w, i32_w]; rw [c20b0]) | skip)
          have H' := Ad.mk H
          clear H
          go_wp2
          go_meet
          case rel => exact ⟨_, ((t282 == a1)), (by first | rfl | (simp; done) | (simp [*]; done)), H', ⟨by have := HK1.out; have := HJ10.out; first | omega | exact Nat.le_refl _⟩, ⟨by (with_reducible repeat (first | refine bkN ?_ _ | refine bkd ?_ | refine bka ?_ _)); exact BK278.out⟩, ⟨by repeat (first | (with_reducible first | exact HB.out | apply pba | apply pbN | apply pb1 | refine pbs ?_ GE278.out) | exact HB.out)⟩⟩
         ·rw [if_neg c20] at H
          have c20b0 : (t283 == 0) = false := beq_eq_false_iff_ne.mpr c20
          have c20b1 : (t283 != 0) = true := bne_iff_ne.mpr c20
          (first | rw [c20b0] | (simp only [i64_w, i32_w]; rw [c20b0]) | skip)
          have H' := Ad.mk H
          clear H
          go_wp2
          go_meet
          case rel => exact ⟨_, (false), (by first | rfl | (simp; done) | (simp [*]; done)), H', ⟨by have := HK1.out; have := HJ10.out; first | omega | exact Nat.le_refl _⟩, ⟨by (with_reducible repeat (first | refine bkN ?_ _ | refine bkd ?_ | refine bka ?_ _)); exact BK278.out⟩, ⟨by repeat (first | (with_reducible first | exact HB.out | apply pba | apply pbN | apply pb1 | refine pbs ?_ GE278.out) | exact HB.out)⟩⟩
        case rest =>
         clear HC17
         obtain ⟨kq, x55_16, rfl, HA, HJ16, BK278, HB⟩ := hcut
         cases kq with
         | zero => exact absurd HA.out (by simp [r6_UTC.j2])
         | succ kj16 =>
          have H := HA.out
          clear HA
          simp only [r6_UTC.j2] at H
          by_cases c21 : x55_16 = true
          ·subst c21
           have H1 : (some (x9_10, false, 0)) = some (r1, r2, r3) := by rw [if_pos rfl] at H; exact H
           clear H
           have H := H1
           clear H1
           simp only [Option.some.injEq, Prod.mk.injEq] at H
           obtain ⟨rfl, rfl, rfl⟩ := H
           go_wp2
           go_ret3
           exact ⟨by first | rfl | (simp [ewn, ews] <;> rfl) | (simp [*, ewn, ews] <;> rfl), by repeat (first | (with_reducible first | exact HB.out | apply pba | apply pbN | apply pb1 | refine pbs ?_ GE278.out) | exact HB.out)⟩
          ·replace c21 := Bool.eq_false_iff.mpr c21
           subst c21
           have H1 : ((r6_TAI.f kj16 a0_0 a0_1 l0_2 (wrap64 (x9_10 - 1)) true).bind fun bt284 => (if bt284.2 = 0 then (if bt284.1 = a1 then (some (wrap64 (x9_10 - 1), true, 0)) else (r6_UTC.l0 kj16 a1 (wrap64 (x8_1 + 1)) a0_0 a0_1 l0_2)) else (r6_UTC.l0 kj16 a1 (wrap64 (x8_1 + 1)) a0_0 a0_1 l0_2))) = some (r1, r2, r3) := by rw [if_neg (show ¬ (false = true) by decide)] at H; exact H
           clear H
           have H := H1
           clear H1
           replace H := Option.bind_eq_some_iff.mp H
           obtain ⟨⟨t284, t285⟩, A220, H⟩ := H
           replace H : (if t285 = 0 then (if t284 = a1 then (some (wrap64 (x9_10 - 1), true, 0)) else (r6_UTC.l0 kj16 a1 (wrap64 (x8_1 + 1)) a0_0 a0_1 l0_2)) else (r6_UTC.l0 kj16 a1 (wrap64 (x8_1 + 1)) a0_0 a0_1 l0_2)) = some (r1, r2, r3) := H
           have A22 := Ad.mk A220
           clear A220
           by_cases c23 : t285 = 0
           ·rw [if_pos c23] at H
            have c23b0 : (t285 == 0) = true := beq_iff_eq.mpr c23
            have c23b1 : (t285 != 0) = false := bne_eq_false_iff_eq.mpr c23
            clear c23
            by_cases c24 : t284 = a1
            ·rw [if_pos c24] at H
             have c24b0 : (t284 == a1) = true := beq_iff_eq.mpr c24
             have c24b1 : (t284 != a1) = false := bne_eq_false_iff_eq.mpr c24
             clear c24
             simp only [Option.some.injEq, Prod.mk.injEq] at H
             obtain ⟨rfl, rfl, rfl⟩ := H
             have hcz25_0 : wc.cell? ⟨gb278, 0, none⟩ = some (.int .i64 a0_0) := (bcl BK278.out 0).trans rfl
             have hcz25_1 : wc.cell? ⟨gb278, 1, none⟩ = some (.int .i64 a0_1) := (bcl BK278.out 1).trans rfl
             have hcz25_2 : wc.cell? ⟨gb278, 2, none⟩ = some (.slice A0_2 l0_2.length c0_2) := (bcl BK278.out 2).trans rfl
             have hfz25_0 := bfz BK278.out 0
             have hfz25_1 := bfz BK278.out 1
             have hfz25_2 := bfz BK278.out 2
             go_wp2_with (first | ((with_reducible refine gate_callee (f := 14) rfl ?_); refine goesL_ (some 61) rfl rfl Tryd.func14 (by kernel_rfl) rfl #[.agg #[.int .i64 a0_0, .int .i64 a0_1, .slice A0_2 l0_2.length c0_2], .int .i64 (wrap64 (x9_10 - 1)), .bool true] rfl (by (try simp only [List.map_toArray, List.map_cons, List.map_nil]); first | done | rfl | (exact congrArg (fun z_ : Int => #[(.agg #[.int .i64 a0_0, .int .i64 a0_1, .slice A0_2 l0_2.length c0_2] : Value), .int .i64 z_, (.bool true : Value)]) (show (x9_10 - 1) = wrap64 (x9_10 - 1) from by unfold wrap64; omega)) | (simp only [List.length_drop, List.length_take]; rfl)) ?_; (with_reducible refine (r6_TAI.calls kj16 a0_0 a0_1 _ _ l0_2 (wrap64 (x9_10 - 1)) true t284 t285 _ ?side1 ?side2 A22.out).mono ?_); (case side1 => repeat (first | exact (Kd.C_below HR0_2.out HB.out) | (with_reducible refine Kd.C_alloc ?_ _) | (with_reducible refine Kd.C_drewN ?_ _) | (with_reducible refine Kd.C_drew ?_))); (case side2 => exact HC0_2.out); rintro e w26 ⟨rfl, hb⟩; refine ⟨_, rfl, ?_⟩; have n0_ := Ad.mk (bbl (g := gb278) (o := .cells #[.int .i64 a0_0, .int .i64 a0_1, .slice A0_2 l0_2.length c0_2] 24 (0, 0)) (by (with_reducible repeat (first | refine bkN ?_ _ | refine bkd ?_ | refine bka ?_ _)); exact BK278.out) hb); have n1_ := Ad.mk (pbt (by repeat (first | (with_reducible first | exact HB.out | apply pba | apply pbN | apply pb1 | refine pbs ?_ GE278.out) | exact HB.out)) hb); clear BK278; clear HB; have BK278 := n0_; have HB := n1_; clear n0_ n1_; (try clear hb); (try clear hb2); (try clear hk); (try clear hi)))
             go_ret3
             exact ⟨by first | rfl | (simp [ewn, ews] <;> rfl) | (simp [*, ewn, ews] <;> rfl), by repeat (first | (with_reducible first | exact HB.out | apply pba | apply pbN | apply pb1 | refine pbs ?_ GE278.out) | exact HB.out)⟩
            ·rw [if_neg c24] at H
             have c24b0 : (t284 == a1) = false := beq_eq_false_iff_ne.mpr c24
             have c24b1 : (t284 != a1) = true := bne_iff_ne.mpr c24
             have H' := Ad.mk H
             clear H
             have hcz27_0 : wc.cell? ⟨gb278, 0, none⟩ = some (.int .i64 a0_0) := (bcl BK278.out 0).trans rfl
             have hcz27_1 : wc.cell? ⟨gb278, 1, none⟩ = some (.int .i64 a0_1) := (bcl BK278.out 1).trans rfl
             have hcz27_2 : wc.cell? ⟨gb278, 2, none⟩ = some (.slice A0_2 l0_2.length c0_2) := (bcl BK278.out 2).trans rfl
             have hfz27_0 := bfz BK278.out 0
             have hfz27_1 := bfz BK278.out 1
             have hfz27_2 := bfz BK278.out 2
             go_wp2_with (first | ((with_reducible refine gate_callee (f := 14) rfl ?_); refine goesL_ (some 61) rfl rfl Tryd.func14 (by kernel_rfl) rfl #[.agg #[.int .i64 a0_0, .int .i64 a0_1, .slice A0_2 l0_2.length c0_2], .int .i64 (wrap64 (x9_10 - 1)), .bool true] rfl (by (try simp only [List.map_toArray, List.map_cons, List.map_nil]); first | done | rfl | (exact congrArg (fun z_ : Int => #[(.agg #[.int .i64 a0_0, .int .i64 a0_1, .slice A0_2 l0_2.length c0_2] : Value), .int .i64 z_, (.bool true : Value)]) (show (x9_10 - 1) = wrap64 (x9_10 - 1) from by unfold wrap64; omega)) | (simp only [List.length_drop, List.length_take]; rfl)) ?_; (with_reducible refine (r6_TAI.calls kj16 a0_0 a0_1 _ _ l0_2 (wrap64 (x9_10 - 1)) true t284 t285 _ ?side1 ?side2 A22.out).mono ?_); (case side1 => repeat (first | exact (Kd.C_below HR0_2.out HB.out) | (with_reducible refine Kd.C_alloc ?_ _) | (with_reducible refine Kd.C_drewN ?_ _) | (with_reducible refine Kd.C_drew ?_))); (case side2 => exact HC0_2.out); rintro e w28 ⟨rfl, hb⟩; refine ⟨_, rfl, ?_⟩; have n0_ := Ad.mk (bbl (g := gb278) (o := .cells #[.int .i64 a0_0, .int .i64 a0_1, .slice A0_2 l0_2.length c0_2] 24 (0, 0)) (by (with_reducible repeat (first | refine bkN ?_ _ | refine bkd ?_ | refine bka ?_ _)); exact BK278.out) hb); have n1_ := Ad.mk (pbt (by repeat (first | (with_reducible first | exact HB.out | apply pba | apply pbN | apply pb1 | refine pbs ?_ GE278.out) | exact HB.out)) hb); clear BK278; clear HB; have BK278 := n0_; have HB := n1_; clear n0_ n1_; (try clear hb); (try clear hb2); (try clear hk); (try clear hi)))
             go_roundg kj16
             case measure => have := HK1.out; have := HJ10.out; have := HJ16.out; omega
             case rel => exact ⟨(wrap64 (x8_1 + 1)), (by first | rfl | (simp; done) | (simp [*]; done)), H', ⟨by have := HK1.out; have := HJ10.out; have := HJ16.out; omega⟩, ⟨by (with_reducible repeat (first | refine bkN ?_ _ | refine bkd ?_ | refine bka ?_ _)); exact BK278.out⟩, ⟨by repeat (first | (with_reducible first | exact HB.out | apply pba | apply pbN | apply pb1 | refine pbs ?_ GE278.out) | exact HB.out)⟩⟩
           ·rw [if_neg c23] at H
            have c23b0 : (t285 == 0) = false := beq_eq_false_iff_ne.mpr c23
            have c23b1 : (t285 != 0) = true := bne_iff_ne.mpr c23
            have H' := Ad.mk H
            clear H
            have hcz29_0 : wc.cell? ⟨gb278, 0, none⟩ = some (.int .i64 a0_0) := (bcl BK278.out 0).trans rfl
            have hcz29_1 : wc.cell? ⟨gb278, 1, none⟩ = some (.int .i64 a0_1) := (bcl BK278.out 1).trans rfl
            have hcz29_2 : wc.cell? ⟨gb278, 2, none⟩ = some (.slice A0_2 l0_2.length c0_2) := (bcl BK278.out 2).trans rfl
            have hfz29_0 := bfz BK278.out 0
            have hfz29_1 := bfz BK278.out 1
            have hfz29_2 := bfz BK278.out 2
            go_wp2_with (first | ((with_reducible refine gate_callee (f := 14) rfl ?_); refine goesL_ (some 61) rfl rfl Tryd.func14 (by kernel_rfl) rfl #[.agg #[.int .i64 a0_0, .int .i64 a0_1, .slice A0_2 l0_2.length c0_2], .int .i64 (wrap64 (x9_10 - 1)), .bool true] rfl (by (try simp only [List.map_toArray, List.map_cons, List.map_nil]); first | done | rfl | (exact congrArg (fun z_ : Int => #[(.agg #[.int .i64 a0_0, .int .i64 a0_1, .slice A0_2 l0_2.length c0_2] : Value), .int .i64 z_, (.bool true : Value)]) (show (x9_10 - 1) = wrap64 (x9_10 - 1) from by unfold wrap64; omega)) | (simp only [List.length_drop, List.length_take]; rfl)) ?_; (with_reducible refine (r6_TAI.calls kj16 a0_0 a0_1 _ _ l0_2 (wrap64 (x9_10 - 1)) true t284 t285 _ ?side1 ?side2 A22.out).mono ?_); (case side1 => repeat (first | exact (Kd.C_below HR0_2.out HB.out) | (with_reducible refine Kd.C_alloc ?_ _) | (with_reducible refine Kd.C_drewN ?_ _) | (with_reducible refine Kd.C_drew ?_))); (case side2 => exact HC0_2.out); rintro e w30 ⟨rfl, hb⟩; refine ⟨_, rfl, ?_⟩; have n0_ := Ad.mk (bbl (g := gb278) (o := .cells #[.int .i64 a0_0, .int .i64 a0_1, .slice A0_2 l0_2.length c0_2] 24 (0, 0)) (by (with_reducible repeat (first | refine bkN ?_ _ | refine bkd ?_ | refine bka ?_ _)); exact BK278.out) hb); have n1_ := Ad.mk (pbt (by repeat (first | (with_reducible first | exact HB.out | apply pba | apply pbN | apply pb1 | refine pbs ?_ GE278.out) | exact HB.out)) hb); clear BK278; clear HB; have BK278 := n0_; have HB := n1_; clear n0_ n1_; (try clear hb); (try clear hb2); (try clear hk); (try clear hi)))
            go_roundg kj16
            case measure => have := HK1.out; have := HJ10.out; have := HJ16.out; omega
            case rel => exact ⟨(wrap64 (x8_1 + 1)), (by first | rfl | (simp; done) | (simp [*]; done)), H', ⟨by have := HK1.out; have := HJ10.out; have := HJ16.out; omega⟩, ⟨by (with_reducible repeat (first | refine bkN ?_ _ | refine bkd ?_ | refine bka ?_ _)); exact BK278.out⟩, ⟨by repeat (first | (with_reducible first | exact HB.out | apply pba | apply pbN | apply pb1 | refine pbs ?_ GE278.out) | exact HB.out)⟩⟩
     ·rw [if_neg c10] at H
      have c10b0 : decide (x8_1 < (l0_2.length : Int)) = false := decide_eq_false c10
      clear c10
      simp only [Option.some.injEq, Prod.mk.injEq] at H
      obtain ⟨rfl, rfl, rfl⟩ := H
      have hcz31_0 : wr.cell? ⟨gb278, 0, none⟩ = some (.int .i64 a0_0) := (bcl BK278.out 0).trans rfl
      have hcz31_1 : wr.cell? ⟨gb278, 1, none⟩ = some (.int .i64 a0_1) := (bcl BK278.out 1).trans rfl
      have hcz31_2 : wr.cell? ⟨gb278, 2, none⟩ = some (.slice A0_2 l0_2.length c0_2) := (bcl BK278.out 2).trans rfl
      have hfz31_0 := bfz BK278.out 0
      have hfz31_1 := bfz BK278.out 1
      have hfz31_2 := bfz BK278.out 2
      go_wp2
      go_ret3
      exact ⟨by first | rfl | (simp [ewn, ews] <;> rfl) | (simp [*, ewn, ews] <;> rfl), by repeat (first | (with_reducible first | exact HB.out | apply pba | apply pbN | apply pb1 | refine pbs ?_ GE278.out) | exact HB.out)⟩
  ·replace c6 := Bool.eq_false_iff.mpr c6
   subst c6
   have H1 : (some (0, false, 3)) = some (r1, r2, r3) := by rw [if_neg (show ¬ (false = true) by decide)] at H; exact H
   clear H
   have H := H1
   clear H1
   simp only [Option.some.injEq, Prod.mk.injEq] at H
   obtain ⟨rfl, rfl, rfl⟩ := H
   go_enter Tryd.func16, Tryd.ntmps16
   go_wp2_with (first | ((with_reducible refine gate_dst (N := 2) rfl ?_); refine box_event ?hg (N := 2) ?hd (cs := #[.int .i64 a0_0, .int .i64 a0_1, .slice A0_2 l0_2.length c0_2]) (t := 24) ?hr ?_; (case hd => rfl); (case hg => rfl); (case hr => first | (go_simp; done) | (go_simp; rfl)); intro gb278 hg w32 hbox hb; have n0_ := Ad.mk (pbt (by repeat (first | (with_reducible first | exact HB.out | apply pba | apply pbN | apply pb1) | exact HB.out)) hb); have n1_ := Ad.mk (hbox); have n2_ := Ad.mk ((by rw [hg]; exact (pbz (by repeat (first | (with_reducible first | exact HB.out | apply pba | apply pbN | apply pb1) | exact HB.out))) : w.heap.size ≤ gb278)); have n3_ := Ad.mk ((by rw [hg]; exact (pbz (by repeat (first | (with_reducible first | exact HB.out | apply pba | apply pbN | apply pb1) | exact HB.out))) : w.heap.size ≤ gb278)); clear HB; have HB := n0_; have BK278 := n1_; have GW278 := n2_; have GE278 := n3_; clear n0_ n1_ n2_ n3_; clear hb hbox hg; have hcz33_0 : w32.cell? ⟨gb278, 0, none⟩ = some (.int .i64 a0_0) := (bcl BK278.out 0).trans rfl; have hcz33_1 : w32.cell? ⟨gb278, 1, none⟩ = some (.int .i64 a0_1) := (bcl BK278.out 1).trans rfl; have hcz33_2 : w32.cell? ⟨gb278, 2, none⟩ = some (.slice A0_2 l0_2.length c0_2) := (bcl BK278.out 2).trans rfl; have hfz33_0 := bfz BK278.out 0; have hfz33_1 := bfz BK278.out 1; have hfz33_2 := bfz BK278.out 2) | ((with_reducible refine gate_callee (f := 12) rfl ?_); refine goesL_ (some 15) rfl rfl Tryd.func12 (by kernel_rfl) rfl #[.agg #[.int .i64 a0_0, .int .i64 a0_1, .slice A0_2 l0_2.length c0_2]] rfl (by (try simp only [List.map_toArray, List.map_cons, List.map_nil]); first | done | rfl | (simp only [List.length_drop, List.length_take]; rfl)) ?_; (with_reducible refine (r6_Check.calls k a0_0 a0_1 _ _ l0_2 t279 _ ?side1 ?side2 A3.out).mono ?_); (case side1 => repeat (first | exact (Kd.C_below HR0_2.out HB.out) | (with_reducible refine Kd.C_alloc ?_ _) | (with_reducible refine Kd.C_drewN ?_ _) | (with_reducible refine Kd.C_drew ?_))); (case side2 => exact HC0_2.out); rintro e w34 ⟨rfl, hb⟩; refine ⟨_, rfl, ?_⟩; have n0_ := Ad.mk (bbl (g := gb278) (o := .cells #[.int .i64 a0_0, .int .i64 a0_1, .slice A0_2 l0_2.length c0_2] 24 (0, 0)) (by (with_reducible repeat (first | refine bkN ?_ _ | refine bkd ?_ | refine bka ?_ _)); exact BK278.out) hb); have n1_ := Ad.mk (pbt (by repeat (first | (with_reducible first | exact HB.out | apply pba | apply pbN | apply pb1 | refine pbs ?_ GE278.out) | exact HB.out)) hb); clear BK278; clear HB; have BK278 := n0_; have HB := n1_; clear n0_ n1_; (try clear hb); (try clear hb2); (try clear hk); (try clear hi)) | ((with_reducible refine gate_callee (f := 27) rfl ?_); refine goesL_ (some 20) rfl rfl Tryd.func27 (by kernel_rfl) rfl #[.int .i64 a1, .int .i64 8000002000] rfl (by (try simp only [List.map_toArray, List.map_cons, List.map_nil]); first | done | rfl | (simp only [List.length_drop, List.length_take]; rfl)) ?_; (with_reducible refine (r6_in.calls a1 8000002000 false _ A5.out).mono ?_); rintro e w' ⟨rfl, ⟨nd, rfl⟩⟩; refine ⟨_, rfl, ?_⟩))
   go_ret3
   exact ⟨by first | rfl | (simp [ewn, ews] <;> rfl) | (simp [*, ewn, ews] <;> rfl), by repeat (first | (with_reducible first | exact HB.out | apply pba | apply pbN | apply pb1 | refine pbs ?_ GE278.out) | exact HB.out)⟩
 ·rw [if_neg c4] at H
  have c4b0 : (t279 == 0) = false := beq_eq_false_iff_ne.mpr c4
  have c4b1 : (t279 != 0) = true := bne_iff_ne.mpr c4
  simp only [Option.some.injEq, Prod.mk.injEq] at H
  obtain ⟨rfl, rfl, rfl⟩ := H
  go_enter Tryd.func16, Tryd.ntmps16
  go_wp2_with (first | ((with_reducible refine gate_dst (N := 2) rfl ?_); refine box_event ?hg (N := 2) ?hd (cs := #[.int .i64 a0_0, .int .i64 a0_1, .slice A0_2 l0_2.length c0_2]) (t := 24) ?hr ?_; (case hd => rfl); (case hg => rfl); (case hr => first | (go_simp; done) | (go_simp; rfl)); intro gb278 hg w35 hbox hb; have n0_ := Ad.mk (pbt (by repeat (first | (with_reducible first | exact HB.out | apply pba | apply pbN | apply pb1) | exact HB.out)) hb); have n1_ := Ad.mk (hbox); have n2_ := Ad.mk ((by rw [hg]; exact (pbz (by repeat (first | (with_reducible first | exact HB.out | apply pba | apply pbN | apply pb1) | exact HB.out))) : w.heap.size ≤ gb278)); have n3_ := Ad.mk ((by rw [hg]; exact (pbz (by repeat (first | (with_reducible first | exact HB.out | apply pba | apply pbN | apply pb1) | exact HB.out))) : w.heap.size ≤ gb278)); clear HB; have HB := n0_; have BK278 := n1_; have GW278 := n2_; have GE278 := n3_; clear n0_ n1_ n2_ n3_; clear hb hbox hg; have hcz36_0 : w35.cell? ⟨gb278, 0, none⟩ = some (.int .i64 a0_0) := (bcl BK278.out 0).trans rfl; have hcz36_1 : w35.cell? ⟨gb278, 1, none⟩ = some (.int .i64 a0_1) := (bcl BK278.out 1).trans rfl; have hcz36_2 : w35.cell? ⟨gb278, 2, none⟩ = some (.slice A0_2 l0_2.length c0_2) := (bcl BK278.out 2).trans rfl; have hfz36_0 := bfz BK278.out 0; have hfz36_1 := bfz BK278.out 1; have hfz36_2 := bfz BK278.out 2) | ((with_reducible refine gate_callee (f := 12) rfl ?_); refine goesL_ (some 15) rfl rfl Tryd.func12 (by kernel_rfl) rfl #[.agg #[.int .i64 a0_0, .int .i64 a0_1, .slice A0_2 l0_2.length c0_2]] rfl (by (try simp only [List.map_toArray, List.map_cons, List.map_nil]); first | done | rfl | (simp only [List.length_drop, List.length_take]; rfl)) ?_; (with_reducible refine (r6_Check.calls k a0_0 a0_1 _ _ l0_2 t279 _ ?side1 ?side2 A3.out).mono ?_); (case side1 => repeat (first | exact (Kd.C_below HR0_2.out HB.out) | (with_reducible refine Kd.C_alloc ?_ _) | (with_reducible refine Kd.C_drewN ?_ _) | (with_reducible refine Kd.C_drew ?_))); (case side2 => exact HC0_2.out); rintro e w37 ⟨rfl, hb⟩; refine ⟨_, rfl, ?_⟩; have n0_ := Ad.mk (bbl (g := gb278) (o := .cells #[.int .i64 a0_0, .int .i64 a0_1, .slice A0_2 l0_2.length c0_2] 24 (0, 0)) (by (with_reducible repeat (first | refine bkN ?_ _ | refine bkd ?_ | refine bka ?_ _)); exact BK278.out) hb); have n1_ := Ad.mk (pbt (by repeat (first | (with_reducible first | exact HB.out | apply pba | apply pbN | apply pb1 | refine pbs ?_ GE278.out) | exact HB.out)) hb); clear BK278; clear HB; have BK278 := n0_; have HB := n1_; clear n0_ n1_; (try clear hb); (try clear hb2); (try clear hk); (try clear hi)))
  go_ret3
  exact ⟨by first | rfl | (simp [ewn, ews] <;> rfl) | (simp [*, ewn, ews] <;> rfl), by repeat (first | (with_reducible first | exact HB.out | apply pba | apply pbN | apply pb1 | refine pbs ?_ GE278.out) | exact HB.out)⟩

end Go.Proofs.YtipbkcilpnlgnaaDoor.M
