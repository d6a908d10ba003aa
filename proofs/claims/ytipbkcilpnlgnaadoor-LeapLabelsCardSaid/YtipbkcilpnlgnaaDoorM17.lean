-- printed
-- tight (tight.py)
import Derived.Test.YtipbkcilpnlgnaaDoorM0
import Derived.Test.YtipbkcilpnlgnaaDoorMD
import Derived.Test.YtipbkcilpnlgnaaDoorM12
import Derived.Test.YtipbkcilpnlgnaaDoorM16
namespace Go.Proofs.YtipbkcilpnlgnaaDoor.M
open Go.RowKit Go.Proofs.YtipbkcilpnlgnaaDoorG Go.Proofs.YtipbkcilpnlgnaaDoorW.PA Go.Proofs.YtipbkcilpnlgnaaDoorW.PB Go.Proofs.YtipbkcilpnlgnaaDoorW.PC
open List renaming setIfInBounds_toArray → sA, set_cons_zero → sB, set_cons_succ → sC
attribute [local go_sem] max2_int min2_int max_two min_two max_three min_three max_four min_four   -- for this text's walks alone
set_option linter.unusedVariables false
set_option linter.unusedSimpArgs false

/-! ### r6_Check: function 12 -/
def r6_Check.T16 : Bool × List (List Nat × List Nat) := (true, [([], []), ([0], [0]), ([1], [1]), ([2], [2]), ([3, 2], [2, 3]), ([2], [2]), ([5, 2], [2, 5]), ([2], [2]), ([7, 2], [2, 7]), ([6, 8, 2], [2, 6, 8]), ([9, 2], [2, 9]), ([10, 2], [2, 10]), ([4, 11, 2], [2, 4, 11]), ([2, 12], [2, 12]), ([13, 2], [13])])
def r6_Check.B16 : List Nat := [0, 1, 3, 7, 15, 7, 39, 7, 135, 487, 999, 2023, 4095, 8191, 16383]
theorem r6_Check.tab16 : rtab .any (opsOf Tryd.f12 16) = r6_Check.T16 := by kernel_rfl
theorem r6_Check.bits16 : waitsOk r6_Check.T16.2 r6_Check.B16 = true := by kernel_rfl
def r6_Check.T18 : Bool × List (List Nat × List Nat) := (true, [([], []), ([0], [0]), ([], []), ([], []), ([2, 3], [2, 3]), ([4], [4]), ([1, 5], [1, 5]), ([6, 4], [6]), ([7], [7]), ([8, 7], [7, 8]), ([7], [7]), ([7], [7]), ([10, 11, 7, 7], [7, 10, 11]), ([12, 7], [7, 12]), ([9, 13, 7], [7, 9, 13]), ([7, 14], [7, 14]), ([15, 12], [15])])
def r6_Check.B18 : List Nat := [0, 1, 0, 0, 12, 28, 63, 127, 255, 511, 255, 255, 3327, 7423, 16383, 32767, 65535]
theorem r6_Check.tab18 : rtab .any (opsOf Tryd.f12 18) = r6_Check.T18 := by kernel_rfl
theorem r6_Check.bits18 : waitsOk r6_Check.T18.2 r6_Check.B18 = true := by kernel_rfl
set_option maxHeartbeats 8000000 in
set_option maxRecDepth 100000 in
theorem r6_Check.calls (k : Nat) (a0_0 : Int) (a0_1 : Int) (A0_2 : Option Addr) (c0_2 : Nat) (l0_2 : List (S44)) (r : Int) (w : World) (hr0_2 : Kd.C k44 w A0_2 l0_2.length l0_2) (hc0_2 : l0_2.length ≤ c0_2) (h : r6_Check.f k a0_0 a0_1 l0_2 = some r) :
  Calls Tryd.prog 12 #[.agg #[.int .i64 a0_0, .int .i64 a0_1, .slice A0_2 l0_2.length c0_2]] w fun e w' => e = .returned (.int .i64 r) ∧ Below w.heap.size w w' := by
 have hu24 := Tryd.underlying24
 have hu44 := Tryd.underlying44
 have HR0_2 := Ad.mk hr0_2
 have HC0_2 := Ad.mk hc0_2
 clear hr0_2 hc0_2
 have HB := Ad.mk (Below.refl w.heap.size w)
 have H : (if (l0_2.length : Int) > 64 then (some 6) else ((r6_in.f a0_0 1000).bind fun t247 => (if t247 = true then ((r6_in.f a0_1 8000000000).bind fun t248 => (r6_Check.j0 k (!t248) a0_0 a0_1 l0_2)) else (r6_Check.j0 k true a0_0 a0_1 l0_2)))) = some r := h
 clear h
 by_cases c2 : (l0_2.length : Int) > 64
 ·rw [if_pos c2] at H
  have c2b0 : decide (64 < (l0_2.length : Int)) = true := decide_eq_true c2
  have c2b1 : decide (64 < l0_2.length) = true := decide_eq_true (by omega)
  clear c2
  obtain rfl := Option.some.inj H
  go_enter Tryd.func12, Tryd.ntmps12
  go_wp2_with (first | ((with_reducible refine gate_dst (N := 1) rfl ?_); refine box_event ?hg (N := 1) ?hd (cs := #[.int .i64 a0_0, .int .i64 a0_1, .slice A0_2 l0_2.length c0_2]) (t := 24) ?hr ?_; (case hd => rfl); (case hg => rfl); (case hr => first | (go_simp; done) | (go_simp; rfl)); intro gb246 hg w3 hbox hb; have n0_ := Ad.mk (pbt (by repeat (first | (with_reducible first | exact HB.out | apply pba | apply pbN | apply pb1) | exact HB.out)) hb); have n1_ := Ad.mk (hbox); have n2_ := Ad.mk ((by rw [hg]; exact (pbz (by repeat (first | (with_reducible first | exact HB.out | apply pba | apply pbN | apply pb1) | exact HB.out))) : w.heap.size ≤ gb246)); have n3_ := Ad.mk ((by rw [hg]; exact (pbz (by repeat (first | (with_reducible first | exact HB.out | apply pba | apply pbN | apply pb1) | exact HB.out))) : w.heap.size ≤ gb246)); clear HB; have HB := n0_; have BK246 := n1_; have GW246 := n2_; have GE246 := n3_; clear n0_ n1_ n2_ n3_; clear hb hbox hg; have hcz4_0 : w3.cell? ⟨gb246, 0, none⟩ = some (.int .i64 a0_0) := (bcl BK246.out 0).trans rfl; have hcz4_1 : w3.cell? ⟨gb246, 1, none⟩ = some (.int .i64 a0_1) := (bcl BK246.out 1).trans rfl; have hcz4_2 : w3.cell? ⟨gb246, 2, none⟩ = some (.slice A0_2 l0_2.length c0_2) := (bcl BK246.out 2).trans rfl; have hfz4_0 := bfz BK246.out 0; have hfz4_1 := bfz BK246.out 1; have hfz4_2 := bfz BK246.out 2))
  go_ret
  exact ⟨by first | rfl | (simp [ewn, ews] <;> rfl) | (simp [*, ewn, ews] <;> rfl), by repeat (first | (with_reducible first | exact HB.out | apply pba | apply pbN | apply pb1 | refine pbs ?_ GE246.out) | exact HB.out)⟩
 ·rw [if_neg c2] at H
  have c2b0 : decide (64 < (l0_2.length : Int)) = false := decide_eq_false c2
  have c2b1 : decide (64 < l0_2.length) = false := decide_eq_false (by omega)
  clear c2
  have HC5 := Ad.mk H
  clear H
  go_enter Tryd.func12, Tryd.ntmps12
  go_upto_region 3 with (first | ((with_reducible refine gate_dst (N := 1) rfl ?_); refine box_event ?hg (N := 1) ?hd (cs := #[.int .i64 a0_0, .int .i64 a0_1, .slice A0_2 l0_2.length c0_2]) (t := 24) ?hr ?_; (case hd => rfl); (case hg => rfl); (case hr => first | (go_simp; done) | (go_simp; rfl)); intro gb246 hg w6 hbox hb; have n0_ := Ad.mk (pbt (by repeat (first | (with_reducible first | exact HB.out | apply pba | apply pbN | apply pb1) | exact HB.out)) hb); have n1_ := Ad.mk (hbox); have n2_ := Ad.mk ((by rw [hg]; exact (pbz (by repeat (first | (with_reducible first | exact HB.out | apply pba | apply pbN | apply pb1) | exact HB.out))) : w.heap.size ≤ gb246)); have n3_ := Ad.mk ((by rw [hg]; exact (pbz (by repeat (first | (with_reducible first | exact HB.out | apply pba | apply pbN | apply pb1) | exact HB.out))) : w.heap.size ≤ gb246)); clear HB; have HB := n0_; have BK246 := n1_; have GW246 := n2_; have GE246 := n3_; clear n0_ n1_ n2_ n3_; clear hb hbox hg; have hcz7_0 : w6.cell? ⟨gb246, 0, none⟩ = some (.int .i64 a0_0) := (bcl BK246.out 0).trans rfl; have hcz7_1 : w6.cell? ⟨gb246, 1, none⟩ = some (.int .i64 a0_1) := (bcl BK246.out 1).trans rfl; have hcz7_2 : w6.cell? ⟨gb246, 2, none⟩ = some (.slice A0_2 l0_2.length c0_2) := (bcl BK246.out 2).trans rfl; have hfz7_0 := bfz BK246.out 0; have hfz7_1 := bfz BK246.out 1; have hfz7_2 := bfz BK246.out 2))
  (try simp only [Act.put, sA, sB, sC])
  go_cut [19] (fun v19 wc => ∃ (kq : Nat) (x19_4 : Bool), v19 = .bool x19_4 ∧ Ad (r6_Check.j0 kq x19_4 a0_0 a0_1 l0_2 = some r) ∧ Ad (kq ≤ k) ∧ Ad (wc.heap[gb246]? = some (.cells #[.int .i64 a0_0, .int .i64 a0_1, (.slice A0_2 l0_2.length c0_2)] 24 (0, 0))) ∧ Ad (Below w.heap.size w wc))
  case first =>
   have H := HC5.out
   clear HC5
   replace H := Option.bind_eq_some_iff.mp H
   obtain ⟨t247, A80, H⟩ := H
   replace H : (if t247 = true then ((r6_in.f a0_1 8000000000).bind fun t248 => (r6_Check.j0 k (!t248) a0_0 a0_1 l0_2)) else (r6_Check.j0 k true a0_0 a0_1 l0_2)) = some r := H
   have A8 := Ad.mk A80
   clear A80
   by_cases c9 : t247 = true
   ·subst c9
    have H1 : ((r6_in.f a0_1 8000000000).bind fun t248 => (r6_Check.j0 k (!t248) a0_0 a0_1 l0_2)) = some r := by rw [if_pos rfl] at H; exact H
    clear H
    have H := H1
    clear H1
    replace H := Option.bind_eq_some_iff.mp H
    obtain ⟨t248, A100, H⟩ := H
    replace H : (r6_Check.j0 k (!t248) a0_0 a0_1 l0_2) = some r := H
    have A10 := Ad.mk A100
    clear A100
    have H' := Ad.mk H
    clear H
    have hcz11_0 : w6.cell? ⟨gb246, 0, none⟩ = some (.int .i64 a0_0) := (bcl BK246.out 0).trans rfl
    have hcz11_1 : w6.cell? ⟨gb246, 1, none⟩ = some (.int .i64 a0_1) := (bcl BK246.out 1).trans rfl
    have hcz11_2 : w6.cell? ⟨gb246, 2, none⟩ = some (.slice A0_2 l0_2.length c0_2) := (bcl BK246.out 2).trans rfl
    have hfz11_0 := bfz BK246.out 0
    have hfz11_1 := bfz BK246.out 1
    have hfz11_2 := bfz BK246.out 2
    go_wp2_with (first | ((with_reducible refine gate_callee (f := 27) rfl ?_); refine goesL_ (some 12) rfl rfl Tryd.func27 (by kernel_rfl) rfl #[.int .i64 a0_0, .int .i64 1000] rfl (by (try simp only [List.map_toArray, List.map_cons, List.map_nil]); first | done | rfl | (simp only [List.length_drop, List.length_take]; rfl)) ?_; (with_reducible refine (r6_in.calls a0_0 1000 true _ A8.out).mono ?_); rintro e w' ⟨rfl, ⟨nd, rfl⟩⟩; refine ⟨_, rfl, ?_⟩) | (go_at_call 27; (with_reducible refine (r6_in.calls a0_1 8000000000 t248 _ A10.out).mono ?_); rintro e w' ⟨rfl, ⟨nd, rfl⟩⟩))
    go_meet
    case rel => exact ⟨_, (!t248), (by first | rfl | (simp; done) | (simp [*]; done)), H', ⟨by first | omega | exact Nat.le_refl _⟩, ⟨by (with_reducible repeat (first | refine bkN ?_ _ | refine bkd ?_ | refine bka ?_ _)); exact BK246.out⟩, ⟨by repeat (first | (with_reducible first | exact HB.out | apply pba | apply pbN | apply pb1 | refine pbs ?_ GE246.out) | exact HB.out)⟩⟩
   ·replace c9 := Bool.eq_false_iff.mpr c9
    subst c9
    have H1 : (r6_Check.j0 k true a0_0 a0_1 l0_2) = some r := by rw [if_neg (show ¬ (false = true) by decide)] at H; exact H
    clear H
    have H := H1
    clear H1
    have H' := Ad.mk H
    clear H
    have hcz12_0 : w6.cell? ⟨gb246, 0, none⟩ = some (.int .i64 a0_0) := (bcl BK246.out 0).trans rfl
    have hcz12_1 : w6.cell? ⟨gb246, 1, none⟩ = some (.int .i64 a0_1) := (bcl BK246.out 1).trans rfl
    have hcz12_2 : w6.cell? ⟨gb246, 2, none⟩ = some (.slice A0_2 l0_2.length c0_2) := (bcl BK246.out 2).trans rfl
    have hfz12_0 := bfz BK246.out 0
    have hfz12_1 := bfz BK246.out 1
    have hfz12_2 := bfz BK246.out 2
    go_wp2_with (first | ((with_reducible refine gate_callee (f := 27) rfl ?_); refine goesL_ (some 12) rfl rfl Tryd.func27 (by kernel_rfl) rfl #[.int .i64 a0_0, .int .i64 1000] rfl (by (try simp only [List.map_toArray, List.map_cons, List.map_nil]); first | done | rfl | (simp only [List.length_drop, List.length_take]; rfl)) ?_; (with_reducible refine (r6_in.calls a0_0 1000 false _ A8.out).mono ?_); rintro e w' ⟨rfl, ⟨nd, rfl⟩⟩; refine ⟨_, rfl, ?_⟩))
    go_meet
    case rel => exact ⟨_, (true), (by first | rfl | (simp; done) | (simp [*]; done)), H', ⟨by first | omega | exact Nat.le_refl _⟩, ⟨by (with_reducible repeat (first | refine bkN ?_ _ | refine bkd ?_ | refine bka ?_ _)); exact BK246.out⟩, ⟨by repeat (first | (with_reducible first | exact HB.out | apply pba | apply pbN | apply pb1 | refine pbs ?_ GE246.out) | exact HB.out)⟩⟩
  case rest =>
   clear HC5
   obtain ⟨kq, x19_4, rfl, HA, HJ4, BK246, HB⟩ := hcut
   cases kq with
   | zero => exact absurd HA.out (by simp [r6_Check.j0])
   | succ kj4 =>
    have H := HA.out
    clear HA
    simp only [r6_Check.j0] at H
    by_cases c13 : x19_4 = true
    ·subst c13
     have H1 : (some 3) = some r := by rw [if_pos rfl] at H; exact H
     clear H
     have H := H1
     clear H1
     obtain rfl := Option.some.inj H
     go_wp2
     go_ret
     exact ⟨by first | rfl | (simp [ewn, ews] <;> rfl) | (simp [*, ewn, ews] <;> rfl), by repeat (first | (with_reducible first | exact HB.out | apply pba | apply pbN | apply pb1 | refine pbs ?_ GE246.out) | exact HB.out)⟩
    ·replace c13 := Bool.eq_false_iff.mpr c13
     subst c13
     have H1 : (r6_Check.l0 kj4 0 a0_0 a0_1 l0_2) = some r := by rw [if_neg (show ¬ (false = true) by decide)] at H; exact H
     clear H
     have H := H1
     clear H1
     have H' := Ad.mk H
     clear H
     go_wp2
     go_loopg [3] kj4 (fun kq v3 w' => ∃ (x3_2 : Int), v3 = .int .i64 x3_2 ∧ Ad (r6_Check.l0 kq x3_2 a0_0 a0_1 l0_2 = some r) ∧ Ad (kq ≤ kj4) ∧ Ad (w'.heap[gb246]? = some (.cells #[.int .i64 a0_0, .int .i64 a0_1, (.slice A0_2 l0_2.length c0_2)] 24 (0, 0))) ∧ Ad (Below w.heap.size w w'))
     case atStart => exact ⟨(0), (by first | rfl | (simp; done) | (simp [*]; done)), H', ⟨Nat.le_refl _⟩, ⟨by (with_reducible repeat (first | refine bkN ?_ _ | refine bkd ?_ | refine bka ?_ _)); exact BK246.out⟩, ⟨by repeat (first | (with_reducible first | exact HB.out | apply pba | apply pbN | apply pb1 | refine pbs ?_ GE246.out) | exact HB.out)⟩⟩
     case round =>
      clear H'
      obtain ⟨x3_2, rfl, HA, HK2, BK246, HB⟩ := hrel
      cases gk with
      | zero => exact absurd HA.out (by simp [r6_Check.l0])
      | succ k2 =>
       have H := HA.out
       clear HA
       simp only [r6_Check.l0] at H
       by_cases c14 : x3_2 < (l0_2.length : Int)
       ·rw [if_pos c14] at H
        have c14b0 : decide (x3_2 < (l0_2.length : Int)) = true := decide_eq_true c14
        clear c14
        by_cases c15 : 0 ≤ x3_2
        ·rw [if_pos c15] at H
         have c15b0 : decide (0 ≤ x3_2) = true := decide_eq_true c15
         clear c15
         replace H := Option.bind_eq_some_iff.mp H
         obtain ⟨t250, A160, H⟩ := H
         replace H : (if t250 = true then ((r6_in.f ((rd_T44 l0_2 x3_2).f1) 1000).bind fun t252 => (if t252 = true then (r6_Check.l0 k2 (wrap64 (x3_2 + 1)) a0_0 a0_1 l0_2) else (some 3))) else (some 3)) = some r := H
         have A16 := Ad.mk A160
         clear A160
         by_cases c17 : t250 = true
         ·subst c17
          have H1 : ((r6_in.f ((rd_T44 l0_2 x3_2).f1) 1000).bind fun t252 => (if t252 = true then (r6_Check.l0 k2 (wrap64 (x3_2 + 1)) a0_0 a0_1 l0_2) else (some 3))) = some r := by rw [if_pos rfl] at H; exact H
          clear H
          have H := H1
          clear H1
          replace H := Option.bind_eq_some_iff.mp H
          obtain ⟨t252, A180, H⟩ := H
          replace H : (if t252 = true then (r6_Check.l0 k2 (wrap64 (x3_2 + 1)) a0_0 a0_1 l0_2) else (some 3)) = some r := H
          have A18 := Ad.mk A180
          clear A180
          by_cases c19 : t252 = true
          ·subst c19
           have H1 : (r6_Check.l0 k2 (wrap64 (x3_2 + 1)) a0_0 a0_1 l0_2) = some r := by rw [if_pos rfl] at H; exact H
           clear H
           have H := H1
           clear H1
           have H' := Ad.mk H
           clear H
           have hcz20_0 : wr.cell? ⟨gb246, 0, none⟩ = some (.int .i64 a0_0) := (bcl BK246.out 0).trans rfl
           have hcz20_1 : wr.cell? ⟨gb246, 1, none⟩ = some (.int .i64 a0_1) := (bcl BK246.out 1).trans rfl
           have hcz20_2 : wr.cell? ⟨gb246, 2, none⟩ = some (.slice A0_2 l0_2.length c0_2) := (bcl BK246.out 2).trans rfl
           have hfz20_0 := bfz BK246.out 0
           have hfz20_1 := bfz BK246.out 1
           have hfz20_2 := bfz BK246.out 2
           have p249 : 0 ≤ (x3_2 : Int) := of_decide_eq_true (by first | (with_reducible assumption) | assumption)
           have q249 : x3_2 < (l0_2.length : Int) := of_decide_eq_true (by first | (with_reducible assumption) | assumption)
           obtain ⟨ad249, e249, hx249_0, hx249_1⟩ := at_T44 HR0_2.out x3_2 p249 q249
           cases e249
           replace hx249_0 := (HB.out.cell (World.block_lt_of_cell? w _ hx249_0)).trans hx249_0
           replace hx249_1 := (HB.out.cell (World.block_lt_of_cell? w _ hx249_1)).trans hx249_1
           replace p249 := eq_true p249
           replace q249 := eq_true q249
           go_wp2_with (first | ((with_reducible refine gate_callee (f := 27) rfl ?_); refine goesL_ (some 33) rfl rfl Tryd.func27 (by kernel_rfl) rfl #[.int .i64 ((rd_T44 l0_2 x3_2).f0), .int .i64 8000000000] rfl (by (try simp only [List.map_toArray, List.map_cons, List.map_nil]); first | done | rfl | (simp only [List.length_drop, List.length_take]; rfl)) ?_; (with_reducible refine (r6_in.calls ((rd_T44 l0_2 x3_2).f0) 8000000000 true _ A16.out).mono ?_); rintro e w' ⟨rfl, ⟨nd, rfl⟩⟩; refine ⟨_, rfl, ?_⟩; have p251 : 0 ≤ (x3_2 : Int) := of_decide_eq_true (by first | (with_reducible assumption) | assumption); have q251 : x3_2 < (l0_2.length : Int) := of_decide_eq_true (by first | (with_reducible assumption) | assumption); obtain ⟨ad251, e251, hx251_0, hx251_1⟩ := at_T44 HR0_2.out x3_2 p251 q251; obtain rfl : ad249 = ad251 := (by injection e251); replace hx251_0 := (HB.out.cell (World.block_lt_of_cell? w _ hx251_0)).trans hx251_0; replace hx251_1 := (HB.out.cell (World.block_lt_of_cell? w _ hx251_1)).trans hx251_1; replace p251 := eq_true p251; replace q251 := eq_true q251) | (go_at_call 27; (with_reducible refine (r6_in.calls ((rd_T44 l0_2 x3_2).f1) 1000 true _ A18.out).mono ?_); rintro e w' ⟨rfl, ⟨nd, rfl⟩⟩))
           go_roundg k2
           case measure => have := HJ4.out; have := HK2.out; omega
           case rel => exact ⟨(wrap64 (x3_2 + 1)), (by first | rfl | (simp; done) | (simp [*]; done)), H', ⟨by have := HJ4.out; have := HK2.out; omega⟩, ⟨by (with_reducible repeat (first | refine bkN ?_ _ | refine bkd ?_ | refine bka ?_ _)); exact BK246.out⟩, ⟨by repeat (first | (with_reducible first | exact HB.out | apply pba | apply pbN | apply pb1 | refine pbs ?_ GE246.out) | exact HB.out)⟩⟩
          ·replace c19 := Bool.eq_false_iff.mpr c19
           subst c19
           have H1 : (some 3) = some r := by rw [if_neg (show ¬ (false = true) by decide)] at H; exact H
           clear H
           have H := H1
           clear H1
           obtain rfl := Option.some.inj H
           have hcz21_0 : wr.cell? ⟨gb246, 0, none⟩ = some (.int .i64 a0_0) := (bcl BK246.out 0).trans rfl
           have hcz21_1 : wr.cell? ⟨gb246, 1, none⟩ = some (.int .i64 a0_1) := (bcl BK246.out 1).trans rfl
           have hcz21_2 : wr.cell? ⟨gb246, 2, none⟩ = some (.slice A0_2 l0_2.length c0_2) := (bcl BK246.out 2).trans rfl
           have hfz21_0 := bfz BK246.out 0
           have hfz21_1 := bfz BK246.out 1
           have hfz21_2 := bfz BK246.out 2
           have p249 : 0 ≤ (x3_2 : Int) := of_decide_eq_true (by first | (with_reducible assumption) | assumption)
           have q249 : x3_2 < (l0_2.length : Int) := of_decide_eq_true (by first | (with_reducible assumption) | assumption)
           obtain ⟨ad249, e249, hx249_0, hx249_1⟩ := at_T44 HR0_2.out x3_2 p249 q249
           cases e249
           replace hx249_0 := (HB.out.cell (World.block_lt_of_cell? w _ hx249_0)).trans hx249_0
           replace hx249_1 := (HB.out.cell (World.block_lt_of_cell? w _ hx249_1)).trans hx249_1
           replace p249 := eq_true p249
           replace q249 := eq_true q249
           go_wp2_with (first | ((with_reducible refine gate_callee (f := 27) rfl ?_); refine goesL_ (some 33) rfl rfl Tryd.func27 (by kernel_rfl) rfl #[.int .i64 ((rd_T44 l0_2 x3_2).f0), .int .i64 8000000000] rfl (by (try simp only [List.map_toArray, List.map_cons, List.map_nil]); first | done | rfl | (simp only [List.length_drop, List.length_take]; rfl)) ?_; (with_reducible refine (r6_in.calls ((rd_T44 l0_2 x3_2).f0) 8000000000 true _ A16.out).mono ?_); rintro e w' ⟨rfl, ⟨nd, rfl⟩⟩; refine ⟨_, rfl, ?_⟩; have p251 : 0 ≤ (x3_2 : Int) := of_decide_eq_true (by first | (with_reducible assumption) | assumption); have q251 : x3_2 < (l0_2.length : Int) := of_decide_eq_true (by first | (with_reducible assumption) | assumption); obtain ⟨ad251, e251, hx251_0, hx251_1⟩ := at_T44 HR0_2.out x3_2 p251 q251; obtain rfl : ad249 = ad251 := (by injection e251); replace hx251_0 := (HB.out.cell (World.block_lt_of_cell? w _ hx251_0)).trans hx251_0; replace hx251_1 := (HB.out.cell (World.block_lt_of_cell? w _ hx251_1)).trans hx251_1; replace p251 := eq_true p251; replace q251 := eq_true q251) | (go_at_call 27; (with_reducible refine (r6_in.calls ((rd_T44 l0_2 x3_2).f1) 1000 false _ A18.out).mono ?_); rintro e w' ⟨rfl, ⟨nd, rfl⟩⟩))
           go_ret
           exact ⟨by first | rfl | (simp [ewn, ews] <;> rfl) | (simp [*, ewn, ews] <;> rfl), by repeat (first | (with_reducible first | exact HB.out | apply pba | apply pbN | apply pb1 | refine pbs ?_ GE246.out) | exact HB.out)⟩
         ·replace c17 := Bool.eq_false_iff.mpr c17
          subst c17
          have H1 : (some 3) = some r := by rw [if_neg (show ¬ (false = true) by decide)] at H; exact H
          clear H
          have H := H1
          clear H1
          obtain rfl := Option.some.inj H
          have hcz22_0 : wr.cell? ⟨gb246, 0, none⟩ = some (.int .i64 a0_0) := (bcl BK246.out 0).trans rfl
          have hcz22_1 : wr.cell? ⟨gb246, 1, none⟩ = some (.int .i64 a0_1) := (bcl BK246.out 1).trans rfl
          have hcz22_2 : wr.cell? ⟨gb246, 2, none⟩ = some (.slice A0_2 l0_2.length c0_2) := (bcl BK246.out 2).trans rfl
          have hfz22_0 := bfz BK246.out 0
          have hfz22_1 := bfz BK246.out 1
          have hfz22_2 := bfz BK246.out 2
          have p249 : 0 ≤ (x3_2 : Int) := of_decide_eq_true (by first | (with_reducible assumption) | assumption)
          have q249 : x3_2 < (l0_2.length : Int) := of_decide_eq_true (by first | (with_reducible assumption) | assumption)
          obtain ⟨ad249, e249, hx249_0, hx249_1⟩ := at_T44 HR0_2.out x3_2 p249 q249
          cases e249
          replace hx249_0 := (HB.out.cell (World.block_lt_of_cell? w _ hx249_0)).trans hx249_0
          replace hx249_1 := (HB.out.cell (World.block_lt_of_cell? w _ hx249_1)).trans hx249_1
          replace p249 := eq_true p249
          replace q249 := eq_true q249
          go_wp2_with (first | ((with_reducible refine gate_callee (f := 27) rfl ?_); refine goesL_ (some 33) rfl rfl Tryd.func27 (by kernel_rfl) rfl #[.int .i64 ((rd_T44 l0_2 x3_2).f0), .int .i64 8000000000] rfl (by (try simp only [List.map_toArray, List.map_cons, List.map_nil]); first | done | rfl | (simp only [List.length_drop, List.length_take]; rfl)) ?_; (with_reducible refine (r6_in.calls ((rd_T44 l0_2 x3_2).f0) 8000000000 false _ A16.out).mono ?_); rintro e w' ⟨rfl, ⟨nd, rfl⟩⟩; refine ⟨_, rfl, ?_⟩))
          go_ret
          exact ⟨by first | rfl | (simp [ewn, ews] <;> rfl) | (simp [*, ewn, ews] <;> rfl), by repeat (first | (with_reducible first | exact HB.out | apply pba | apply pbN | apply pb1 | refine pbs ?_ GE246.out) | exact HB.out)⟩
        ·rw [if_neg c15] at H
         exact absurd H (by simp)
       ·rw [if_neg c14] at H
        have c14b0 : decide (x3_2 < (l0_2.length : Int)) = false := decide_eq_false c14
        clear c14
        have H' := Ad.mk H
        clear H
        have hcz23_0 : wr.cell? ⟨gb246, 0, none⟩ = some (.int .i64 a0_0) := (bcl BK246.out 0).trans rfl
        have hcz23_1 : wr.cell? ⟨gb246, 1, none⟩ = some (.int .i64 a0_1) := (bcl BK246.out 1).trans rfl
        have hcz23_2 : wr.cell? ⟨gb246, 2, none⟩ = some (.slice A0_2 l0_2.length c0_2) := (bcl BK246.out 2).trans rfl
        have hfz23_0 := bfz BK246.out 0
        have hfz23_1 := bfz BK246.out 1
        have hfz23_2 := bfz BK246.out 2
        go_wp2
        go_loopg [4] k2 (fun kq v4 w' => ∃ (x4_3 : Int), v4 = .int .i64 x4_3 ∧ Ad (r6_Check.l1 kq x4_3 a0_0 a0_1 l0_2 = some r) ∧ Ad (kq ≤ k2) ∧ Ad (w'.heap[gb246]? = some (.cells #[.int .i64 a0_0, .int .i64 a0_1, (.slice A0_2 l0_2.length c0_2)] 24 (0, 0))) ∧ Ad (Below w.heap.size w w'))
        case atStart => exact ⟨(0), (by first | rfl | (simp; done) | (simp [*]; done)), H', ⟨Nat.le_refl _⟩, ⟨by (with_reducible repeat (first | refine bkN ?_ _ | refine bkd ?_ | refine bka ?_ _)); exact BK246.out⟩, ⟨by repeat (first | (with_reducible first | exact HB.out | apply pba | apply pbN | apply pb1 | refine pbs ?_ GE246.out) | exact HB.out)⟩⟩
        case round =>
         clear H'
         obtain ⟨x4_3, rfl, HA, HK3, BK246, HB⟩ := hrel
         cases gk with
         | zero => exact absurd HA.out (by simp [r6_Check.l1])
         | succ k3 =>
          have H := HA.out
          clear HA
          simp only [r6_Check.l1] at H
          by_cases c24 : x4_3 < (l0_2.length : Int)
          ·rw [if_pos c24] at H
           have c24b0 : decide (x4_3 < (l0_2.length : Int)) = true := decide_eq_true c24
           clear c24
           by_cases c25 : 0 ≤ x4_3
           ·rw [if_pos c25] at H
            have c25b0 : decide (0 ≤ x4_3) = true := decide_eq_true c25
            clear c25
            replace H := Option.bind_eq_some_iff.mp H
            obtain ⟨t255, A260, H⟩ := H
            replace H : (if t255 = true then (if x4_3 > 0 then (if 0 ≤ (wrap64 (x4_3 - 1)) then (if (wrap64 (x4_3 - 1)) < (l0_2.length : Int) then (r6_Check.j3 k3 x4_3 (decide (((rd_T44 l0_2 x4_3).f0) ≤ ((rd_T44 l0_2 (wrap64 (x4_3 - 1))).f0))) a0_0 a0_1 l0_2 ((rd_T44 l0_2 x4_3).f0) ((rd_T44 l0_2 x4_3).f1)) else (none)) else (none)) else (r6_Check.j3 k3 x4_3 false a0_0 a0_1 l0_2 ((rd_T44 l0_2 x4_3).f0) ((rd_T44 l0_2 x4_3).f1))) else (some 7)) = some r := H
            have A26 := Ad.mk A260
            clear A260
            by_cases c27 : t255 = true
            ·subst c27
             have H1 : (if x4_3 > 0 then (if 0 ≤ (wrap64 (x4_3 - 1)) then (if (wrap64 (x4_3 - 1)) < (l0_2.length : Int) then (r6_Check.j3 k3 x4_3 (decide (((rd_T44 l0_2 x4_3).f0) ≤ ((rd_T44 l0_2 (wrap64 (x4_3 - 1))).f0))) a0_0 a0_1 l0_2 ((rd_T44 l0_2 x4_3).f0) ((rd_T44 l0_2 x4_3).f1)) else (none)) else (none)) else (r6_Check.j3 k3 x4_3 false a0_0 a0_1 l0_2 ((rd_T44 l0_2 x4_3).f0) ((rd_T44 l0_2 x4_3).f1))) = some r := by rw [if_pos rfl] at H; exact H
             clear H
             have H := H1
             clear H1
             have HC28 := Ad.mk H
             clear H
             have hcz29_0 : wr.cell? ⟨gb246, 0, none⟩ = some (.int .i64 a0_0) := (bcl BK246.out 0).trans rfl
             have hcz29_1 : wr.cell? ⟨gb246, 1, none⟩ = some (.int .i64 a0_1) := (bcl BK246.out 1).trans rfl
             have hcz29_2 : wr.cell? ⟨gb246, 2, none⟩ = some (.slice A0_2 l0_2.length c0_2) := (bcl BK246.out 2).trans rfl
             have hfz29_0 := bfz BK246.out 0
             have hfz29_1 := bfz BK246.out 1
             have hfz29_2 := bfz BK246.out 2
             have p253 : 0 ≤ (x4_3 : Int) := of_decide_eq_true (by first | (with_reducible assumption) | assumption)
             have q253 : x4_3 < (l0_2.length : Int) := of_decide_eq_true (by first | (with_reducible assumption) | assumption)
             obtain ⟨ad253, e253, hx253_0, hx253_1⟩ := at_T44 HR0_2.out x4_3 p253 q253
             cases e253
             replace hx253_0 := (HB.out.cell (World.block_lt_of_cell? w _ hx253_0)).trans hx253_0
             replace hx253_1 := (HB.out.cell (World.block_lt_of_cell? w _ hx253_1)).trans hx253_1
             replace p253 := eq_true p253
             replace q253 := eq_true q253
             go_upto_region 16 with (first | ((with_reducible refine gate_dst (N := 5) rfl ?_); refine box_event ?hg (N := 5) ?hd (cs := #[.int .i64 0, .int .i64 0]) (t := 44) ?hr ?_; (case hd => rfl); (case hg => rfl); (case hr => first | (go_simp; done) | (go_simp; rfl)); intro gb254 hg w30 hbox hb; have n0_ := Ad.mk (bbl (g := gb246) (o := .cells #[.int .i64 a0_0, .int .i64 a0_1, .slice (some ad253) l0_2.length c0_2] 24 (0, 0)) (by (with_reducible repeat (first | refine bkN ?_ _ | refine bkd ?_ | refine bka ?_ _)); exact BK246.out) hb); have n1_ := Ad.mk (pbt (by repeat (first | (with_reducible first | exact HB.out | apply pba | apply pbN | apply pb1 | refine pbs ?_ GE246.out) | exact HB.out)) hb); have n2_ := Ad.mk (hbox); have n3_ := Ad.mk ((by rw [hg]; exact (pbz (by repeat (first | (with_reducible first | exact HB.out | apply pba | apply pbN | apply pb1 | refine pbs ?_ GE246.out) | exact HB.out))) : w.heap.size ≤ gb254)); have n4_ := Ad.mk ((by rw [hg]; exact (pbz (by repeat (first | (with_reducible first | exact HB.out | apply pba | apply pbN | apply pb1 | refine pbs ?_ GE246.out) | exact HB.out))) : w.heap.size ≤ gb254)); have n5_ := Ad.mk ((by rw [hg]; exact Nat.ne_of_lt (blk_lt (g := gb246) (o := .cells #[.int .i64 a0_0, .int .i64 a0_1, .slice (some ad253) l0_2.length c0_2] 24 (0, 0)) (by (with_reducible repeat (first | refine bkN ?_ _ | refine bkd ?_ | refine bka ?_ _)); exact BK246.out)) : gb246 ≠ gb254)); have n6_ := Ad.mk ((by rw [hg]; exact Nat.ne_of_gt (blk_lt (g := gb246) (o := .cells #[.int .i64 a0_0, .int .i64 a0_1, .slice (some ad253) l0_2.length c0_2] 24 (0, 0)) (by (with_reducible repeat (first | refine bkN ?_ _ | refine bkd ?_ | refine bka ?_ _)); exact BK246.out)) : gb254 ≠ gb246)); clear BK246; clear HB; have BK246 := n0_; have HB := n1_; have BK254 := n2_; have GW254 := n3_; have GE254 := n4_; have NB246_254 := n5_; have NB254_246 := n6_; clear n0_ n1_ n2_ n3_ n4_ n5_ n6_; clear hb hbox hg; have hnb31 := NB254_246.out; have hnc31 := NB246_254.out; have hcz32_0 : w30.cell? ⟨gb254, 0, none⟩ = some (.int .i64 0) := (bcl BK254.out 0).trans rfl; have hcz32_1 : w30.cell? ⟨gb254, 1, none⟩ = some (.int .i64 0) := (bcl BK254.out 1).trans rfl; have hfz32_0 := bfz BK254.out 0; have hfz32_1 := bfz BK254.out 1) | ((with_reducible refine gate_callee (f := 28) rfl ?_); refine goesL_ (some 60) rfl rfl Tryd.func28 (by kernel_rfl) rfl #[.int .i64 ((rd_T44 l0_2 x4_3).f0)] rfl (by (try simp only [List.map_toArray, List.map_cons, List.map_nil]); first | done | rfl | (simp only [List.length_drop, List.length_take]; rfl)) ?_; (with_reducible refine (r6_begins.calls k3 ((rd_T44 l0_2 x4_3).f0) true _ A26.out).mono ?_); rintro e w33 ⟨rfl, hb⟩; refine ⟨_, rfl, ?_⟩; have n0_ := Ad.mk (bbl (g := gb246) (o := .cells #[.int .i64 a0_0, .int .i64 a0_1, .slice (some ad253) l0_2.length c0_2] 24 (0, 0)) (by (with_reducible repeat (first | refine bkN ?_ _ | refine bkd ?_ | refine bka ?_ _)); refine blk_far ?_ NB246_254.out _; (with_reducible repeat (first | refine bkN ?_ _ | refine bkd ?_ | refine bka ?_ _)); refine blk_far ?_ NB246_254.out _; (with_reducible repeat (first | refine bkN ?_ _ | refine bkd ?_ | refine bka ?_ _)); exact BK246.out) hb); have n1_ := Ad.mk (bbl (g := gb254) (o := .cells #[.int .i64 ((rd_T44 l0_2 x4_3).f0), .int .i64 ((rd_T44 l0_2 x4_3).f1)] 44 (0, 0)) (by (with_reducible repeat (first | refine bkN ?_ _ | refine bkd ?_ | refine bka ?_ _)); refine blk_put (cs := #[.int .i64 ((rd_T44 l0_2 x4_3).f0), .int .i64 0]) ?_ 1 _ rfl; (with_reducible repeat (first | refine bkN ?_ _ | refine bkd ?_ | refine bka ?_ _)); refine blk_put (cs := #[.int .i64 0, .int .i64 0]) ?_ 0 _ rfl; (with_reducible repeat (first | refine bkN ?_ _ | refine bkd ?_ | refine bka ?_ _)); exact BK254.out) hb); have n2_ := Ad.mk (pbt (by repeat (first | (with_reducible first | exact HB.out | apply pba | apply pbN | apply pb1 | refine pbs ?_ GE246.out | refine pbs ?_ GE254.out) | exact HB.out)) hb); clear BK246; clear BK254; clear HB; have BK246 := n0_; have BK254 := n1_; have HB := n2_; clear n0_ n1_ n2_; (try clear hb); (try clear hb2); (try clear hk); (try clear hi)))
             (try simp only [Act.put, sA, sB, sC])
             go_cut [62] (fun v62 wc => ∃ (kq : Nat) (x62_27 : Bool), v62 = .bool x62_27 ∧ Ad (r6_Check.j3 kq x4_3 x62_27 a0_0 a0_1 l0_2 ((rd_T44 l0_2 x4_3).f0) ((rd_T44 l0_2 x4_3).f1) = some r) ∧ Ad (kq ≤ k3) ∧ Ad (wc.heap[gb246]? = some (.cells #[.int .i64 a0_0, .int .i64 a0_1, (.slice (some ad253) l0_2.length c0_2)] 24 (0, 0))) ∧ Ad (wc.heap[gb254]? = some (.cells #[.int .i64 ((rd_T44 l0_2 x4_3).f0), .int .i64 ((rd_T44 l0_2 x4_3).f1)] 44 (0, 0))) ∧ Ad (Below w.heap.size w wc))
             case first =>
              have H := HC28.out
              clear HC28
              by_cases c34 : x4_3 > 0
              ·rw [if_pos c34] at H
               have c34b0 : decide (0 < x4_3) = true := decide_eq_true c34
               clear c34
               (first | rw [c34b0] | (simp only [i64_w, i32_w]; rw [c34b0]) | skip)
               obtain ⟨ji35, hji35⟩ : ∃ j_ : Int, (wrap64 (x4_3 - 1)) = j_ := ⟨_, rfl⟩
               replace H : (if 0 ≤ (ji35) then (if (ji35) < (l0_2.length : Int) then (r6_Check.j3 k3 x4_3 (decide (((rd_T44 l0_2 x4_3).f0) ≤ ((rd_T44 l0_2 (ji35)).f0))) a0_0 a0_1 l0_2 ((rd_T44 l0_2 x4_3).f0) ((rd_T44 l0_2 x4_3).f1)) else (none)) else (none)) = some r := by first | (rw [hji35] at H; exact H) | (simp only [hji35] at H ⊢; exact H)
               have hji35w : (IntKind.i64.wrap (x4_3 - 1)) = ji35 := (i64_w _).trans hji35
               by_cases c36 : 0 ≤ (ji35)
               ·rw [if_pos c36] at H
                have c36b0 : decide (0 ≤ (ji35)) = true := decide_eq_true c36
                clear c36
                by_cases c37 : (ji35) < (l0_2.length : Int)
                ·rw [if_pos c37] at H
                 have c37b0 : decide ((ji35) < (l0_2.length : Int)) = true := decide_eq_true c37
                 clear c37
                 have H' := Ad.mk H
                 clear H
                 try go_wp2
                 have n0_ := Ad.mk (bkd BK246.out)
                 have n1_ := Ad.mk (bkd BK254.out)
                 have n2_ := Ad.mk (pb1 HB.out)
                 clear BK246
                 clear BK254
                 clear HB
                 have BK246 := n0_
                 have BK254 := n1_
                 have HB := n2_
                 clear n0_ n1_ n2_
                 have p256 : 0 ≤ ((ji35) : Int) := of_decide_eq_true (by first | (with_reducible assumption) | assumption)
                 have q256 : (ji35) < (l0_2.length : Int) := of_decide_eq_true (by first | (with_reducible assumption) | assumption)
                 obtain ⟨ad256, e256, hx256_0, hx256_1⟩ := at_T44 HR0_2.out (ji35) p256 q256
                 have hw256_1 := hx256_1
                 have hw256_0 := hx256_0
                 obtain rfl : ad253 = ad256 := (by injection e256)
                 replace hx256_0 := (HB.out.cell (World.block_lt_of_cell? w _ hx256_0)).trans hx256_0
                 replace hx256_1 := (HB.out.cell (World.block_lt_of_cell? w _ hx256_1)).trans hx256_1
                 replace p256 := eq_true p256
                 replace q256 := eq_true q256
                 refine start_ (n := 15) (S := fun w' => w'.cell? ⟨gb254, 0, none⟩ = some (.int .i64 ((rd_T44 l0_2 x4_3).f0)) ∧ w'.cell? ⟨gb254, 1, none⟩ = some (.int .i64 ((rd_T44 l0_2 x4_3).f1)) ∧ w'.cell? ⟨gb246, 0, none⟩ = some (.int .i64 a0_0) ∧ w'.cell? ⟨gb246, 1, none⟩ = some (.int .i64 a0_1) ∧ w'.cell? ⟨gb246, 2, none⟩ = some (.slice (some ad253) l0_2.length c0_2) ∧ w'.cell? (ad253.add (((ji35)).toNat * 2)) = some (.int .i64 ((rd_T44 l0_2 (ji35)).f0)) ∧ w'.cell? ⟨(ad253.add (((ji35)).toNat * 2)).block, (ad253.add (((ji35)).toNat * 2)).off + 1, none⟩ = some (.int .i64 ((rd_T44 l0_2 (ji35)).f1))) (ds := []) #[false, false, false, false, false, false, false, false, false, false, false, false, false, false, false] (by kernel_rfl) rfl rfl ⟨(bcl BK254.out 0).trans rfl, (bcl BK254.out 1).trans rfl, (bcl BK246.out 0).trans rfl, (bcl BK246.out 1).trans rfl, (bcl BK246.out 2).trans rfl, ((HB.out.cell (World.block_lt_of_cell? w _ hw256_0)).trans hw256_0), ((HB.out.cell (World.block_lt_of_cell? w _ hw256_1)).trans hw256_1)⟩ (fun hHeld => ?_); refine with_tabW r6_Check.tab16 r6_Check.bits16 (fun HT_ HW_ => ?_)
                 generalize w33.drew = w38 at BK246 BK254 HB hx256_0 hx256_1 hHeld ⊢
                 refine pure_ (i := 0) (N := some 63) (v := ?_) (a' := ?_) #[true, false, false, false, false, false, false, false, false, false, false, false, false, false, false] rfl rfl (any_of HT_.out (by kernel_rfl)) (fun _ _ _ h => h) (Or.inl ⟨by rfl, ?_⟩) ?_ ?_
                 rotate_left
                 ·intro w'
                  go_simp
                  with_reducible rfl
                 rotate_left
                 ·simp only [Act.put, sA, sB, sC, i64_w, i32_w]
                  rfl
                 refine pure_ (i := 1) (N := some 64) (v := ?_) (a' := ?_) #[true, true, false, false, false, false, false, false, false, false, false, false, false, false, false] rfl rfl (any_of HT_.out (by kernel_rfl)) (fun _ _ _ h => h) (Or.inl ⟨by rfl, ?_⟩) ?_ ?_
                 rotate_left
                 ·intro w'
                  go_simp
                  with_reducible rfl
                 rotate_left
                 ·simp only [Act.put, sA, sB, sC, i64_w, i32_w]
                  rfl
                 refine pure_ (i := 2) (N := some 65) (v := ?_) (a' := ?_) #[true, true, true, false, false, false, false, false, false, false, false, false, false, false, false] rfl rfl (any_of HT_.out (by kernel_rfl)) (fun _ _ _ h => h) (Or.inl ⟨by rfl, ?_⟩) ?_ ?_
                 rotate_left
                 ·intro w'
                  go_simp
                  with_reducible rfl
                 rotate_left
                 ·simp only [Act.put, sA, sB, sC, i64_w, i32_w]
                  rfl
                 refine pure_ (i := 3) (N := some 66) (v := ?_) (a' := ?_) #[true, true, true, true, false, false, false, false, false, false, false, false, false, false, false] rfl rfl (any_of HT_.out (by kernel_rfl)) (fun _ _ _ h => h) (Or.inl ⟨by rfl, ?_⟩) ?_ ?_
                 rotate_left
                 ·intro w'
                  go_simp
                  with_reducible rfl
                 rotate_left
                 ·simp only [Act.put, sA, sB, sC, i64_w, i32_w]
                  rfl
                 refine pure_ (i := 5) (N := some 68) (v := ?_) (a' := ?_) #[true, true, true, true, false, true, false, false, false, false, false, false, false, false, false] rfl rfl (any_of HT_.out (by kernel_rfl)) (fun _ _ _ h => h) (Or.inl ⟨by rfl, ?_⟩) ?_ ?_
                 rotate_left
                 ·intro w'
                  go_simp
                  with_reducible rfl
                 rotate_left
                 ·simp only [Act.put, sA, sB, sC, i64_w, i32_w]
                  rfl
                 refine pure_ (i := 7) (N := some 70) (v := ?_) (a' := ?_) #[true, true, true, true, false, true, false, true, false, false, false, false, false, false, false] rfl rfl (any_of HT_.out (by kernel_rfl)) (fun _ _ _ h => h) (Or.inl ⟨by rfl, ?_⟩) ?_ ?_
                 rotate_left
                 ·intro w'
                  go_simp
                  with_reducible rfl
                 rotate_left
                 ·simp only [Act.put, sA, sB, sC, i64_w, i32_w]
                  rfl
                 refine pure_ (i := 8) (N := some 71) (v := ?_) (a' := ?_) #[true, true, true, true, false, true, false, true, true, false, false, false, false, false, false] rfl rfl (any_of HT_.out (by kernel_rfl)) (fun _ _ _ h => h) (Or.inl ⟨by rfl, ?_⟩) ?_ ?_
                 rotate_left
                 ·intro w'
                  go_simp
                  with_reducible rfl
                 rotate_left
                 ·simp only [Act.put, sA, sB, sC, i64_w, i32_w]
                  rfl
                 refine take_ (i := 4) (N := some 67) (v := ?_) (a' := ?_) #[true, true, true, true, true, true, false, true, true, false, false, false, false, false, false] rfl rfl (take_ofW HT_.out HW_.out (by kernel_rfl)) (fun _ _ _ h => h) (Or.inl ⟨by rfl, ?_⟩) hHeld ?_ ?_
                 rotate_left
                 ·rintro w' ⟨s0, s1, s2, s3, s4, s5, s6⟩
                  go_simp
                  with_reducible rfl
                 rotate_left
                 ·simp only [Act.put, sA, sB, sC, i64_w, i32_w]
                  rfl
                 refine take_ (i := 6) (N := some 69) (v := ?_) (a' := ?_) #[true, true, true, true, true, true, true, true, true, false, false, false, false, false, false] rfl rfl (take_ofW HT_.out HW_.out (by kernel_rfl)) (fun _ _ _ h => h) (Or.inl ⟨by rfl, ?_⟩) hHeld ?_ ?_
                 rotate_left
                 ·rintro w' ⟨s0, s1, s2, s3, s4, s5, s6⟩
                  go_simp
                  with_reducible rfl
                 rotate_left
                 ·simp only [Act.put, sA, sB, sC, i64_w, i32_w]
                  rfl
                 refine pure_ (i := 9) (N := some 72) (v := ?_) (a' := ?_) #[true, true, true, true, true, true, true, true, true, true, false, false, false, false, false] rfl rfl (any_of HT_.out (by kernel_rfl)) (fun _ _ _ h => h) (Or.inl ⟨by rfl, ?_⟩) ?_ ?_
                 rotate_left
                 ·intro w'
                  go_simp
                  with_reducible rfl
                 rotate_left
                 ·simp only [Act.put, sA, sB, sC, i64_w, i32_w]
                  rfl
                 refine pure_ (i := 10) (N := some 73) (v := ?_) (a' := ?_) #[true, true, true, true, true, true, true, true, true, true, true, false, false, false, false] rfl rfl (any_of HT_.out (by kernel_rfl)) (fun _ _ _ h => h) (Or.inl ⟨by rfl, ?_⟩) ?_ ?_
                 rotate_left
                 ·intro w'
                  go_simp
                  with_reducible rfl
                 rotate_left
                 ·simp only [Act.put, sA, sB, sC, i64_w, i32_w]
                  rfl
                 refine take_ (i := 11) (N := some 74) (v := ?_) (a' := ?_) #[true, true, true, true, true, true, true, true, true, true, true, true, false, false, false] rfl rfl (take_ofW HT_.out HW_.out (by kernel_rfl)) (fun _ _ _ h => h) (Or.inl ⟨by rfl, ?_⟩) hHeld ?_ ?_
                 rotate_left
                 ·rintro w' ⟨s0, s1, s2, s3, s4, s5, s6⟩
                  go_simp
                  with_reducible rfl
                 rotate_left
                 ·simp only [Act.put, sA, sB, sC, i64_w, i32_w]
                  rfl
                 refine pure_ (i := 12) (N := some 75) (v := ?_) (a' := ?_) #[true, true, true, true, true, true, true, true, true, true, true, true, true, false, false] rfl rfl (any_of HT_.out (by kernel_rfl)) (fun _ _ _ h => h) (Or.inl ⟨by rfl, ?_⟩) ?_ ?_
                 rotate_left
                 ·intro w'
                  go_simp
                  with_reducible rfl
                 rotate_left
                 ·simp only [Act.put, sA, sB, sC, i64_w, i32_w]
                  rfl
                 refine pure_ (i := 13) (N := some 76) (v := ?_) (a' := ?_) #[true, true, true, true, true, true, true, true, true, true, true, true, true, true, false] rfl rfl (any_of HT_.out (by kernel_rfl)) (fun _ _ _ h => h) (Or.inl ⟨by rfl, ?_⟩) ?_ ?_
                 rotate_left
                 ·intro w'
                  go_simp
                  with_reducible rfl
                 rotate_left
                 ·simp only [Act.put, sA, sB, sC, i64_w, i32_w]
                  rfl
                 refine pure_ (i := 14) (N := some 62) (v := ?_) (a' := ?_) #[true, true, true, true, true, true, true, true, true, true, true, true, true, true, true] rfl rfl (any_of HT_.out (by kernel_rfl)) (fun _ _ _ h => h) (Or.inl ⟨by rfl, ?_⟩) ?_ ?_
                 rotate_left
                 ·intro w'
                  go_simp
                  with_reducible rfl
                 rotate_left
                 ·simp only [Act.put, sA, sB, sC, i64_w, i32_w]
                  rfl
                 refine done_ (done_of HT_.out (by kernel_rfl)) ?_
                 try go_wp2
                 go_meet
                 case rel => exact ⟨_, (decide (((rd_T44 l0_2 x4_3).f0) ≤ ((rd_T44 l0_2 (ji35)).f0))), (by first | rfl | (simp; done) | (simp only [← hji35] <;> (first | rfl | simp)) | (simp [*]; done)), H', ⟨by have := HJ4.out; have := HK2.out; have := HK3.out; first | omega | exact Nat.le_refl _⟩, ⟨by (with_reducible repeat (first | refine bkN ?_ _ | refine bkd ?_ | refine bka ?_ _)); exact BK246.out⟩, ⟨by (with_reducible repeat (first | refine bkN ?_ _ | refine bkd ?_ | refine bka ?_ _)); exact BK254.out⟩, ⟨by repeat (first | (with_reducible first | exact HB.out | apply pba | apply pbN | apply pb1 | refine pbs ?_ GE246.out | refine pbs ?_ GE254.out) | exact HB.out)⟩⟩
                ·rw [if_neg c37] at H
                 exact absurd H (by simp)
               ·rw [if_neg c36] at H
                exact absurd H (by simp)
              ·rw [if_neg c34] at H
               have c34b0 : decide (0 < x4_3) = false := decide_eq_false c34
               clear c34
               (first | rw [c34b0] | (simp only [i64_w, i32_w]; rw [c34b0]) | skip)
               have H' := Ad.mk H
               clear H
               try go_wp2
               have n0_ := Ad.mk (bkd BK246.out)
               have n1_ := Ad.mk (bkd BK254.out)
               have n2_ := Ad.mk (pb1 HB.out)
               clear BK246
               clear BK254
               clear HB
               have BK246 := n0_
               have BK254 := n1_
               have HB := n2_
               clear n0_ n1_ n2_
               refine start_ (n := 15) (S := fun w' => True) (ds := []) #[false, false, false, false, false, false, false, false, false, false, false, false, false, false, false] (by kernel_rfl) rfl rfl trivial (fun hHeld => ?_); refine with_tabW r6_Check.tab16 r6_Check.bits16 (fun HT_ HW_ => ?_)
               generalize w33.drew = w39 at BK246 BK254 HB hHeld ⊢
               refine pure_ (i := 0) (N := some 63) (v := ?_) (a' := ?_) #[true, false, false, false, false, false, false, false, false, false, false, false, false, false, false] rfl rfl (any_of HT_.out (by kernel_rfl)) (fun _ _ _ h => h) (Or.inl ⟨by rfl, ?_⟩) ?_ ?_
               rotate_left
               ·intro w'
                go_simp
                with_reducible rfl
               rotate_left
               ·simp only [Act.put, sA, sB, sC, i64_w, i32_w]
                rfl
               refine pure_ (i := 1) (N := some 64) (v := ?_) (a' := ?_) #[true, true, false, false, false, false, false, false, false, false, false, false, false, false, false] rfl rfl (any_of HT_.out (by kernel_rfl)) (fun _ _ _ h => h) (Or.inl ⟨by rfl, ?_⟩) ?_ ?_
               rotate_left
               ·intro w'
                go_simp
                with_reducible rfl
               rotate_left
               ·simp only [Act.put, sA, sB, sC, i64_w, i32_w]
                rfl
               refine pure_ (i := 2) (N := some 65) (v := ?_) (a' := ?_) #[true, true, true, false, false, false, false, false, false, false, false, false, false, false, false] rfl rfl (any_of HT_.out (by kernel_rfl)) (fun _ _ _ h => h) (Or.inl ⟨by rfl, ?_⟩) ?_ ?_
               rotate_left
               ·intro w'
                go_simp
                with_reducible rfl
               rotate_left
               ·simp only [Act.put, sA, sB, sC, i64_w, i32_w]
                rfl
               refine pure_ (i := 3) (N := some 66) (v := undef) (a' := ?_) #[true, true, true, true, false, false, false, false, false, false, false, false, false, false, false] rfl rfl (any_of HT_.out (by kernel_rfl)) (fun _ _ _ h => h) (Or.inr ⟨by rfl, rfl⟩) ?_ ?_
               rotate_left
               ·simp only [Act.put, sA, sB, sC, i64_w, i32_w]
                rfl
               refine pure_ (i := 4) (N := some 67) (v := undef) (a' := ?_) #[true, true, true, true, true, false, false, false, false, false, false, false, false, false, false] rfl rfl (any_of HT_.out (by kernel_rfl)) (fun _ _ _ h => h) (Or.inr ⟨by rfl, rfl⟩) ?_ ?_
               rotate_left
               ·simp only [Act.put, sA, sB, sC, i64_w, i32_w]
                rfl
               refine pure_ (i := 5) (N := some 68) (v := undef) (a' := ?_) #[true, true, true, true, true, true, false, false, false, false, false, false, false, false, false] rfl rfl (any_of HT_.out (by kernel_rfl)) (fun _ _ _ h => h) (Or.inr ⟨by rfl, rfl⟩) ?_ ?_
               rotate_left
               ·simp only [Act.put, sA, sB, sC, i64_w, i32_w]
                rfl
               refine pure_ (i := 6) (N := some 69) (v := undef) (a' := ?_) #[true, true, true, true, true, true, true, false, false, false, false, false, false, false, false] rfl rfl (any_of HT_.out (by kernel_rfl)) (fun _ _ _ h => h) (Or.inr ⟨by rfl, rfl⟩) ?_ ?_
               rotate_left
               ·simp only [Act.put, sA, sB, sC, i64_w, i32_w]
                rfl
               refine pure_ (i := 7) (N := some 70) (v := undef) (a' := ?_) #[true, true, true, true, true, true, true, true, false, false, false, false, false, false, false] rfl rfl (any_of HT_.out (by kernel_rfl)) (fun _ _ _ h => h) (Or.inr ⟨by rfl, rfl⟩) ?_ ?_
               rotate_left
               ·simp only [Act.put, sA, sB, sC, i64_w, i32_w]
                rfl
               refine pure_ (i := 8) (N := some 71) (v := undef) (a' := ?_) #[true, true, true, true, true, true, true, true, true, false, false, false, false, false, false] rfl rfl (any_of HT_.out (by kernel_rfl)) (fun _ _ _ h => h) (Or.inr ⟨by rfl, rfl⟩) ?_ ?_
               rotate_left
               ·simp only [Act.put, sA, sB, sC, i64_w, i32_w]
                rfl
               refine pure_ (i := 9) (N := some 72) (v := undef) (a' := ?_) #[true, true, true, true, true, true, true, true, true, true, false, false, false, false, false] rfl rfl (any_of HT_.out (by kernel_rfl)) (fun _ _ _ h => h) (Or.inr ⟨by rfl, rfl⟩) ?_ ?_
               rotate_left
               ·simp only [Act.put, sA, sB, sC, i64_w, i32_w]
                rfl
               refine pure_ (i := 10) (N := some 73) (v := undef) (a' := ?_) #[true, true, true, true, true, true, true, true, true, true, true, false, false, false, false] rfl rfl (any_of HT_.out (by kernel_rfl)) (fun _ _ _ h => h) (Or.inr ⟨by rfl, rfl⟩) ?_ ?_
               rotate_left
               ·simp only [Act.put, sA, sB, sC, i64_w, i32_w]
                rfl
               refine pure_ (i := 11) (N := some 74) (v := undef) (a' := ?_) #[true, true, true, true, true, true, true, true, true, true, true, true, false, false, false] rfl rfl (any_of HT_.out (by kernel_rfl)) (fun _ _ _ h => h) (Or.inr ⟨by rfl, rfl⟩) ?_ ?_
               rotate_left
               ·simp only [Act.put, sA, sB, sC, i64_w, i32_w]
                rfl
               refine pure_ (i := 12) (N := some 75) (v := undef) (a' := ?_) #[true, true, true, true, true, true, true, true, true, true, true, true, true, false, false] rfl rfl (any_of HT_.out (by kernel_rfl)) (fun _ _ _ h => h) (Or.inr ⟨by rfl, rfl⟩) ?_ ?_
               rotate_left
               ·simp only [Act.put, sA, sB, sC, i64_w, i32_w]
                rfl
               refine pure_ (i := 13) (N := some 76) (v := ?_) (a' := ?_) #[true, true, true, true, true, true, true, true, true, true, true, true, true, true, false] rfl rfl (any_of HT_.out (by kernel_rfl)) (fun _ _ _ h => h) (Or.inl ⟨by rfl, ?_⟩) ?_ ?_
               rotate_left
               ·intro w'
                go_simp
                with_reducible rfl
               rotate_left
               ·simp only [Act.put, sA, sB, sC, i64_w, i32_w]
                rfl
               refine pure_ (i := 14) (N := some 62) (v := ?_) (a' := ?_) #[true, true, true, true, true, true, true, true, true, true, true, true, true, true, true] rfl rfl (any_of HT_.out (by kernel_rfl)) (fun _ _ _ h => h) (Or.inl ⟨by rfl, ?_⟩) ?_ ?_
               rotate_left
               ·intro w'
                go_simp
                with_reducible rfl
               rotate_left
               ·simp only [Act.put, sA, sB, sC, i64_w, i32_w]
                rfl
               refine done_ (done_of HT_.out (by kernel_rfl)) ?_
               try go_wp2
               go_meet
               case rel => exact ⟨_, (false), (by first | rfl | (simp; done) | (simp [*]; done)), H', ⟨by have := HJ4.out; have := HK2.out; have := HK3.out; first | omega | exact Nat.le_refl _⟩, ⟨by (with_reducible repeat (first | refine bkN ?_ _ | refine bkd ?_ | refine bka ?_ _)); exact BK246.out⟩, ⟨by (with_reducible repeat (first | refine bkN ?_ _ | refine bkd ?_ | refine bka ?_ _)); exact BK254.out⟩, ⟨by repeat (first | (with_reducible first | exact HB.out | apply pba | apply pbN | apply pb1 | refine pbs ?_ GE246.out | refine pbs ?_ GE254.out) | exact HB.out)⟩⟩
             case rest =>
              clear HC28
              obtain ⟨kq, x62_27, rfl, HA, HJ27, BK246, BK254, HB⟩ := hcut
              cases kq with
              | zero => exact absurd HA.out (by simp [r6_Check.j3])
              | succ kj27 =>
               have H := HA.out
               clear HA
               simp only [r6_Check.j3] at H
               by_cases c40 : x62_27 = true
               ·subst c40
                have H1 : (some 12) = some r := by rw [if_pos rfl] at H; exact H
                clear H
                have H := H1
                clear H1
                obtain rfl := Option.some.inj H
                go_wp2
                go_ret
                exact ⟨by first | rfl | (simp [ewn, ews] <;> rfl) | (simp [*, ewn, ews] <;> rfl), by repeat (first | (with_reducible first | exact HB.out | apply pba | apply pbN | apply pb1 | refine pbs ?_ GE246.out | refine pbs ?_ GE254.out) | exact HB.out)⟩
               ·replace c40 := Bool.eq_false_iff.mpr c40
                subst c40
                have H1 : ((r6_old.f a0_0 a0_1 l0_2 x4_3).bind fun t257 => (if ((rd_T44 l0_2 x4_3).f1) = (wrap64 (t257 + 1)) then (r6_Check.l1 kj27 (wrap64 (x4_3 + 1)) a0_0 a0_1 l0_2) else ((r6_old.f a0_0 a0_1 l0_2 x4_3).bind fun t258 => (if ((rd_T44 l0_2 x4_3).f1) = (wrap64 (t258 - 1)) then (r6_Check.l1 kj27 (wrap64 (x4_3 + 1)) a0_0 a0_1 l0_2) else (some 3))))) = some r := by rw [if_neg (show ¬ (false = true) by decide)] at H; exact H
                clear H
                have H := H1
                clear H1
                replace H := Option.bind_eq_some_iff.mp H
                obtain ⟨t257, A410, H⟩ := H
                replace H : (if ((rd_T44 l0_2 x4_3).f1) = (wrap64 (t257 + 1)) then (r6_Check.l1 kj27 (wrap64 (x4_3 + 1)) a0_0 a0_1 l0_2) else ((r6_old.f a0_0 a0_1 l0_2 x4_3).bind fun t258 => (if ((rd_T44 l0_2 x4_3).f1) = (wrap64 (t258 - 1)) then (r6_Check.l1 kj27 (wrap64 (x4_3 + 1)) a0_0 a0_1 l0_2) else (some 3)))) = some r := H
                have A41 := Ad.mk A410
                clear A410
                by_cases c42 : ((rd_T44 l0_2 x4_3).f1) = (wrap64 (t257 + 1))
                ·rw [if_pos c42] at H
                 have c42b0 : (((rd_T44 l0_2 x4_3).f1) == (wrap64 (t257 + 1))) = true := beq_iff_eq.mpr c42
                 have c42b1 : (((rd_T44 l0_2 x4_3).f1) != (wrap64 (t257 + 1))) = false := bne_eq_false_iff_eq.mpr c42
                 clear c42
                 have H' := Ad.mk H
                 clear H
                 try go_wp2
                 have n0_ := Ad.mk (bkd BK246.out)
                 have n1_ := Ad.mk (bkd BK254.out)
                 have n2_ := Ad.mk (pb1 HB.out)
                 clear BK246
                 clear BK254
                 clear HB
                 have BK246 := n0_
                 have BK254 := n1_
                 have HB := n2_
                 clear n0_ n1_ n2_
                 refine start_ (n := 17) (S := fun w' => w'.cell? ⟨gb254, 0, none⟩ = some (.int .i64 ((rd_T44 l0_2 x4_3).f0)) ∧ w'.cell? ⟨gb254, 1, none⟩ = some (.int .i64 ((rd_T44 l0_2 x4_3).f1)) ∧ w'.cell? ⟨gb246, 0, none⟩ = some (.int .i64 a0_0) ∧ w'.cell? ⟨gb246, 1, none⟩ = some (.int .i64 a0_1) ∧ w'.cell? ⟨gb246, 2, none⟩ = some (.slice (some ad253) l0_2.length c0_2)) (ds := []) #[false, false, false, false, false, false, false, false, false, false, false, false, false, false, false, false, false] (by kernel_rfl) rfl rfl ⟨(bcl BK254.out 0).trans rfl, (bcl BK254.out 1).trans rfl, (bcl BK246.out 0).trans rfl, (bcl BK246.out 1).trans rfl, (bcl BK246.out 2).trans rfl⟩ (fun hHeld => ?_); refine with_tabW r6_Check.tab18 r6_Check.bits18 (fun HT_ HW_ => ?_)
                 generalize wc.drew = w43 at BK246 BK254 HB hHeld ⊢
                 refine pure_ (i := 0) (N := some 78) (v := ?_) (a' := ?_) #[true, false, false, false, false, false, false, false, false, false, false, false, false, false, false, false, false] rfl rfl (any_of HT_.out (by kernel_rfl)) (fun _ _ _ h => h) (Or.inl ⟨by rfl, ?_⟩) ?_ ?_
                 rotate_left
                 ·intro w'
                  go_simp
                  with_reducible rfl
                 rotate_left
                 ·simp only [Act.put, sA, sB, sC, i64_w, i32_w]
                  rfl
                 refine pure_ (i := 3) (N := some 81) (v := ?_) (a' := ?_) #[true, false, false, true, false, false, false, false, false, false, false, false, false, false, false, false, false] rfl rfl (any_of HT_.out (by kernel_rfl)) (fun _ _ _ h => h) (Or.inl ⟨by rfl, ?_⟩) ?_ ?_
                 rotate_left
                 ·intro w'
                  go_simp
                  with_reducible rfl
                 rotate_left
                 ·simp only [Act.put, sA, sB, sC, i64_w, i32_w]
                  rfl
                 refine take_ (i := 1) (N := some 79) (v := ?_) (a' := ?_) #[true, true, false, true, false, false, false, false, false, false, false, false, false, false, false, false, false] rfl rfl (take_ofW HT_.out HW_.out (by kernel_rfl)) (fun _ _ _ h => h) (Or.inl ⟨by rfl, ?_⟩) hHeld ?_ ?_
                 rotate_left
                 ·rintro w' ⟨s0, s1, s2, s3, s4⟩
                  go_simp
                  with_reducible rfl
                 rotate_left
                 ·simp only [Act.put, sA, sB, sC, i64_w, i32_w]
                  rfl
                 refine take_ (i := 2) (N := some 80) (v := ?_) (a' := ?_) #[true, true, true, true, false, false, false, false, false, false, false, false, false, false, false, false, false] rfl rfl (take_ofW HT_.out HW_.out (by kernel_rfl)) (fun _ _ _ h => h) (Or.inl ⟨by rfl, ?_⟩) hHeld ?_ ?_
                 rotate_left
                 ·rintro w' ⟨s0, s1, s2, s3, s4⟩
                  go_simp
                  with_reducible rfl
                 rotate_left
                 ·simp only [Act.put, sA, sB, sC, i64_w, i32_w]
                  rfl
                 refine one_ (i := 4) (N := some 82) #[true, true, true, true, true, false, false, false, false, false, false, false, false, false, false, false, false] rfl rfl (one_of HT_.out (by kernel_rfl)) (by decide) (fun K hK => ?_)
                 refine goes_ Tryd.func29 (by kernel_rfl) rfl #[.agg #[.int .i64 a0_0, .int .i64 a0_1, .slice (some ad253) l0_2.length c0_2], .int .i64 x4_3] (by rfl) rfl rfl (by (try simp only [List.map_toArray, List.map_cons, List.map_nil]); first | done | rfl | (simp only [List.length_drop, List.length_take]; rfl)) ?_
                 with_reducible refine (r6_old.calls a0_0 a0_1 _ _ l0_2 x4_3 t257 _ ?side1 ?side2 A41.out).mono ?_
                 (case side1 => repeat (first | exact (Kd.C_below HR0_2.out HB.out) | (with_reducible refine Kd.C_alloc ?_ _) | (with_reducible refine Kd.C_drewN ?_ _) | (with_reducible refine Kd.C_drew ?_)))
                 (case side2 => exact HC0_2.out)
                 rintro e w44 ⟨rfl, hb⟩
                 refine ⟨_, rfl, ?_⟩
                 have n0_ := Ad.mk (bbl (g := gb246) (o := .cells #[.int .i64 a0_0, .int .i64 a0_1, .slice (some ad253) l0_2.length c0_2] 24 (0, 0)) (by (with_reducible repeat (first | refine bkN ?_ _ | refine bkd ?_ | refine bka ?_ _)); exact BK246.out) hb)
                 have n1_ := Ad.mk (bbl (g := gb254) (o := .cells #[.int .i64 ((rd_T44 l0_2 x4_3).f0), .int .i64 ((rd_T44 l0_2 x4_3).f1)] 44 (0, 0)) (by (with_reducible repeat (first | refine bkN ?_ _ | refine bkd ?_ | refine bka ?_ _)); exact BK254.out) hb)
                 have n2_ := Ad.mk (pbt (by repeat (first | (with_reducible first | exact HB.out | apply pba | apply pbN | apply pb1 | refine pbs ?_ GE246.out | refine pbs ?_ GE254.out) | exact HB.out)) hb)
                 clear BK246
                 clear BK254
                 clear HB
                 have BK246 := n0_
                 have BK254 := n1_
                 have HB := n2_
                 clear n0_ n1_ n2_
                 (try clear hb)
                 (try clear hb2)
                 (try clear hk)
                 (try clear hi)
                 refine hK.out _ _ ⟨(bcl BK254.out 0).trans rfl, (bcl BK254.out 1).trans rfl, (bcl BK246.out 0).trans rfl, (bcl BK246.out 1).trans rfl, (bcl BK246.out 2).trans rfl⟩ (fun hHeld => ?_)
                 clear hK K
                 refine norm_ (a' := ?_) ?_ ?_
                 rotate_left
                 ·show Act.put _ (some 82) _ = _
                  simp only [Act.put, sA, sB, sC, i64_w, i32_w]
                  rfl
                 refine pure_ (i := 5) (N := some 83) (v := ?_) (a' := ?_) #[true, true, true, true, true, true, false, false, false, false, false, false, false, false, false, false, false] rfl rfl (any_of HT_.out (by kernel_rfl)) (fun _ _ _ h => h) (Or.inl ⟨by rfl, ?_⟩) ?_ ?_
                 rotate_left
                 ·intro w'
                  go_simp
                  with_reducible rfl
                 rotate_left
                 ·simp only [Act.put, sA, sB, sC, i64_w, i32_w]
                  rfl
                 refine pure_ (i := 6) (N := some 84) (v := ?_) (a' := ?_) #[true, true, true, true, true, true, true, false, false, false, false, false, false, false, false, false, false] rfl rfl (any_of HT_.out (by kernel_rfl)) (fun _ _ _ h => h) (Or.inl ⟨by rfl, ?_⟩) ?_ ?_
                 rotate_left
                 ·intro w'
                  go_simp
                  with_reducible rfl
                 rotate_left
                 ·simp only [Act.put, sA, sB, sC, i64_w, i32_w]
                  rfl
                 refine pure_ (i := 7) (N := some 85) (v := ?_) (a' := ?_) #[true, true, true, true, true, true, true, true, false, false, false, false, false, false, false, false, false] rfl rfl (any_of HT_.out (by kernel_rfl)) (fun _ _ _ h => h) (Or.inl ⟨by rfl, ?_⟩) ?_ ?_
                 rotate_left
                 ·intro w'
                  go_simp
                  with_reducible rfl
                 rotate_left
                 ·simp only [Act.put, sA, sB, sC, i64_w, i32_w]
                  rfl
                 refine pure_ (i := 8) (N := some 86) (v := undef) (a' := ?_) #[true, true, true, true, true, true, true, true, true, false, false, false, false, false, false, false, false] rfl rfl (any_of HT_.out (by kernel_rfl)) (fun _ _ _ h => h) (Or.inr ⟨by rfl, rfl⟩) ?_ ?_
                 rotate_left
                 ·simp only [Act.put, sA, sB, sC, i64_w, i32_w]
                  rfl
                 refine pure_ (i := 9) (N := some 87) (v := undef) (a' := ?_) #[true, true, true, true, true, true, true, true, true, true, false, false, false, false, false, false, false] rfl rfl (any_of HT_.out (by kernel_rfl)) (fun _ _ _ h => h) (Or.inr ⟨by rfl, rfl⟩) ?_ ?_
                 rotate_left
                 ·simp only [Act.put, sA, sB, sC, i64_w, i32_w]
                  rfl
                 refine pure_ (i := 10) (N := some 88) (v := undef) (a' := ?_) #[true, true, true, true, true, true, true, true, true, true, true, false, false, false, false, false, false] rfl rfl (any_of HT_.out (by kernel_rfl)) (fun _ _ _ h => h) (Or.inr ⟨by rfl, rfl⟩) ?_ ?_
                 rotate_left
                 ·simp only [Act.put, sA, sB, sC, i64_w, i32_w]
                  rfl
                 refine pure_ (i := 11) (N := some 89) (v := undef) (a' := ?_) #[true, true, true, true, true, true, true, true, true, true, true, true, false, false, false, false, false] rfl rfl (any_of HT_.out (by kernel_rfl)) (fun _ _ _ h => h) (Or.inr ⟨by rfl, rfl⟩) ?_ ?_
                 rotate_left
                 ·simp only [Act.put, sA, sB, sC, i64_w, i32_w]
                  rfl
                 refine pure_ (i := 12) (N := some 90) (v := undef) (a' := ?_) #[true, true, true, true, true, true, true, true, true, true, true, true, true, false, false, false, false] rfl rfl (any_of HT_.out (by kernel_rfl)) (fun _ _ _ h => h) (Or.inr ⟨by rfl, rfl⟩) ?_ ?_
                 rotate_left
                 ·simp only [Act.put, sA, sB, sC, i64_w, i32_w]
                  rfl
                 refine pure_ (i := 13) (N := some 91) (v := undef) (a' := ?_) #[true, true, true, true, true, true, true, true, true, true, true, true, true, true, false, false, false] rfl rfl (any_of HT_.out (by kernel_rfl)) (fun _ _ _ h => h) (Or.inr ⟨by rfl, rfl⟩) ?_ ?_
                 rotate_left
                 ·simp only [Act.put, sA, sB, sC, i64_w, i32_w]
                  rfl
                 refine pure_ (i := 14) (N := some 92) (v := undef) (a' := ?_) #[true, true, true, true, true, true, true, true, true, true, true, true, true, true, true, false, false] rfl rfl (any_of HT_.out (by kernel_rfl)) (fun _ _ _ h => h) (Or.inr ⟨by rfl, rfl⟩) ?_ ?_
                 rotate_left
                 ·simp only [Act.put, sA, sB, sC, i64_w, i32_w]
                  rfl
                 refine pure_ (i := 15) (N := some 93) (v := ?_) (a' := ?_) #[true, true, true, true, true, true, true, true, true, true, true, true, true, true, true, true, false] rfl rfl (any_of HT_.out (by kernel_rfl)) (fun _ _ _ h => h) (Or.inl ⟨by rfl, ?_⟩) ?_ ?_
                 rotate_left
                 ·intro w'
                  go_simp
                  with_reducible rfl
                 rotate_left
                 ·simp only [Act.put, sA, sB, sC, i64_w, i32_w]
                  rfl
                 refine pure_ (i := 16) (N := some 77) (v := ?_) (a' := ?_) #[true, true, true, true, true, true, true, true, true, true, true, true, true, true, true, true, true] rfl rfl (any_of HT_.out (by kernel_rfl)) (fun _ _ _ h => h) (Or.inl ⟨by rfl, ?_⟩) ?_ ?_
                 rotate_left
                 ·intro w'
                  go_simp
                  with_reducible rfl
                 rotate_left
                 ·simp only [Act.put, sA, sB, sC, i64_w, i32_w]
                  rfl
                 refine done_ (done_of HT_.out (by kernel_rfl)) ?_
                 try go_wp2
                 go_roundg kj27
                 case measure => have := HJ4.out; have := HK2.out; have := HK3.out; have := HJ27.out; omega
                 case rel => exact ⟨(wrap64 (x4_3 + 1)), (by first | rfl | (simp; done) | (simp [*]; done)), H', ⟨by have := HJ4.out; have := HK2.out; have := HK3.out; have := HJ27.out; omega⟩, ⟨by (with_reducible repeat (first | refine bkN ?_ _ | refine bkd ?_ | refine bka ?_ _)); exact BK246.out⟩, ⟨by repeat (first | (with_reducible first | exact HB.out | apply pba | apply pbN | apply pb1 | refine pbs ?_ GE246.out | refine pbs ?_ GE254.out) | exact HB.out)⟩⟩
                ·rw [if_neg c42] at H
                 have c42b0 : (((rd_T44 l0_2 x4_3).f1) == (wrap64 (t257 + 1))) = false := beq_eq_false_iff_ne.mpr c42
                 have c42b1 : (((rd_T44 l0_2 x4_3).f1) != (wrap64 (t257 + 1))) = true := bne_iff_ne.mpr c42
                 replace H := Option.bind_eq_some_iff.mp H
                 obtain ⟨t258, A450, H⟩ := H
                 replace H : (if ((rd_T44 l0_2 x4_3).f1) = (wrap64 (t258 - 1)) then (r6_Check.l1 kj27 (wrap64 (x4_3 + 1)) a0_0 a0_1 l0_2) else (some 3)) = some r := H
                 have A45 := Ad.mk A450
                 clear A450
                 by_cases c46 : ((rd_T44 l0_2 x4_3).f1) = (wrap64 (t258 - 1))
                 ·rw [if_pos c46] at H
                  have c46b0 : (((rd_T44 l0_2 x4_3).f1) == (wrap64 (t258 - 1))) = true := beq_iff_eq.mpr c46
                  have c46b1 : (((rd_T44 l0_2 x4_3).f1) != (wrap64 (t258 - 1))) = false := bne_eq_false_iff_eq.mpr c46
                  clear c46
                  have H' := Ad.mk H
                  clear H
                  try go_wp2
                  have n0_ := Ad.mk (bkd BK246.out)
                  have n1_ := Ad.mk (bkd BK254.out)
                  have n2_ := Ad.mk (pb1 HB.out)
                  clear BK246
                  clear BK254
                  clear HB
                  have BK246 := n0_
                  have BK254 := n1_
                  have HB := n2_
                  clear n0_ n1_ n2_
                  refine start_ (n := 17) (S := fun w' => w'.cell? ⟨gb254, 0, none⟩ = some (.int .i64 ((rd_T44 l0_2 x4_3).f0)) ∧ w'.cell? ⟨gb254, 1, none⟩ = some (.int .i64 ((rd_T44 l0_2 x4_3).f1)) ∧ w'.cell? ⟨gb246, 0, none⟩ = some (.int .i64 a0_0) ∧ w'.cell? ⟨gb246, 1, none⟩ = some (.int .i64 a0_1) ∧ w'.cell? ⟨gb246, 2, none⟩ = some (.slice (some ad253) l0_2.length c0_2)) (ds := []) #[false, false, false, false, false, false, false, false, false, false, false, false, false, false, false, false, false] (by kernel_rfl) rfl rfl ⟨(bcl BK254.out 0).trans rfl, (bcl BK254.out 1).trans rfl, (bcl BK246.out 0).trans rfl, (bcl BK246.out 1).trans rfl, (bcl BK246.out 2).trans rfl⟩ (fun hHeld => ?_); refine with_tabW r6_Check.tab18 r6_Check.bits18 (fun HT_ HW_ => ?_)
                  generalize wc.drew = w47 at BK246 BK254 HB hHeld ⊢
                  refine pure_ (i := 0) (N := some 78) (v := ?_) (a' := ?_) #[true, false, false, false, false, false, false, false, false, false, false, false, false, false, false, false, false] rfl rfl (any_of HT_.out (by kernel_rfl)) (fun _ _ _ h => h) (Or.inl ⟨by rfl, ?_⟩) ?_ ?_
                  rotate_left
                  ·intro w'
                   go_simp
                   with_reducible rfl
                  rotate_left
                  ·simp only [Act.put, sA, sB, sC, i64_w, i32_w]
                   rfl
                  refine pure_ (i := 3) (N := some 81) (v := ?_) (a' := ?_) #[true, false, false, true, false, false, false, false, false, false, false, false, false, false, false, false, false] rfl rfl (any_of HT_.out (by kernel_rfl)) (fun _ _ _ h => h) (Or.inl ⟨by rfl, ?_⟩) ?_ ?_
                  rotate_left
                  ·intro w'
                   go_simp
                   with_reducible rfl
                  rotate_left
                  ·simp only [Act.put, sA, sB, sC, i64_w, i32_w]
                   rfl
                  refine take_ (i := 1) (N := some 79) (v := ?_) (a' := ?_) #[true, true, false, true, false, false, false, false, false, false, false, false, false, false, false, false, false] rfl rfl (take_ofW HT_.out HW_.out (by kernel_rfl)) (fun _ _ _ h => h) (Or.inl ⟨by rfl, ?_⟩) hHeld ?_ ?_
                  rotate_left
                  ·rintro w' ⟨s0, s1, s2, s3, s4⟩
                   go_simp
                   with_reducible rfl
                  rotate_left
                  ·simp only [Act.put, sA, sB, sC, i64_w, i32_w]
                   rfl
                  refine take_ (i := 2) (N := some 80) (v := ?_) (a' := ?_) #[true, true, true, true, false, false, false, false, false, false, false, false, false, false, false, false, false] rfl rfl (take_ofW HT_.out HW_.out (by kernel_rfl)) (fun _ _ _ h => h) (Or.inl ⟨by rfl, ?_⟩) hHeld ?_ ?_
                  rotate_left
                  ·rintro w' ⟨s0, s1, s2, s3, s4⟩
                   go_simp
                   with_reducible rfl
                  rotate_left
                  ·simp only [Act.put, sA, sB, sC, i64_w, i32_w]
                   rfl
                  refine one_ (i := 4) (N := some 82) #[true, true, true, true, true, false, false, false, false, false, false, false, false, false, false, false, false] rfl rfl (one_of HT_.out (by kernel_rfl)) (by decide) (fun K hK => ?_)
                  refine goes_ Tryd.func29 (by kernel_rfl) rfl #[.agg #[.int .i64 a0_0, .int .i64 a0_1, .slice (some ad253) l0_2.length c0_2], .int .i64 x4_3] (by rfl) rfl rfl (by (try simp only [List.map_toArray, List.map_cons, List.map_nil]); first | done | rfl | (simp only [List.length_drop, List.length_take]; rfl)) ?_
                  with_reducible refine (r6_old.calls a0_0 a0_1 _ _ l0_2 x4_3 t257 _ ?side1 ?side2 A41.out).mono ?_
                  (case side1 => repeat (first | exact (Kd.C_below HR0_2.out HB.out) | (with_reducible refine Kd.C_alloc ?_ _) | (with_reducible refine Kd.C_drewN ?_ _) | (with_reducible refine Kd.C_drew ?_)))
                  (case side2 => exact HC0_2.out)
                  rintro e w48 ⟨rfl, hb⟩
                  refine ⟨_, rfl, ?_⟩
                  have n0_ := Ad.mk (bbl (g := gb246) (o := .cells #[.int .i64 a0_0, .int .i64 a0_1, .slice (some ad253) l0_2.length c0_2] 24 (0, 0)) (by (with_reducible repeat (first | refine bkN ?_ _ | refine bkd ?_ | refine bka ?_ _)); exact BK246.out) hb)
                  have n1_ := Ad.mk (bbl (g := gb254) (o := .cells #[.int .i64 ((rd_T44 l0_2 x4_3).f0), .int .i64 ((rd_T44 l0_2 x4_3).f1)] 44 (0, 0)) (by (with_reducible repeat (first | refine bkN ?_ _ | refine bkd ?_ | refine bka ?_ _)); exact BK254.out) hb)
                  have n2_ := Ad.mk (pbt (by repeat (first | (with_reducible first | exact HB.out | apply pba | apply pbN | apply pb1 | refine pbs ?_ GE246.out | refine pbs ?_ GE254.out) | exact HB.out)) hb)
                  clear BK246
                  clear BK254
                  clear HB
                  have BK246 := n0_
                  have BK254 := n1_
                  have HB := n2_
                  clear n0_ n1_ n2_
                  (try clear hb)
                  (try clear hb2)
                  (try clear hk)
                  (try clear hi)
                  refine hK.out _ _ ⟨(bcl BK254.out 0).trans rfl, (bcl BK254.out 1).trans rfl, (bcl BK246.out 0).trans rfl, (bcl BK246.out 1).trans rfl, (bcl BK246.out 2).trans rfl⟩ (fun hHeld => ?_)
                  clear hK K
                  refine norm_ (a' := ?_) ?_ ?_
                  rotate_left
                  ·show Act.put _ (some 82) _ = _
                   simp only [Act.put, sA, sB, sC, i64_w, i32_w]
                   rfl
                  refine pure_ (i := 5) (N := some 83) (v := ?_) (a' := ?_) #[true, true, true, true, true, true, false, false, false, false, false, false, false, false, false, false, false] rfl rfl (any_of HT_.out (by kernel_rfl)) (fun _ _ _ h => h) (Or.inl ⟨by rfl, ?_⟩) ?_ ?_
                  rotate_left
                  ·intro w'
                   go_simp
                   with_reducible rfl
                  rotate_left
                  ·simp only [Act.put, sA, sB, sC, i64_w, i32_w]
                   rfl
                  refine pure_ (i := 6) (N := some 84) (v := ?_) (a' := ?_) #[true, true, true, true, true, true, true, false, false, false, false, false, false, false, false, false, false] rfl rfl (any_of HT_.out (by kernel_rfl)) (fun _ _ _ h => h) (Or.inl ⟨by rfl, ?_⟩) ?_ ?_
                  rotate_left
                  ·intro w'
                   go_simp
                   with_reducible rfl
                  rotate_left
                  ·simp only [Act.put, sA, sB, sC, i64_w, i32_w]
                   rfl
                  refine pure_ (i := 7) (N := some 85) (v := ?_) (a' := ?_) #[true, true, true, true, true, true, true, true, false, false, false, false, false, false, false, false, false] rfl rfl (any_of HT_.out (by kernel_rfl)) (fun _ _ _ h => h) (Or.inl ⟨by rfl, ?_⟩) ?_ ?_
                  rotate_left
                  ·intro w'
                   go_simp
                   with_reducible rfl
                  rotate_left
                  ·simp only [Act.put, sA, sB, sC, i64_w, i32_w]
                   rfl
                  refine pure_ (i := 8) (N := some 86) (v := ?_) (a' := ?_) #[true, true, true, true, true, true, true, true, true, false, false, false, false, false, false, false, false] rfl rfl (any_of HT_.out (by kernel_rfl)) (fun _ _ _ h => h) (Or.inl ⟨by rfl, ?_⟩) ?_ ?_
                  rotate_left
                  ·intro w'
                   go_simp
                   with_reducible rfl
                  rotate_left
                  ·simp only [Act.put, sA, sB, sC, i64_w, i32_w]
                   rfl
                  refine pure_ (i := 11) (N := some 89) (v := ?_) (a' := ?_) #[true, true, true, true, true, true, true, true, true, false, false, true, false, false, false, false, false] rfl rfl (any_of HT_.out (by kernel_rfl)) (fun _ _ _ h => h) (Or.inl ⟨by rfl, ?_⟩) ?_ ?_
                  rotate_left
                  ·intro w'
                   go_simp
                   with_reducible rfl
                  rotate_left
                  ·simp only [Act.put, sA, sB, sC, i64_w, i32_w]
                   rfl
                  refine take_ (i := 9) (N := some 87) (v := ?_) (a' := ?_) #[true, true, true, true, true, true, true, true, true, true, false, true, false, false, false, false, false] rfl rfl (take_ofW HT_.out HW_.out (by kernel_rfl)) (fun _ _ _ h => h) (Or.inl ⟨by rfl, ?_⟩) hHeld ?_ ?_
                  rotate_left
                  ·rintro w' ⟨s0, s1, s2, s3, s4⟩
                   go_simp
                   with_reducible rfl
                  rotate_left
                  ·simp only [Act.put, sA, sB, sC, i64_w, i32_w]
                   rfl
                  refine take_ (i := 10) (N := some 88) (v := ?_) (a' := ?_) #[true, true, true, true, true, true, true, true, true, true, true, true, false, false, false, false, false] rfl rfl (take_ofW HT_.out HW_.out (by kernel_rfl)) (fun _ _ _ h => h) (Or.inl ⟨by rfl, ?_⟩) hHeld ?_ ?_
                  rotate_left
                  ·rintro w' ⟨s0, s1, s2, s3, s4⟩
                   go_simp
                   with_reducible rfl
                  rotate_left
                  ·simp only [Act.put, sA, sB, sC, i64_w, i32_w]
                   rfl
                  refine one_ (i := 12) (N := some 90) #[true, true, true, true, true, true, true, true, true, true, true, true, true, false, false, false, false] rfl rfl (one_of HT_.out (by kernel_rfl)) (by decide) (fun K hK => ?_)
                  refine goes_ Tryd.func29 (by kernel_rfl) rfl #[.agg #[.int .i64 a0_0, .int .i64 a0_1, .slice (some ad253) l0_2.length c0_2], .int .i64 x4_3] (by rfl) rfl rfl (by (try simp only [List.map_toArray, List.map_cons, List.map_nil]); first | done | rfl | (simp only [List.length_drop, List.length_take]; rfl)) ?_
                  with_reducible refine (r6_old.calls a0_0 a0_1 _ _ l0_2 x4_3 t258 _ ?side1 ?side2 A45.out).mono ?_
                  (case side1 => repeat (first | exact (Kd.C_below HR0_2.out HB.out) | (with_reducible refine Kd.C_alloc ?_ _) | (with_reducible refine Kd.C_drewN ?_ _) | (with_reducible refine Kd.C_drew ?_)))
                  (case side2 => exact HC0_2.out)
                  rintro e w49 ⟨rfl, hb⟩
                  refine ⟨_, rfl, ?_⟩
                  have n0_ := Ad.mk (bbl (g := gb246) (o := .cells #[.int .i64 a0_0, .int .i64 a0_1, .slice (some ad253) l0_2.length c0_2] 24 (0, 0)) (by (with_reducible repeat (first | refine bkN ?_ _ | refine bkd ?_ | refine bka ?_ _)); exact BK246.out) hb)
                  have n1_ := Ad.mk (bbl (g := gb254) (o := .cells #[.int .i64 ((rd_T44 l0_2 x4_3).f0), .int .i64 ((rd_T44 l0_2 x4_3).f1)] 44 (0, 0)) (by (with_reducible repeat (first | refine bkN ?_ _ | refine bkd ?_ | refine bka ?_ _)); exact BK254.out) hb)
                  have n2_ := Ad.mk (pbt (by repeat (first | (with_reducible first | exact HB.out | apply pba | apply pbN | apply pb1 | refine pbs ?_ GE246.out | refine pbs ?_ GE254.out) | exact HB.out)) hb)
                  clear BK246
                  clear BK254
                  clear HB
                  have BK246 := n0_
                  have BK254 := n1_
                  have HB := n2_
                  clear n0_ n1_ n2_
                  (try clear hb)
                  (try clear hb2)
                  (try clear hk)
                  (try clear hi)
                  refine hK.out _ _ ⟨(bcl BK254.out 0).trans rfl, (bcl BK254.out 1).trans rfl, (bcl BK246.out 0).trans rfl, (bcl BK246.out 1).trans rfl, (bcl BK246.out 2).trans rfl⟩ (fun hHeld => ?_)
                  clear hK K
                  refine norm_ (a' := ?_) ?_ ?_
                  rotate_left
                  ·show Act.put _ (some 90) _ = _
                   simp only [Act.put, sA, sB, sC, i64_w, i32_w]
                   rfl
                  refine pure_ (i := 13) (N := some 91) (v := ?_) (a' := ?_) #[true, true, true, true, true, true, true, true, true, true, true, true, true, true, false, false, false] rfl rfl (any_of HT_.out (by kernel_rfl)) (fun _ _ _ h => h) (Or.inl ⟨by rfl, ?_⟩) ?_ ?_
                  rotate_left
                  ·intro w'
                   go_simp
                   with_reducible rfl
                  rotate_left
                  ·simp only [Act.put, sA, sB, sC, i64_w, i32_w]
                   rfl
                  refine pure_ (i := 14) (N := some 92) (v := ?_) (a' := ?_) #[true, true, true, true, true, true, true, true, true, true, true, true, true, true, true, false, false] rfl rfl (any_of HT_.out (by kernel_rfl)) (fun _ _ _ h => h) (Or.inl ⟨by rfl, ?_⟩) ?_ ?_
                  rotate_left
                  ·intro w'
                   go_simp
                   with_reducible rfl
                  rotate_left
                  ·simp only [Act.put, sA, sB, sC, i64_w, i32_w]
                   rfl
                  refine pure_ (i := 15) (N := some 93) (v := ?_) (a' := ?_) #[true, true, true, true, true, true, true, true, true, true, true, true, true, true, true, true, false] rfl rfl (any_of HT_.out (by kernel_rfl)) (fun _ _ _ h => h) (Or.inl ⟨by rfl, ?_⟩) ?_ ?_
                  rotate_left
                  ·intro w'
                   go_simp
                   with_reducible rfl
                  rotate_left
                  ·simp only [Act.put, sA, sB, sC, i64_w, i32_w]
                   rfl
                  refine pure_ (i := 16) (N := some 77) (v := ?_) (a' := ?_) #[true, true, true, true, true, true, true, true, true, true, true, true, true, true, true, true, true] rfl rfl (any_of HT_.out (by kernel_rfl)) (fun _ _ _ h => h) (Or.inl ⟨by rfl, ?_⟩) ?_ ?_
                  rotate_left
                  ·intro w'
                   go_simp
                   with_reducible rfl
                  rotate_left
                  ·simp only [Act.put, sA, sB, sC, i64_w, i32_w]
                   rfl
                  refine done_ (done_of HT_.out (by kernel_rfl)) ?_
                  try go_wp2
                  go_roundg kj27
                  case measure => have := HJ4.out; have := HK2.out; have := HK3.out; have := HJ27.out; omega
                  case rel => exact ⟨(wrap64 (x4_3 + 1)), (by first | rfl | (simp; done) | (simp [*]; done)), H', ⟨by have := HJ4.out; have := HK2.out; have := HK3.out; have := HJ27.out; omega⟩, ⟨by (with_reducible repeat (first | refine bkN ?_ _ | refine bkd ?_ | refine bka ?_ _)); exact BK246.out⟩, ⟨by repeat (first | (with_reducible first | exact HB.out | apply pba | apply pbN | apply pb1 | refine pbs ?_ GE246.out | refine pbs ?_ GE254.out) | exact HB.out)⟩⟩
                 ·rw [if_neg c46] at H
                  have c46b0 : (((rd_T44 l0_2 x4_3).f1) == (wrap64 (t258 - 1))) = false := beq_eq_false_iff_ne.mpr c46
                  have c46b1 : (((rd_T44 l0_2 x4_3).f1) != (wrap64 (t258 - 1))) = true := bne_iff_ne.mpr c46
                  obtain rfl := Option.some.inj H
                  try go_wp2
                  have n0_ := Ad.mk (bkd BK246.out)
                  have n1_ := Ad.mk (bkd BK254.out)
                  have n2_ := Ad.mk (pb1 HB.out)
                  clear BK246
                  clear BK254
                  clear HB
                  have BK246 := n0_
                  have BK254 := n1_
                  have HB := n2_
                  clear n0_ n1_ n2_
                  refine start_ (n := 17) (S := fun w' => w'.cell? ⟨gb254, 0, none⟩ = some (.int .i64 ((rd_T44 l0_2 x4_3).f0)) ∧ w'.cell? ⟨gb254, 1, none⟩ = some (.int .i64 ((rd_T44 l0_2 x4_3).f1)) ∧ w'.cell? ⟨gb246, 0, none⟩ = some (.int .i64 a0_0) ∧ w'.cell? ⟨gb246, 1, none⟩ = some (.int .i64 a0_1) ∧ w'.cell? ⟨gb246, 2, none⟩ = some (.slice (some ad253) l0_2.length c0_2)) (ds := []) #[false, false, false, false, false, false, false, false, false, false, false, false, false, false, false, false, false] (by kernel_rfl) rfl rfl ⟨(bcl BK254.out 0).trans rfl, (bcl BK254.out 1).trans rfl, (bcl BK246.out 0).trans rfl, (bcl BK246.out 1).trans rfl, (bcl BK246.out 2).trans rfl⟩ (fun hHeld => ?_); refine with_tabW r6_Check.tab18 r6_Check.bits18 (fun HT_ HW_ => ?_)
                  generalize wc.drew = w50 at BK246 BK254 HB hHeld ⊢
                  refine pure_ (i := 0) (N := some 78) (v := ?_) (a' := ?_) #[true, false, false, false, false, false, false, false, false, false, false, false, false, false, false, false, false] rfl rfl (any_of HT_.out (by kernel_rfl)) (fun _ _ _ h => h) (Or.inl ⟨by rfl, ?_⟩) ?_ ?_
                  rotate_left
                  ·intro w'
                   go_simp
                   with_reducible rfl
                  rotate_left
                  ·simp only [Act.put, sA, sB, sC, i64_w, i32_w]
                   rfl
                  refine pure_ (i := 3) (N := some 81) (v := ?_) (a' := ?_) #[true, false, false, true, false, false, false, false, false, false, false, false, false, false, false, false, false] rfl rfl (any_of HT_.out (by kernel_rfl)) (fun _ _ _ h => h) (Or.inl ⟨by rfl, ?_⟩) ?_ ?_
                  rotate_left
                  ·intro w'
                   go_simp
                   with_reducible rfl
                  rotate_left
                  ·simp only [Act.put, sA, sB, sC, i64_w, i32_w]
                   rfl
                  refine take_ (i := 1) (N := some 79) (v := ?_) (a' := ?_) #[true, true, false, true, false, false, false, false, false, false, false, false, false, false, false, false, false] rfl rfl (take_ofW HT_.out HW_.out (by kernel_rfl)) (fun _ _ _ h => h) (Or.inl ⟨by rfl, ?_⟩) hHeld ?_ ?_
                  rotate_left
                  ·rintro w' ⟨s0, s1, s2, s3, s4⟩
                   go_simp
                   with_reducible rfl
                  rotate_left
                  ·simp only [Act.put, sA, sB, sC, i64_w, i32_w]
                   rfl
                  refine take_ (i := 2) (N := some 80) (v := ?_) (a' := ?_) #[true, true, true, true, false, false, false, false, false, false, false, false, false, false, false, false, false] rfl rfl (take_ofW HT_.out HW_.out (by kernel_rfl)) (fun _ _ _ h => h) (Or.inl ⟨by rfl, ?_⟩) hHeld ?_ ?_
                  rotate_left
                  ·rintro w' ⟨s0, s1, s2, s3, s4⟩
                   go_simp
                   with_reducible rfl
                  rotate_left
                  ·simp only [Act.put, sA, sB, sC, i64_w, i32_w]
                   rfl
                  refine one_ (i := 4) (N := some 82) #[true, true, true, true, true, false, false, false, false, false, false, false, false, false, false, false, false] rfl rfl (one_of HT_.out (by kernel_rfl)) (by decide) (fun K hK => ?_)
                  refine goes_ Tryd.func29 (by kernel_rfl) rfl #[.agg #[.int .i64 a0_0, .int .i64 a0_1, .slice (some ad253) l0_2.length c0_2], .int .i64 x4_3] (by rfl) rfl rfl (by (try simp only [List.map_toArray, List.map_cons, List.map_nil]); first | done | rfl | (simp only [List.length_drop, List.length_take]; rfl)) ?_
                  with_reducible refine (r6_old.calls a0_0 a0_1 _ _ l0_2 x4_3 t257 _ ?side1 ?side2 A41.out).mono ?_
                  (case side1 => repeat (first | exact (Kd.C_below HR0_2.out HB.out) | (with_reducible refine Kd.C_alloc ?_ _) | (with_reducible refine Kd.C_drewN ?_ _) | (with_reducible refine Kd.C_drew ?_)))
                  (case side2 => exact HC0_2.out)
                  rintro e w51 ⟨rfl, hb⟩
                  refine ⟨_, rfl, ?_⟩
                  have n0_ := Ad.mk (bbl (g := gb246) (o := .cells #[.int .i64 a0_0, .int .i64 a0_1, .slice (some ad253) l0_2.length c0_2] 24 (0, 0)) (by (with_reducible repeat (first | refine bkN ?_ _ | refine bkd ?_ | refine bka ?_ _)); exact BK246.out) hb)
                  have n1_ := Ad.mk (bbl (g := gb254) (o := .cells #[.int .i64 ((rd_T44 l0_2 x4_3).f0), .int .i64 ((rd_T44 l0_2 x4_3).f1)] 44 (0, 0)) (by (with_reducible repeat (first | refine bkN ?_ _ | refine bkd ?_ | refine bka ?_ _)); exact BK254.out) hb)
                  have n2_ := Ad.mk (pbt (by repeat (first | (with_reducible first | exact HB.out | apply pba | apply pbN | apply pb1 | refine pbs ?_ GE246.out | refine pbs ?_ GE254.out) | exact HB.out)) hb)
                  clear BK246
                  clear BK254
                  clear HB
                  have BK246 := n0_
                  have BK254 := n1_
                  have HB := n2_
                  clear n0_ n1_ n2_
                  (try clear hb)
                  (try clear hb2)
                  (try clear hk)
                  (try clear hi)
                  refine hK.out _ _ ⟨(bcl BK254.out 0).trans rfl, (bcl BK254.out 1).trans rfl, (bcl BK246.out 0).trans rfl, (bcl BK246.out 1).trans rfl, (bcl BK246.out 2).trans rfl⟩ (fun hHeld => ?_)
                  clear hK K
                  refine norm_ (a' := ?_) ?_ ?_
                  rotate_left
                  ·show Act.put _ (some 82) _ = _
                   simp only [Act.put, sA, sB, sC, i64_w, i32_w]
                   rfl
                  refine pure_ (i := 5) (N := some 83) (v := ?_) (a' := ?_) #[true, true, true, true, true, true, false, false, false, false, false, false, false, false, false, false, false] rfl rfl (any_of HT_.out (by kernel_rfl)) (fun _ _ _ h => h) (Or.inl ⟨by rfl, ?_⟩) ?_ ?_
                  rotate_left
                  ·intro w'
                   go_simp
                   with_reducible rfl
                  rotate_left
                  ·simp only [Act.put, sA, sB, sC, i64_w, i32_w]
                   rfl
                  refine pure_ (i := 6) (N := some 84) (v := ?_) (a' := ?_) #[true, true, true, true, true, true, true, false, false, false, false, false, false, false, false, false, false] rfl rfl (any_of HT_.out (by kernel_rfl)) (fun _ _ _ h => h) (Or.inl ⟨by rfl, ?_⟩) ?_ ?_
                  rotate_left
                  ·intro w'
                   go_simp
                   with_reducible rfl
                  rotate_left
                  ·simp only [Act.put, sA, sB, sC, i64_w, i32_w]
                   rfl
                  refine pure_ (i := 7) (N := some 85) (v := ?_) (a' := ?_) #[true, true, true, true, true, true, true, true, false, false, false, false, false, false, false, false, false] rfl rfl (any_of HT_.out (by kernel_rfl)) (fun _ _ _ h => h) (Or.inl ⟨by rfl, ?_⟩) ?_ ?_
                  rotate_left
                  ·intro w'
                   go_simp
                   with_reducible rfl
                  rotate_left
                  ·simp only [Act.put, sA, sB, sC, i64_w, i32_w]
                   rfl
                  refine pure_ (i := 8) (N := some 86) (v := ?_) (a' := ?_) #[true, true, true, true, true, true, true, true, true, false, false, false, false, false, false, false, false] rfl rfl (any_of HT_.out (by kernel_rfl)) (fun _ _ _ h => h) (Or.inl ⟨by rfl, ?_⟩) ?_ ?_
                  rotate_left
                  ·intro w'
                   go_simp
                   with_reducible rfl
                  rotate_left
                  ·simp only [Act.put, sA, sB, sC, i64_w, i32_w]
                   rfl
                  refine pure_ (i := 11) (N := some 89) (v := ?_) (a' := ?_) #[true, true, true, true, true, true, true, true, true, false, false, true, false, false, false, false, false] rfl rfl (any_of HT_.out (by kernel_rfl)) (fun _ _ _ h => h) (Or.inl ⟨by rfl, ?_⟩) ?_ ?_
                  rotate_left
                  ·intro w'
                   go_simp
                   with_reducible rfl
                  rotate_left
                  ·simp only [Act.put, sA, sB, sC, i64_w, i32_w]
                   rfl
                  refine take_ (i := 9) (N := some 87) (v := ?_) (a' := ?_) #[true, true, true, true, true, true, true, true, true, true, false, true, false, false, false, false, false] rfl rfl (take_ofW HT_.out HW_.out (by kernel_rfl)) (fun _ _ _ h => h) (Or.inl ⟨by rfl, ?_⟩) hHeld ?_ ?_
                  rotate_left
                  ·rintro w' ⟨s0, s1, s2, s3, s4⟩
                   go_simp
                   with_reducible rfl
                  rotate_left
                  ·simp only [Act.put, sA, sB, sC, i64_w, i32_w]
                   rfl
                  refine take_ (i := 10) (N := some 88) (v := ?_) (a' := ?_) #[true, true, true, true, true, true, true, true, true, true, true, true, false, false, false, false, false] rfl rfl (take_ofW HT_.out HW_.out (by kernel_rfl)) (fun _ _ _ h => h) (Or.inl ⟨by rfl, ?_⟩) hHeld ?_ ?_
                  rotate_left
                  ·rintro w' ⟨s0, s1, s2, s3, s4⟩
                   go_simp
                   with_reducible rfl
                  rotate_left
                  ·simp only [Act.put, sA, sB, sC, i64_w, i32_w]
                   rfl
                  refine one_ (i := 12) (N := some 90) #[true, true, true, true, true, true, true, true, true, true, true, true, true, false, false, false, false] rfl rfl (one_of HT_.out (by kernel_rfl)) (by decide) (fun K hK => ?_)
                  refine goes_ Tryd.func29 (by kernel_rfl) rfl #[.agg #[.int .i64 a0_0, .int .i64 a0_1, .slice (some ad253) l0_2.length c0_2], .int .i64 x4_3] (by rfl) rfl rfl (by (try simp only [List.map_toArray, List.map_cons, List.map_nil]); first | done | rfl | (simp only [List.length_drop, List.length_take]; rfl)) ?_
                  with_reducible refine (r6_old.calls a0_0 a0_1 _ _ l0_2 x4_3 t258 _ ?side1 ?side2 A45.out).mono ?_
                  (case side1 => repeat (first | exact (Kd.C_below HR0_2.out HB.out) | (with_reducible refine Kd.C_alloc ?_ _) | (with_reducible refine Kd.C_drewN ?_ _) | (with_reducible refine Kd.C_drew ?_)))
                  (case side2 => exact HC0_2.out)
                  rintro e w52 ⟨rfl, hb⟩
                  refine ⟨_, rfl, ?_⟩
                  have n0_ := Ad.mk (bbl (g := gb246) (o := .cells #[.int .i64 a0_0, .int .i64 a0_1, .slice (some ad253) l0_2.length c0_2] 24 (0, 0)) (by (with_reducible repeat (first | refine bkN ?_ _ | refine bkd ?_ | refine bka ?_ _)); exact BK246.out) hb)
                  have n1_ := Ad.mk (bbl (g := gb254) (o := .cells #[.int .i64 ((rd_T44 l0_2 x4_3).f0), .int .i64 ((rd_T44 l0_2 x4_3).f1)] 44 (0, 0)) (by (with_reducible repeat (first | refine bkN ?_ _ | refine bkd ?_ | refine bka ?_ _)); exact BK254.out) hb)
                  have n2_ := Ad.mk (pbt (by repeat (first | (with_reducible first | exact HB.out | apply pba | apply pbN | apply pb1 | refine pbs ?_ GE246.out | refine pbs ?_ GE254.out) | exact HB.out)) hb)
                  clear BK246
                  clear BK254
                  clear HB
                  have BK246 := n0_
                  have BK254 := n1_
                  have HB := n2_
                  clear n0_ n1_ n2_
                  (try clear hb)
                  (try clear hb2)
                  (try clear hk)
                  (try clear hi)
                  refine hK.out _ _ ⟨(bcl BK254.out 0).trans rfl, (bcl BK254.out 1).trans rfl, (bcl BK246.out 0).trans rfl, (bcl BK246.out 1).trans rfl, (bcl BK246.out 2).trans rfl⟩ (fun hHeld => ?_)
                  clear hK K
                  refine norm_ (a' := ?_) ?_ ?_
                  rotate_left
                  ·show Act.put _ (some 90) _ = _
                   simp only [Act.put, sA, sB, sC, i64_w, i32_w]
                   rfl
                  refine pure_ (i := 13) (N := some 91) (v := ?_) (a' := ?_) #[true, true, true, true, true, true, true, true, true, true, true, true, true, true, false, false, false] rfl rfl (any_of HT_.out (by kernel_rfl)) (fun _ _ _ h => h) (Or.inl ⟨by rfl, ?_⟩) ?_ ?_
                  rotate_left
                  ·intro w'
                   go_simp
                   with_reducible rfl
                  rotate_left
                  ·simp only [Act.put, sA, sB, sC, i64_w, i32_w]
                   rfl
                  refine pure_ (i := 14) (N := some 92) (v := ?_) (a' := ?_) #[true, true, true, true, true, true, true, true, true, true, true, true, true, true, true, false, false] rfl rfl (any_of HT_.out (by kernel_rfl)) (fun _ _ _ h => h) (Or.inl ⟨by rfl, ?_⟩) ?_ ?_
                  rotate_left
                  ·intro w'
                   go_simp
                   with_reducible rfl
                  rotate_left
                  ·simp only [Act.put, sA, sB, sC, i64_w, i32_w]
                   rfl
                  refine pure_ (i := 15) (N := some 93) (v := ?_) (a' := ?_) #[true, true, true, true, true, true, true, true, true, true, true, true, true, true, true, true, false] rfl rfl (any_of HT_.out (by kernel_rfl)) (fun _ _ _ h => h) (Or.inl ⟨by rfl, ?_⟩) ?_ ?_
                  rotate_left
                  ·intro w'
                   go_simp
                   with_reducible rfl
                  rotate_left
                  ·simp only [Act.put, sA, sB, sC, i64_w, i32_w]
                   rfl
                  refine pure_ (i := 16) (N := some 77) (v := ?_) (a' := ?_) #[true, true, true, true, true, true, true, true, true, true, true, true, true, true, true, true, true] rfl rfl (any_of HT_.out (by kernel_rfl)) (fun _ _ _ h => h) (Or.inl ⟨by rfl, ?_⟩) ?_ ?_
                  rotate_left
                  ·intro w'
                   go_simp
                   with_reducible rfl
                  rotate_left
                  ·simp only [Act.put, sA, sB, sC, i64_w, i32_w]
                   rfl
                  refine done_ (done_of HT_.out (by kernel_rfl)) ?_
                  try go_wp2
                  go_ret
                  exact ⟨by first | rfl | (simp [ewn, ews] <;> rfl) | (simp [*, ewn, ews] <;> rfl), by repeat (first | (with_reducible first | exact HB.out | apply pba | apply pbN | apply pb1 | refine pbs ?_ GE246.out | refine pbs ?_ GE254.out) | exact HB.out)⟩
            ·replace c27 := Bool.eq_false_iff.mpr c27
             subst c27
             have H1 : (some 7) = some r := by rw [if_neg (show ¬ (false = true) by decide)] at H; exact H
             clear H
             have H := H1
             clear H1
             obtain rfl := Option.some.inj H
             have hcz53_0 : wr.cell? ⟨gb246, 0, none⟩ = some (.int .i64 a0_0) := (bcl BK246.out 0).trans rfl
             have hcz53_1 : wr.cell? ⟨gb246, 1, none⟩ = some (.int .i64 a0_1) := (bcl BK246.out 1).trans rfl
             have hcz53_2 : wr.cell? ⟨gb246, 2, none⟩ = some (.slice A0_2 l0_2.length c0_2) := (bcl BK246.out 2).trans rfl
             have hfz53_0 := bfz BK246.out 0
             have hfz53_1 := bfz BK246.out 1
             have hfz53_2 := bfz BK246.out 2
             have p253 : 0 ≤ (x4_3 : Int) := of_decide_eq_true (by first | (with_reducible assumption) | assumption)
             have q253 : x4_3 < (l0_2.length : Int) := of_decide_eq_true (by first | (with_reducible assumption) | assumption)
             obtain ⟨ad253, e253, hx253_0, hx253_1⟩ := at_T44 HR0_2.out x4_3 p253 q253
             cases e253
             replace hx253_0 := (HB.out.cell (World.block_lt_of_cell? w _ hx253_0)).trans hx253_0
             replace hx253_1 := (HB.out.cell (World.block_lt_of_cell? w _ hx253_1)).trans hx253_1
             replace p253 := eq_true p253
             replace q253 := eq_true q253
             go_wp2_with (first | ((with_reducible refine gate_dst (N := 5) rfl ?_); refine box_event ?hg (N := 5) ?hd (cs := #[.int .i64 0, .int .i64 0]) (t := 44) ?hr ?_; (case hd => rfl); (case hg => rfl); (case hr => first | (go_simp; done) | (go_simp; rfl)); intro gb254 hg w54 hbox hb; have n0_ := Ad.mk (bbl (g := gb246) (o := .cells #[.int .i64 a0_0, .int .i64 a0_1, .slice (some ad253) l0_2.length c0_2] 24 (0, 0)) (by (with_reducible repeat (first | refine bkN ?_ _ | refine bkd ?_ | refine bka ?_ _)); exact BK246.out) hb); have n1_ := Ad.mk (pbt (by repeat (first | (with_reducible first | exact HB.out | apply pba | apply pbN | apply pb1 | refine pbs ?_ GE246.out) | exact HB.out)) hb); have n2_ := Ad.mk (hbox); have n3_ := Ad.mk ((by rw [hg]; exact (pbz (by repeat (first | (with_reducible first | exact HB.out | apply pba | apply pbN | apply pb1 | refine pbs ?_ GE246.out) | exact HB.out))) : w.heap.size ≤ gb254)); have n4_ := Ad.mk ((by rw [hg]; exact (pbz (by repeat (first | (with_reducible first | exact HB.out | apply pba | apply pbN | apply pb1 | refine pbs ?_ GE246.out) | exact HB.out))) : w.heap.size ≤ gb254)); have n5_ := Ad.mk ((by rw [hg]; exact Nat.ne_of_lt (blk_lt (g := gb246) (o := .cells #[.int .i64 a0_0, .int .i64 a0_1, .slice (some ad253) l0_2.length c0_2] 24 (0, 0)) (by (with_reducible repeat (first | refine bkN ?_ _ | refine bkd ?_ | refine bka ?_ _)); exact BK246.out)) : gb246 ≠ gb254)); have n6_ := Ad.mk ((by rw [hg]; exact Nat.ne_of_gt (blk_lt (g := gb246) (o := .cells #[.int .i64 a0_0, .int .i64 a0_1, .slice (some ad253) l0_2.length c0_2] 24 (0, 0)) (by (with_reducible repeat (first | refine bkN ?_ _ | refine bkd ?_ | refine bka ?_ _)); exact BK246.out)) : gb254 ≠ gb246)); clear BK246; clear HB; have BK246 := n0_; have HB := n1_; have BK254 := n2_; have GW254 := n3_; have GE254 := n4_; have NB246_254 := n5_; have NB254_246 := n6_; clear n0_ n1_ n2_ n3_ n4_ n5_ n6_; clear hb hbox hg; have hnb55 := NB254_246.out; have hnc55 := NB246_254.out; have hcz56_0 : w54.cell? ⟨gb254, 0, none⟩ = some (.int .i64 0) := (bcl BK254.out 0).trans rfl; have hcz56_1 : w54.cell? ⟨gb254, 1, none⟩ = some (.int .i64 0) := (bcl BK254.out 1).trans rfl; have hfz56_0 := bfz BK254.out 0; have hfz56_1 := bfz BK254.out 1) | ((with_reducible refine gate_callee (f := 28) rfl ?_); refine goesL_ (some 60) rfl rfl Tryd.func28 (by kernel_rfl) rfl #[.int .i64 ((rd_T44 l0_2 x4_3).f0)] rfl (by (try simp only [List.map_toArray, List.map_cons, List.map_nil]); first | done | rfl | (simp only [List.length_drop, List.length_take]; rfl)) ?_; (with_reducible refine (r6_begins.calls k3 ((rd_T44 l0_2 x4_3).f0) false _ A26.out).mono ?_); rintro e w57 ⟨rfl, hb⟩; refine ⟨_, rfl, ?_⟩; have n0_ := Ad.mk (bbl (g := gb246) (o := .cells #[.int .i64 a0_0, .int .i64 a0_1, .slice (some ad253) l0_2.length c0_2] 24 (0, 0)) (by (with_reducible repeat (first | refine bkN ?_ _ | refine bkd ?_ | refine bka ?_ _)); refine blk_far ?_ NB246_254.out _; (with_reducible repeat (first | refine bkN ?_ _ | refine bkd ?_ | refine bka ?_ _)); refine blk_far ?_ NB246_254.out _; (with_reducible repeat (first | refine bkN ?_ _ | refine bkd ?_ | refine bka ?_ _)); exact BK246.out) hb); have n1_ := Ad.mk (bbl (g := gb254) (o := .cells #[.int .i64 ((rd_T44 l0_2 x4_3).f0), .int .i64 ((rd_T44 l0_2 x4_3).f1)] 44 (0, 0)) (by (with_reducible repeat (first | refine bkN ?_ _ | refine bkd ?_ | refine bka ?_ _)); refine blk_put (cs := #[.int .i64 ((rd_T44 l0_2 x4_3).f0), .int .i64 0]) ?_ 1 _ rfl; (with_reducible repeat (first | refine bkN ?_ _ | refine bkd ?_ | refine bka ?_ _)); refine blk_put (cs := #[.int .i64 0, .int .i64 0]) ?_ 0 _ rfl; (with_reducible repeat (first | refine bkN ?_ _ | refine bkd ?_ | refine bka ?_ _)); exact BK254.out) hb); have n2_ := Ad.mk (pbt (by repeat (first | (with_reducible first | exact HB.out | apply pba | apply pbN | apply pb1 | refine pbs ?_ GE246.out | refine pbs ?_ GE254.out) | exact HB.out)) hb); clear BK246; clear BK254; clear HB; have BK246 := n0_; have BK254 := n1_; have HB := n2_; clear n0_ n1_ n2_; (try clear hb); (try clear hb2); (try clear hk); (try clear hi)))
             go_ret
             exact ⟨by first | rfl | (simp [ewn, ews] <;> rfl) | (simp [*, ewn, ews] <;> rfl), by repeat (first | (with_reducible first | exact HB.out | apply pba | apply pbN | apply pb1 | refine pbs ?_ GE246.out | refine pbs ?_ GE254.out) | exact HB.out)⟩
           ·rw [if_neg c25] at H
            exact absurd H (by simp)
          ·rw [if_neg c24] at H
           have c24b0 : decide (x4_3 < (l0_2.length : Int)) = false := decide_eq_false c24
           clear c24
           obtain rfl := Option.some.inj H
           have hcz58_0 : wr.cell? ⟨gb246, 0, none⟩ = some (.int .i64 a0_0) := (bcl BK246.out 0).trans rfl
           have hcz58_1 : wr.cell? ⟨gb246, 1, none⟩ = some (.int .i64 a0_1) := (bcl BK246.out 1).trans rfl
           have hcz58_2 : wr.cell? ⟨gb246, 2, none⟩ = some (.slice A0_2 l0_2.length c0_2) := (bcl BK246.out 2).trans rfl
           have hfz58_0 := bfz BK246.out 0
           have hfz58_1 := bfz BK246.out 1
           have hfz58_2 := bfz BK246.out 2
           go_wp2
           go_ret
           exact ⟨by first | rfl | (simp [ewn, ews] <;> rfl) | (simp [*, ewn, ews] <;> rfl), by repeat (first | (with_reducible first | exact HB.out | apply pba | apply pbN | apply pb1 | refine pbs ?_ GE246.out) | exact HB.out)⟩

end Go.Proofs.YtipbkcilpnlgnaaDoor.M
