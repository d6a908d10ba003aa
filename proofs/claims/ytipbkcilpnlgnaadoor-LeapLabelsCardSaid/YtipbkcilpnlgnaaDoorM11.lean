-- printed
-- tight (tight.py)
import Derived.Test.YtipbkcilpnlgnaaDoorM0
import Derived.Test.YtipbkcilpnlgnaaDoorMD
import Derived.Test.YtipbkcilpnlgnaaDoorPb
import Derived.Test.YtipbkcilpnlgnaaDoorM1
import Derived.Test.YtipbkcilpnlgnaaDoorM3
import Derived.Test.YtipbkcilpnlgnaaDoorM5
import Derived.Test.YtipbkcilpnlgnaaDoorM6
import Derived.Test.YtipbkcilpnlgnaaDoorM7
import Derived.Test.YtipbkcilpnlgnaaDoorM8
import Derived.Test.YtipbkcilpnlgnaaDoorM9
import Derived.Test.YtipbkcilpnlgnaaDoorM10
import Derived.Test.YtipbkcilpnlgnaaDoorExtP
import Derived.Test.YtipbkcilpnlgnaaDoorExtT
namespace Go.Proofs.YtipbkcilpnlgnaaDoor.M
open Go.RowKit Go.Proofs.YtipbkcilpnlgnaaDoorG Go.Proofs.YtipbkcilpnlgnaaDoorW.PA Go.Proofs.YtipbkcilpnlgnaaDoorW.PB Go.Proofs.YtipbkcilpnlgnaaDoorW.PC
open List renaming setIfInBounds_toArray → sA, set_cons_zero → sB, set_cons_succ → sC
attribute [local go_sem] max2_int min2_int max_two min_two max_three min_three max_four min_four   -- for this text's walks alone
set_option linter.unusedVariables false
set_option linter.unusedSimpArgs false

attribute [local go_sem high] eqA44
/-! ### w6_awake: function 10 -/
def w6_awake.T13 : Bool × List (List Nat × List Nat) := (true, [([], []), ([0], [0]), ([1], [1]), ([2, 1], [2]), ([3], [3]), ([3], [3]), ([4, 5, 3, 3], [3, 4, 5]), ([3, 6], [3, 6]), ([7, 6], [7]), ([8], [8]), ([9, 8], [8, 9]), ([8, 10], [8, 10]), ([11, 8], [11]), ([12], [12]), ([12], [12]), ([14, 12], [12, 14]), ([15, 12], [12, 15]), ([16, 12], [12, 16]), ([13, 17, 12], [12, 13, 17]), ([12, 18], [12, 18]), ([19, 12], [19]), ([20], [20]), ([20, 21], [20, 21]), ([22, 20], [22]), ([23], [23]), ([24, 23], [23, 24]), ([23, 25], [23, 25]), ([26, 23, 0, 1, 2, 3, 4, 5, 6, 7, 8, 9, 10, 11, 12, 13, 14, 15, 16, 17, 18, 19, 20, 21, 22, 23, 24, 25, 26], [26])])
def w6_awake.B13 : List Nat := [0, 1, 3, 7, 15, 15, 63, 127, 255, 511, 1023, 2047, 4095, 8191, 8191, 24575, 57343, 122879, 262143, 524287, 1048575, 2097151, 4194303, 8388607, 16777215, 33554431, 67108863, 134217727]
theorem w6_awake.tab13 : rtab .any (opsOf Tryd.f10 13) = w6_awake.T13 := by kernel_rfl
theorem w6_awake.bits13 : waitsOk w6_awake.T13.2 w6_awake.B13 = true := by kernel_rfl
theorem awake_j0_bad {k : Nat} {a b : Int} {l : List S44} {r : Bool} (h : w6_awake.j0 k true a b l = some r) (hr : r = true) : False := by
 cases k with
 | zero => simp [w6_awake.j0] at h
 | succ k => simp [w6_awake.j0, hr] at h
theorem awake_j1_bad {k : Nat} {a b : Int} {l : List S44} {r : Bool} (h : w6_awake.j1 k true a b l = some r) (hr : r = true) : False := by
 cases k with
 | zero => simp [w6_awake.j1] at h
 | succ k => simp [w6_awake.j1, hr] at h
theorem awake_f_bad {r : Bool} (h : some false = some r) (hr : r = true) : False := by rw [hr] at h; cases h
theorem awake_only {k : Nat} {r : Bool} (h : w6_awake.f k = some r) : r = true := by
 have h1 := awake_at (k + 100) (by omega)
 have h2 := at_rounds w6_awake.mono (show k ≤ k + 100 by omega) h
 rw [h1] at h2
 exact (Option.some.inj h2).symm
set_option maxHeartbeats 8000000 in
set_option maxRecDepth 100000 in
theorem w6_awake.calls (k : Nat)  (r : Bool) (w : World) (hG : Glob w) (h : w6_awake.f k  = some r) :
  Calls Tryd.prog 10 #[] w fun e w' => e = .returned (.bool r) ∧ Below w.heap.size w w' := by
 have hu44 := Tryd.underlying44
 have hu24 := Tryd.underlying24
 have HRT := Ad.mk (awake_only h)
 have HG := Ad.mk hG
 clear hG
 have HB := Ad.mk (Below.refl w.heap.size w)
 have H : ((some (([(⟨3692217600, 37⟩ : S44)] : List (S44)) : List (S44))).bind fun y170 => ((leap_TAI.f k 36 3900000000 y170 3692217599 true).bind fun bt174 => ((leap_UTC.f k 36 3900000000 y170 3692217636).bind fun bt176 => ((leap_Check.f k 36 3900000000 y170).bind fun t179 => (if t179 = 0 then ((leap_Offset.f k 36 3900000000 y170 3692217599).bind fun t180 => (if t180 = 36 then ((leap_Offset.f k 36 3900000000 y170 3692217600).bind fun t181 => (if t181 = 37 then (if bt174.1 = 3692217636 then (if bt174.2 = 0 then (if bt176.1 = 3692217599 then (if bt176.2.1 = true then (w6_awake.j0 k (bt176.2.2 != 0) 36 3900000000 y170) else (w6_awake.j0 k true 36 3900000000 y170)) else (w6_awake.j0 k true 36 3900000000 y170)) else (w6_awake.j0 k true 36 3900000000 y170)) else (w6_awake.j0 k true 36 3900000000 y170)) else (w6_awake.j0 k true 36 3900000000 y170))) else (w6_awake.j0 k true 36 3900000000 y170))) else (w6_awake.j0 k true 36 3900000000 y170)))))) = some r := h
 clear h
 obtain ⟨y170, hy170⟩ : ∃ y_ : List (S44), y_ = (([(⟨3692217600, 37⟩ : S44)] : List (S44))) := ⟨_, rfl⟩
 replace H : ((leap_TAI.f k 36 3900000000 y170 3692217599 true).bind fun bt174 => ((leap_UTC.f k 36 3900000000 y170 3692217636).bind fun bt176 => ((leap_Check.f k 36 3900000000 y170).bind fun t179 => (if t179 = 0 then ((leap_Offset.f k 36 3900000000 y170 3692217599).bind fun t180 => (if t180 = 36 then ((leap_Offset.f k 36 3900000000 y170 3692217600).bind fun t181 => (if t181 = 37 then (if bt174.1 = 3692217636 then (if bt174.2 = 0 then (if bt176.1 = 3692217599 then (if bt176.2.1 = true then (w6_awake.j0 k (bt176.2.2 != 0) 36 3900000000 y170) else (w6_awake.j0 k true 36 3900000000 y170)) else (w6_awake.j0 k true 36 3900000000 y170)) else (w6_awake.j0 k true 36 3900000000 y170)) else (w6_awake.j0 k true 36 3900000000 y170)) else (w6_awake.j0 k true 36 3900000000 y170))) else (w6_awake.j0 k true 36 3900000000 y170))) else (w6_awake.j0 k true 36 3900000000 y170))))) = some r := by first | (rw [hy170]; with_reducible exact H) | (have H2_ := (Option.bind_some _ _).symm.trans H; rw [hy170]; with_reducible exact H2_) | (have H2_ := (Option.bind_some _ _).symm.trans H; with_reducible exact H2_) | with_reducible exact H | (rw [hy170]; exact H) | exact H
 have Ny170 := Ad.mk hy170
 clear hy170
 replace H := Option.bind_eq_some_iff.mp H
 obtain ⟨⟨t174, t175⟩, A10, H⟩ := H
 replace H : ((leap_UTC.f k 36 3900000000 y170 3692217636).bind fun bt176 => ((leap_Check.f k 36 3900000000 y170).bind fun t179 => (if t179 = 0 then ((leap_Offset.f k 36 3900000000 y170 3692217599).bind fun t180 => (if t180 = 36 then ((leap_Offset.f k 36 3900000000 y170 3692217600).bind fun t181 => (if t181 = 37 then (if t174 = 3692217636 then (if t175 = 0 then (if bt176.1 = 3692217599 then (if bt176.2.1 = true then (w6_awake.j0 k (bt176.2.2 != 0) 36 3900000000 y170) else (w6_awake.j0 k true 36 3900000000 y170)) else (w6_awake.j0 k true 36 3900000000 y170)) else (w6_awake.j0 k true 36 3900000000 y170)) else (w6_awake.j0 k true 36 3900000000 y170)) else (w6_awake.j0 k true 36 3900000000 y170))) else (w6_awake.j0 k true 36 3900000000 y170))) else (w6_awake.j0 k true 36 3900000000 y170)))) = some r := H
 have A1 := Ad.mk A10
 clear A10
 replace H := Option.bind_eq_some_iff.mp H
 obtain ⟨⟨t176, t177, t178⟩, A20, H⟩ := H
 replace H : ((leap_Check.f k 36 3900000000 y170).bind fun t179 => (if t179 = 0 then ((leap_Offset.f k 36 3900000000 y170 3692217599).bind fun t180 => (if t180 = 36 then ((leap_Offset.f k 36 3900000000 y170 3692217600).bind fun t181 => (if t181 = 37 then (if t174 = 3692217636 then (if t175 = 0 then (if t176 = 3692217599 then (if t177 = true then (w6_awake.j0 k (t178 != 0) 36 3900000000 y170) else (w6_awake.j0 k true 36 3900000000 y170)) else (w6_awake.j0 k true 36 3900000000 y170)) else (w6_awake.j0 k true 36 3900000000 y170)) else (w6_awake.j0 k true 36 3900000000 y170)) else (w6_awake.j0 k true 36 3900000000 y170))) else (w6_awake.j0 k true 36 3900000000 y170))) else (w6_awake.j0 k true 36 3900000000 y170))) = some r := H
 have A2 := Ad.mk A20
 clear A20
 have HC3 := Ad.mk H
 clear H
 go_enter Tryd.func10, Tryd.ntmps10
 go_upto_region 4 with (first | ((with_reducible refine gate_dst (N := 14) rfl ?_); refine Kd.R_lit k44 _ 44 ?hg (N := 14) ?hd (xs := ([(⟨3692217600, 37⟩ : S44)] : List (S44))) (inner := [.int .i64 3692217600, .int .i64 37]) (ok := fun _ => True) (okp := fun _ => True) ?hr ?hp (fun _ hk => hk) trivial (Below.refl _ _) (Nat.le_refl _) (by simp) ?_; (case hd => rfl); (case hg => rfl); (case hr => first | (go_simp; done) | (go_simp; rfl)); (case hp => exact (Reps.c2 (show Kd.M k44 _ _ _ (⟨3692217600, 37⟩ : S44) [.int .i64 3692217600, .int .i64 37] from (k44_mkM _ _ _ (⟨3692217600, 37⟩ : S44) )) (Reps.none _ _))); intro v171 w4 ho5 hb hg_ hnew_; clear hg_ hnew_; (first | rw [← Ny170.out] at ho5 | (simp only [Int.reduceToNat] at ho5; rw [← Ny170.out] at ho5)); have n0_ := Ad.mk (Kd.R_lower ho5 (pbz (by repeat (first | (with_reducible first | exact HB.out | apply pba | apply pbN | apply pb1) | exact HB.out)))); have n1_ := Ad.mk (pbt (by repeat (first | (with_reducible first | exact HB.out | apply pba | apply pbN | apply pb1) | exact HB.out)) hb); clear HB; have HO172 := n0_; have HB := n1_; clear n0_ n1_; clear hb ho5; obtain ⟨Ao6, co6, eo6⟩ := Kd.R_slice HO172.out; subst eo6) | ((with_reducible refine gate_dst (N := 1) rfl ?_); refine box_event ?hg (N := 1) ?hd (cs := #[.int .i64 0, .int .i64 0, .slice none 0 0]) (t := 24) ?hr ?_; (case hd => rfl); (case hg => rfl); (case hr => first | (go_simp; done) | (go_simp; rfl)); intro gb173 hg w7 hbox hb; have n0_ := Ad.mk (Kd.R_below (by (with_reducible repeat (first | apply Kd.R_alloc | apply Kd.R_drewN | apply Kd.R_drew)); exact HO172.out) hb); have n1_ := Ad.mk (pbt (by repeat (first | (with_reducible first | exact HB.out | apply pba | apply pbN | apply pb1) | exact HB.out)) hb); have n2_ := Ad.mk (hbox); have n3_ := Ad.mk ((by rw [hg]; exact (pbz (by repeat (first | (with_reducible first | exact HB.out | apply pba | apply pbN | apply pb1) | exact HB.out))) : w.heap.size ≤ gb173)); have n4_ := Ad.mk ((by rw [hg]; exact (pbz (by repeat (first | (with_reducible first | exact HB.out | apply pba | apply pbN | apply pb1) | exact HB.out))) : w.heap.size ≤ gb173)); clear HO172; clear HB; have HO172 := n0_; have HB := n1_; have BK173 := n2_; have GW173 := n3_; have GE173 := n4_; clear n0_ n1_ n2_ n3_ n4_; clear hb hbox hg; have hcz8_0 : w7.cell? ⟨gb173, 0, none⟩ = some (.int .i64 0) := (bcl BK173.out 0).trans rfl; have hcz8_1 : w7.cell? ⟨gb173, 1, none⟩ = some (.int .i64 0) := (bcl BK173.out 1).trans rfl; have hcz8_2 : w7.cell? ⟨gb173, 2, none⟩ = some (.slice none 0 0) := (bcl BK173.out 2).trans rfl; have hfz8_0 := bfz BK173.out 0; have hfz8_1 := bfz BK173.out 1; have hfz8_2 := bfz BK173.out 2) | ((with_reducible refine gate_callee (f := 13) rfl ?_); refine goesL_ (some 18) rfl rfl Tryd.func13 (by kernel_rfl) rfl #[.agg #[.int .i64 36, .int .i64 3900000000, .slice Ao6 y170.length co6], .int .i64 3692217599, .bool true] rfl (by (try simp only [List.map_toArray, List.map_cons, List.map_nil]); first | done | rfl | (simp only [List.length_drop, List.length_take]; rfl)) ?_; (with_reducible refine (leap_TAI.calls k 36 3900000000 _ _ y170 3692217599 true t174 t175 _ ?side1 ?side2 A1.out).mono ?_); (case side1 => refine (Kd.R_reads' (e := 44) (base := w.heap.size) (ok := fun k_ => True) (n := y170.length) (c := co6) ?_).2.2; exact (by (with_reducible repeat (first | apply Kd.R_alloc | apply Kd.R_drewN | apply Kd.R_drew)); exact (Kd.R_mono (Kd.R_far (p := ⟨gb173, 2, none⟩) (Kd.R_far (p := ⟨gb173, 1, none⟩) (Kd.R_far (p := ⟨gb173, 0, none⟩) (Kd.R_types HO172.out BK173.out (by decide)) (fun _ hk => hk.2) (.int .i64 36)) (fun _ hk => hk.2) (.int .i64 3900000000)) (fun _ hk => hk.2) (.slice Ao6 y170.length co6)) (fun _ h_ => h_.1)))); (case side2 => exact (Kd.R_reads' HO172.out).2.1); rintro e w9 ⟨rfl, hb⟩; refine ⟨_, rfl, ?_⟩; have n0_ := Ad.mk (Kd.R_below (by (with_reducible repeat (first | apply Kd.R_alloc | apply Kd.R_drewN | apply Kd.R_drew)); exact (Kd.R_mono (Kd.R_far (p := ⟨gb173, 2, none⟩) (Kd.R_far (p := ⟨gb173, 1, none⟩) (Kd.R_far (p := ⟨gb173, 0, none⟩) (Kd.R_types HO172.out BK173.out (by decide)) (fun _ hk => hk.2) (.int .i64 36)) (fun _ hk => hk.2) (.int .i64 3900000000)) (fun _ hk => hk.2) (.slice Ao6 y170.length co6)) (fun _ h_ => h_.1))) hb); have n1_ := Ad.mk (bbl (g := gb173) (o := .cells #[.int .i64 36, .int .i64 3900000000, .slice Ao6 y170.length co6] 24 (0, 0)) (by (with_reducible repeat (first | refine bkN ?_ _ | refine bkd ?_ | refine bka ?_ _)); refine blk_put (cs := #[.int .i64 36, .int .i64 3900000000, .slice none 0 0]) ?_ 2 _ rfl; (with_reducible repeat (first | refine bkN ?_ _ | refine bkd ?_ | refine bka ?_ _)); refine blk_put (cs := #[.int .i64 36, .int .i64 0, .slice none 0 0]) ?_ 1 _ rfl; (with_reducible repeat (first | refine bkN ?_ _ | refine bkd ?_ | refine bka ?_ _)); refine blk_put (cs := #[.int .i64 0, .int .i64 0, .slice none 0 0]) ?_ 0 _ rfl; (with_reducible repeat (first | refine bkN ?_ _ | refine bkd ?_ | refine bka ?_ _)); exact BK173.out) hb); have n2_ := Ad.mk (pbt (by repeat (first | (with_reducible first | exact HB.out | apply pba | apply pbN | apply pb1 | refine pbs ?_ GE173.out) | exact HB.out)) hb); clear HO172; clear BK173; clear HB; have HO172 := n0_; have BK173 := n1_; have HB := n2_; clear n0_ n1_ n2_; (try clear hb); (try clear hb2); (try clear hk); (try clear hi); have hcz10_0 : w9.cell? ⟨gb173, 0, none⟩ = some (.int .i64 36) := (bcl BK173.out 0).trans rfl; have hcz10_1 : w9.cell? ⟨gb173, 1, none⟩ = some (.int .i64 3900000000) := (bcl BK173.out 1).trans rfl; have hcz10_2 : w9.cell? ⟨gb173, 2, none⟩ = some (.slice Ao6 y170.length co6) := (bcl BK173.out 2).trans rfl; have hfz10_0 := bfz BK173.out 0; have hfz10_1 := bfz BK173.out 1; have hfz10_2 := bfz BK173.out 2) | ((with_reducible refine gate_callee (f := 15) rfl ?_); refine goesL_ (some 23) rfl rfl Tryd.func15 (by kernel_rfl) rfl #[.agg #[.int .i64 36, .int .i64 3900000000, .slice Ao6 y170.length co6], .int .i64 3692217636] rfl (by (try simp only [List.map_toArray, List.map_cons, List.map_nil]); first | done | rfl | (simp only [List.length_drop, List.length_take]; rfl)) ?_; (with_reducible refine (leap_UTC.calls k 36 3900000000 _ _ y170 3692217636 t176 t177 t178 _ ?side1 ?side2 A2.out).mono ?_); (case side1 => repeat (first | exact (Kd.R_reads' HO172.out).2.2 | (with_reducible refine Kd.C_alloc ?_ _) | (with_reducible refine Kd.C_drewN ?_ _) | (with_reducible refine Kd.C_drew ?_))); (case side2 => exact (Kd.R_reads' HO172.out).2.1); rintro e w11 ⟨rfl, hb⟩; refine ⟨_, rfl, ?_⟩; have n0_ := Ad.mk (Kd.R_below (by (with_reducible repeat (first | apply Kd.R_alloc | apply Kd.R_drewN | apply Kd.R_drew)); exact HO172.out) hb); have n1_ := Ad.mk (bbl (g := gb173) (o := .cells #[.int .i64 36, .int .i64 3900000000, .slice Ao6 y170.length co6] 24 (0, 0)) (by (with_reducible repeat (first | refine bkN ?_ _ | refine bkd ?_ | refine bka ?_ _)); exact BK173.out) hb); have n2_ := Ad.mk (pbt (by repeat (first | (with_reducible first | exact HB.out | apply pba | apply pbN | apply pb1 | refine pbs ?_ GE173.out) | exact HB.out)) hb); clear HO172; clear BK173; clear HB; have HO172 := n0_; have BK173 := n1_; have HB := n2_; clear n0_ n1_ n2_; (try clear hb); (try clear hb2); (try clear hk); (try clear hi)))
 (try simp only [Act.put, sA, sB, sC])
 go_cut [59] (fun v59 wc => ∃ (kq : Nat) (x59_2 : Bool), v59 = .bool x59_2 ∧ Ad (w6_awake.j0 kq x59_2 36 3900000000 y170 = some r) ∧ Ad (kq ≤ k) ∧ Ad (Kd.R k44 44 wc w.heap.size (fun _ => True) (.slice Ao6 y170.length co6) y170) ∧ Ad (wc.heap[gb173]? = some (.cells #[.int .i64 36, .int .i64 3900000000, (.slice Ao6 y170.length co6)] 24 (0, 0))) ∧ Ad (Below w.heap.size w wc))
 case first =>
  have H := HC3.out
  clear HC3
  replace H := Option.bind_eq_some_iff.mp H
  obtain ⟨t179, A120, H⟩ := H
  replace H : (if t179 = 0 then ((leap_Offset.f k 36 3900000000 y170 3692217599).bind fun t180 => (if t180 = 36 then ((leap_Offset.f k 36 3900000000 y170 3692217600).bind fun t181 => (if t181 = 37 then (if t174 = 3692217636 then (if t175 = 0 then (if t176 = 3692217599 then (if t177 = true then (w6_awake.j0 k (t178 != 0) 36 3900000000 y170) else (w6_awake.j0 k true 36 3900000000 y170)) else (w6_awake.j0 k true 36 3900000000 y170)) else (w6_awake.j0 k true 36 3900000000 y170)) else (w6_awake.j0 k true 36 3900000000 y170)) else (w6_awake.j0 k true 36 3900000000 y170))) else (w6_awake.j0 k true 36 3900000000 y170))) else (w6_awake.j0 k true 36 3900000000 y170)) = some r := H
  have A12 := Ad.mk A120
  clear A120
  by_cases c13 : t179 = 0
  ·rw [if_pos c13] at H
   have c13b0 : (t179 == 0) = true := beq_iff_eq.mpr c13
   have c13b1 : (t179 != 0) = false := bne_eq_false_iff_eq.mpr c13
   clear c13
   (first | rw [c13b0] | (simp only [i64_w, i32_w]; rw [c13b0]) | skip)
   replace H := Option.bind_eq_some_iff.mp H
   obtain ⟨t180, A140, H⟩ := H
   replace H : (if t180 = 36 then ((leap_Offset.f k 36 3900000000 y170 3692217600).bind fun t181 => (if t181 = 37 then (if t174 = 3692217636 then (if t175 = 0 then (if t176 = 3692217599 then (if t177 = true then (w6_awake.j0 k (t178 != 0) 36 3900000000 y170) else (w6_awake.j0 k true 36 3900000000 y170)) else (w6_awake.j0 k true 36 3900000000 y170)) else (w6_awake.j0 k true 36 3900000000 y170)) else (w6_awake.j0 k true 36 3900000000 y170)) else (w6_awake.j0 k true 36 3900000000 y170))) else (w6_awake.j0 k true 36 3900000000 y170)) = some r := H
   have A14 := Ad.mk A140
   clear A140
   by_cases c15 : t180 = 36
   ·rw [if_pos c15] at H
    have c15b0 : (t180 == 36) = true := beq_iff_eq.mpr c15
    have c15b1 : (t180 != 36) = false := bne_eq_false_iff_eq.mpr c15
    clear c15
    replace H := Option.bind_eq_some_iff.mp H
    obtain ⟨t181, A160, H⟩ := H
    replace H : (if t181 = 37 then (if t174 = 3692217636 then (if t175 = 0 then (if t176 = 3692217599 then (if t177 = true then (w6_awake.j0 k (t178 != 0) 36 3900000000 y170) else (w6_awake.j0 k true 36 3900000000 y170)) else (w6_awake.j0 k true 36 3900000000 y170)) else (w6_awake.j0 k true 36 3900000000 y170)) else (w6_awake.j0 k true 36 3900000000 y170)) else (w6_awake.j0 k true 36 3900000000 y170)) = some r := H
    have A16 := Ad.mk A160
    clear A160
    by_cases c17 : t181 = 37
    ·rw [if_pos c17] at H
     have c17b0 : (t181 == 37) = true := beq_iff_eq.mpr c17
     have c17b1 : (t181 != 37) = false := bne_eq_false_iff_eq.mpr c17
     clear c17
     by_cases c18 : t174 = 3692217636
     ·rw [if_pos c18] at H
      have c18b0 : (t174 == 3692217636) = true := beq_iff_eq.mpr c18
      have c18b1 : (t174 != 3692217636) = false := bne_eq_false_iff_eq.mpr c18
      clear c18
      by_cases c19 : t175 = 0
      ·rw [if_pos c19] at H
       have c19b0 : (t175 == 0) = true := beq_iff_eq.mpr c19
       have c19b1 : (t175 != 0) = false := bne_eq_false_iff_eq.mpr c19
       clear c19
       by_cases c20 : t176 = 3692217599
       ·rw [if_pos c20] at H
        have c20b0 : (t176 == 3692217599) = true := beq_iff_eq.mpr c20
        have c20b1 : (t176 != 3692217599) = false := bne_eq_false_iff_eq.mpr c20
        clear c20
        by_cases c21 : t177 = true
        ·subst c21
         have H1 : (w6_awake.j0 k (t178 != 0) 36 3900000000 y170) = some r := by rw [if_pos rfl] at H; exact H
         clear H
         have H := H1
         clear H1
         have H' := Ad.mk H
         clear H
         have hcz22_0 : w11.cell? ⟨gb173, 0, none⟩ = some (.int .i64 36) := (bcl BK173.out 0).trans rfl
         have hcz22_1 : w11.cell? ⟨gb173, 1, none⟩ = some (.int .i64 3900000000) := (bcl BK173.out 1).trans rfl
         have hcz22_2 : w11.cell? ⟨gb173, 2, none⟩ = some (.slice Ao6 y170.length co6) := (bcl BK173.out 2).trans rfl
         have hfz22_0 := bfz BK173.out 0
         have hfz22_1 := bfz BK173.out 1
         have hfz22_2 := bfz BK173.out 2
         go_wp2_with (first | ((with_reducible refine gate_callee (f := 11) rfl ?_); refine goesL_ (some 28) rfl rfl Tryd.func11 (by kernel_rfl) rfl #[.agg #[.int .i64 36, .int .i64 3900000000, .slice Ao6 y170.length co6]] rfl (by (try simp only [List.map_toArray, List.map_cons, List.map_nil]); first | done | rfl | (simp only [List.length_drop, List.length_take]; rfl)) ?_; (with_reducible refine (leap_Check.calls k 36 3900000000 _ _ y170 t179 _ ?side1 ?side2 A12.out).mono ?_); (case side1 => repeat (first | exact (Kd.R_reads' HO172.out).2.2 | (with_reducible refine Kd.C_alloc ?_ _) | (with_reducible refine Kd.C_drewN ?_ _) | (with_reducible refine Kd.C_drew ?_))); (case side2 => exact (Kd.R_reads' HO172.out).2.1); rintro e w23 ⟨rfl, hb⟩; refine ⟨_, rfl, ?_⟩; have n0_ := Ad.mk (Kd.R_below (by (with_reducible repeat (first | apply Kd.R_alloc | apply Kd.R_drewN | apply Kd.R_drew)); exact HO172.out) hb); have n1_ := Ad.mk (bbl (g := gb173) (o := .cells #[.int .i64 36, .int .i64 3900000000, .slice Ao6 y170.length co6] 24 (0, 0)) (by (with_reducible repeat (first | refine bkN ?_ _ | refine bkd ?_ | refine bka ?_ _)); exact BK173.out) hb); have n2_ := Ad.mk (pbt (by repeat (first | (with_reducible first | exact HB.out | apply pba | apply pbN | apply pb1 | refine pbs ?_ GE173.out) | exact HB.out)) hb); clear HO172; clear BK173; clear HB; have HO172 := n0_; have BK173 := n1_; have HB := n2_; clear n0_ n1_ n2_; (try clear hb); (try clear hb2); (try clear hk); (try clear hi); have hcz24_0 : w23.cell? ⟨gb173, 0, none⟩ = some (.int .i64 36) := (bcl BK173.out 0).trans rfl; have hcz24_1 : w23.cell? ⟨gb173, 1, none⟩ = some (.int .i64 3900000000) := (bcl BK173.out 1).trans rfl; have hcz24_2 : w23.cell? ⟨gb173, 2, none⟩ = some (.slice Ao6 y170.length co6) := (bcl BK173.out 2).trans rfl; have hfz24_0 := bfz BK173.out 0; have hfz24_1 := bfz BK173.out 1; have hfz24_2 := bfz BK173.out 2) | (go_at_call 17; (with_reducible refine (leap_Offset.calls k 36 3900000000 _ _ y170 3692217599 t180 _ ?side1 ?side2 A14.out).mono ?_); (case side1 => repeat (first | exact (Kd.R_reads' HO172.out).2.2 | (with_reducible refine Kd.C_alloc ?_ _) | (with_reducible refine Kd.C_drewN ?_ _) | (with_reducible refine Kd.C_drew ?_))); (case side2 => exact (Kd.R_reads' HO172.out).2.1); rintro e w25 ⟨rfl, hb⟩; have n0_ := Ad.mk (Kd.R_below (by (with_reducible repeat (first | apply Kd.R_alloc | apply Kd.R_drewN | apply Kd.R_drew)); exact HO172.out) hb); have n1_ := Ad.mk (bbl (g := gb173) (o := .cells #[.int .i64 36, .int .i64 3900000000, .slice Ao6 y170.length co6] 24 (0, 0)) (by (with_reducible repeat (first | refine bkN ?_ _ | refine bkd ?_ | refine bka ?_ _)); exact BK173.out) hb); have n2_ := Ad.mk (pbt (by repeat (first | (with_reducible first | exact HB.out | apply pba | apply pbN | apply pb1 | refine pbs ?_ GE173.out) | exact HB.out)) hb); clear HO172; clear BK173; clear HB; have HO172 := n0_; have BK173 := n1_; have HB := n2_; clear n0_ n1_ n2_; (try clear hb); (try clear hb2); (try clear hk); (try clear hi); have hcz26_0 : w25.cell? ⟨gb173, 0, none⟩ = some (.int .i64 36) := (bcl BK173.out 0).trans rfl; have hcz26_1 : w25.cell? ⟨gb173, 1, none⟩ = some (.int .i64 3900000000) := (bcl BK173.out 1).trans rfl; have hcz26_2 : w25.cell? ⟨gb173, 2, none⟩ = some (.slice Ao6 y170.length co6) := (bcl BK173.out 2).trans rfl; have hfz26_0 := bfz BK173.out 0; have hfz26_1 := bfz BK173.out 1; have hfz26_2 := bfz BK173.out 2) | (go_at_call 17; (with_reducible refine (leap_Offset.calls k 36 3900000000 _ _ y170 3692217600 t181 _ ?side1 ?side2 A16.out).mono ?_); (case side1 => repeat (first | exact (Kd.R_reads' HO172.out).2.2 | (with_reducible refine Kd.C_alloc ?_ _) | (with_reducible refine Kd.C_drewN ?_ _) | (with_reducible refine Kd.C_drew ?_))); (case side2 => exact (Kd.R_reads' HO172.out).2.1); rintro e w27 ⟨rfl, hb⟩; have n0_ := Ad.mk (Kd.R_below (by (with_reducible repeat (first | apply Kd.R_alloc | apply Kd.R_drewN | apply Kd.R_drew)); exact HO172.out) hb); have n1_ := Ad.mk (bbl (g := gb173) (o := .cells #[.int .i64 36, .int .i64 3900000000, .slice Ao6 y170.length co6] 24 (0, 0)) (by (with_reducible repeat (first | refine bkN ?_ _ | refine bkd ?_ | refine bka ?_ _)); exact BK173.out) hb); have n2_ := Ad.mk (pbt (by repeat (first | (with_reducible first | exact HB.out | apply pba | apply pbN | apply pb1 | refine pbs ?_ GE173.out) | exact HB.out)) hb); clear HO172; clear BK173; clear HB; have HO172 := n0_; have BK173 := n1_; have HB := n2_; clear n0_ n1_ n2_; (try clear hb); (try clear hb2); (try clear hk); (try clear hi)))
         go_meet
         case rel => exact ⟨_, ((t178 != 0)), (by first | rfl | (simp; done) | (simp [*]; done)), H', ⟨by first | omega | exact Nat.le_refl _⟩, ⟨by (with_reducible repeat (first | apply Kd.R_alloc | apply Kd.R_drewN | apply Kd.R_drew)); exact HO172.out⟩, ⟨by (with_reducible repeat (first | refine bkN ?_ _ | refine bkd ?_ | refine bka ?_ _)); exact BK173.out⟩, ⟨by repeat (first | (with_reducible first | exact HB.out | apply pba | apply pbN | apply pb1 | refine pbs ?_ GE173.out) | exact HB.out)⟩⟩
        ·replace c21 := Bool.eq_false_iff.mpr c21
         subst c21
         have H1 : (w6_awake.j0 k true 36 3900000000 y170) = some r := by rw [if_neg (show ¬ (false = true) by decide)] at H; exact H
         exact (awake_j0_bad H1 HRT.out).elim
       ·rw [if_neg c20] at H
        exact (awake_j0_bad H HRT.out).elim
      ·rw [if_neg c19] at H
       exact (awake_j0_bad H HRT.out).elim
     ·rw [if_neg c18] at H
      exact (awake_j0_bad H HRT.out).elim
    ·rw [if_neg c17] at H
     exact (awake_j0_bad H HRT.out).elim
   ·rw [if_neg c15] at H
    exact (awake_j0_bad H HRT.out).elim
  ·rw [if_neg c13] at H
   exact (awake_j0_bad H HRT.out).elim
 case rest =>
  clear HC3
  obtain ⟨kq, x59_2, rfl, HA, HJ2, HO_174002, BK173, HB⟩ := hcut
  cases kq with
  | zero => exact absurd HA.out (by simp [w6_awake.j0])
  | succ kj2 =>
   have H := HA.out
   clear HA
   simp only [w6_awake.j0] at H
   by_cases c64 : x59_2 = true
   ·subst c64
    have H1 : (some false) = some r := by rw [if_pos rfl] at H; exact H
    exact (awake_f_bad H1 HRT.out).elim
   ·replace c64 := Bool.eq_false_iff.mpr c64
    subst c64
    have H1 : ((leap_Indicator.f kj2 36 3900000000 y170 3692217599).bind fun t182 => (if t182 = 1 then ((leap_Indicator.f kj2 36 3900000000 y170 3689539200).bind fun t183 => (if t183 = 1 then ((leap_Indicator.f kj2 36 3900000000 y170 3689539199).bind fun t184 => (if t184 = 0 then ((leap_Indicator.f kj2 36 3900000000 y170 3692217600).bind fun t185 => (if t185 = 0 then ((leap_Indicator.f kj2 36 3900000000 y170 3900000000).bind fun t186 => (w6_awake.j1 kj2 (t186 != 3) 36 3900000000 y170)) else (w6_awake.j1 kj2 true 36 3900000000 y170))) else (w6_awake.j1 kj2 true 36 3900000000 y170))) else (w6_awake.j1 kj2 true 36 3900000000 y170))) else (w6_awake.j1 kj2 true 36 3900000000 y170))) = some r := by rw [if_neg (show ¬ (false = true) by decide)] at H; exact H
    clear H
    have H := H1
    clear H1
    have HC65 := Ad.mk H
    clear H
    go_upto_region 6 with (fail)
    go_cut [82] (fun v82 wc => ∃ (kq : Nat) (x82_64 : Bool), v82 = .bool x82_64 ∧ Ad (w6_awake.j1 kq x82_64 36 3900000000 y170 = some r) ∧ Ad (kq ≤ kj2) ∧ Ad (Kd.R k44 44 wc w.heap.size (fun _ => True) (.slice Ao6 y170.length co6) y170) ∧ Ad (wc.heap[gb173]? = some (.cells #[.int .i64 36, .int .i64 3900000000, (.slice Ao6 y170.length co6)] 24 (0, 0))) ∧ Ad (Below w.heap.size w wc))
    case first =>
     have H := HC65.out
     clear HC65
     replace H := Option.bind_eq_some_iff.mp H
     obtain ⟨t182, A660, H⟩ := H
     replace H : (if t182 = 1 then ((leap_Indicator.f kj2 36 3900000000 y170 3689539200).bind fun t183 => (if t183 = 1 then ((leap_Indicator.f kj2 36 3900000000 y170 3689539199).bind fun t184 => (if t184 = 0 then ((leap_Indicator.f kj2 36 3900000000 y170 3692217600).bind fun t185 => (if t185 = 0 then ((leap_Indicator.f kj2 36 3900000000 y170 3900000000).bind fun t186 => (w6_awake.j1 kj2 (t186 != 3) 36 3900000000 y170)) else (w6_awake.j1 kj2 true 36 3900000000 y170))) else (w6_awake.j1 kj2 true 36 3900000000 y170))) else (w6_awake.j1 kj2 true 36 3900000000 y170))) else (w6_awake.j1 kj2 true 36 3900000000 y170)) = some r := H
     have A66 := Ad.mk A660
     clear A660
     by_cases c67 : t182 = 1
     ·rw [if_pos c67] at H
      have c67b0 : (t182 == 1) = true := beq_iff_eq.mpr c67
      have c67b1 : (t182 != 1) = false := bne_eq_false_iff_eq.mpr c67
      clear c67
      (first | rw [c67b0] | (simp only [i64_w, i32_w]; rw [c67b0]) | skip)
      replace H := Option.bind_eq_some_iff.mp H
      obtain ⟨t183, A680, H⟩ := H
      replace H : (if t183 = 1 then ((leap_Indicator.f kj2 36 3900000000 y170 3689539199).bind fun t184 => (if t184 = 0 then ((leap_Indicator.f kj2 36 3900000000 y170 3692217600).bind fun t185 => (if t185 = 0 then ((leap_Indicator.f kj2 36 3900000000 y170 3900000000).bind fun t186 => (w6_awake.j1 kj2 (t186 != 3) 36 3900000000 y170)) else (w6_awake.j1 kj2 true 36 3900000000 y170))) else (w6_awake.j1 kj2 true 36 3900000000 y170))) else (w6_awake.j1 kj2 true 36 3900000000 y170)) = some r := H
      have A68 := Ad.mk A680
      clear A680
      by_cases c69 : t183 = 1
      ·rw [if_pos c69] at H
       have c69b0 : (t183 == 1) = true := beq_iff_eq.mpr c69
       have c69b1 : (t183 != 1) = false := bne_eq_false_iff_eq.mpr c69
       clear c69
       replace H := Option.bind_eq_some_iff.mp H
       obtain ⟨t184, A700, H⟩ := H
       replace H : (if t184 = 0 then ((leap_Indicator.f kj2 36 3900000000 y170 3692217600).bind fun t185 => (if t185 = 0 then ((leap_Indicator.f kj2 36 3900000000 y170 3900000000).bind fun t186 => (w6_awake.j1 kj2 (t186 != 3) 36 3900000000 y170)) else (w6_awake.j1 kj2 true 36 3900000000 y170))) else (w6_awake.j1 kj2 true 36 3900000000 y170)) = some r := H
       have A70 := Ad.mk A700
       clear A700
       by_cases c71 : t184 = 0
       ·rw [if_pos c71] at H
        have c71b0 : (t184 == 0) = true := beq_iff_eq.mpr c71
        have c71b1 : (t184 != 0) = false := bne_eq_false_iff_eq.mpr c71
        clear c71
        replace H := Option.bind_eq_some_iff.mp H
        obtain ⟨t185, A720, H⟩ := H
        replace H : (if t185 = 0 then ((leap_Indicator.f kj2 36 3900000000 y170 3900000000).bind fun t186 => (w6_awake.j1 kj2 (t186 != 3) 36 3900000000 y170)) else (w6_awake.j1 kj2 true 36 3900000000 y170)) = some r := H
        have A72 := Ad.mk A720
        clear A720
        by_cases c73 : t185 = 0
        ·rw [if_pos c73] at H
         have c73b0 : (t185 == 0) = true := beq_iff_eq.mpr c73
         have c73b1 : (t185 != 0) = false := bne_eq_false_iff_eq.mpr c73
         clear c73
         replace H := Option.bind_eq_some_iff.mp H
         obtain ⟨t186, A740, H⟩ := H
         replace H : (w6_awake.j1 kj2 (t186 != 3) 36 3900000000 y170) = some r := H
         have A74 := Ad.mk A740
         clear A740
         have H' := Ad.mk H
         clear H
         have hcz75_0 : wc.cell? ⟨gb173, 0, none⟩ = some (.int .i64 36) := (bcl BK173.out 0).trans rfl
         have hcz75_1 : wc.cell? ⟨gb173, 1, none⟩ = some (.int .i64 3900000000) := (bcl BK173.out 1).trans rfl
         have hcz75_2 : wc.cell? ⟨gb173, 2, none⟩ = some (.slice Ao6 y170.length co6) := (bcl BK173.out 2).trans rfl
         have hfz75_0 := bfz BK173.out 0
         have hfz75_1 := bfz BK173.out 1
         have hfz75_2 := bfz BK173.out 2
         go_wp2_with (first | ((with_reducible refine gate_callee (f := 21) rfl ?_); refine goesL_ (some 61) rfl rfl Tryd.func21 (by kernel_rfl) rfl #[.agg #[.int .i64 36, .int .i64 3900000000, .slice Ao6 y170.length co6], .int .i64 3692217599] rfl (by (try simp only [List.map_toArray, List.map_cons, List.map_nil]); first | done | rfl | (simp only [List.length_drop, List.length_take]; rfl)) ?_; (with_reducible refine (leap_Indicator.calls kj2 36 3900000000 _ _ y170 3692217599 t182 _ ?side1 ?side2 A66.out).mono ?_); (case side1 => repeat (first | exact (Kd.R_reads' HO_174002.out).2.2 | (with_reducible refine Kd.C_alloc ?_ _) | (with_reducible refine Kd.C_drewN ?_ _) | (with_reducible refine Kd.C_drew ?_))); (case side2 => exact (Kd.R_reads' HO_174002.out).2.1); rintro e w76 ⟨rfl, hb⟩; refine ⟨_, rfl, ?_⟩; have n0_ := Ad.mk (Kd.R_below (by (with_reducible repeat (first | apply Kd.R_alloc | apply Kd.R_drewN | apply Kd.R_drew)); exact HO_174002.out) hb); have n1_ := Ad.mk (bbl (g := gb173) (o := .cells #[.int .i64 36, .int .i64 3900000000, .slice Ao6 y170.length co6] 24 (0, 0)) (by (with_reducible repeat (first | refine bkN ?_ _ | refine bkd ?_ | refine bka ?_ _)); exact BK173.out) hb); have n2_ := Ad.mk (pbt (by repeat (first | (with_reducible first | exact HB.out | apply pba | apply pbN | apply pb1 | refine pbs ?_ GE173.out) | exact HB.out)) hb); clear HO_174002; clear BK173; clear HB; have HO_174002 := n0_; have BK173 := n1_; have HB := n2_; clear n0_ n1_ n2_; (try clear hb); (try clear hb2); (try clear hk); (try clear hi); have hcz77_0 : w76.cell? ⟨gb173, 0, none⟩ = some (.int .i64 36) := (bcl BK173.out 0).trans rfl; have hcz77_1 : w76.cell? ⟨gb173, 1, none⟩ = some (.int .i64 3900000000) := (bcl BK173.out 1).trans rfl; have hcz77_2 : w76.cell? ⟨gb173, 2, none⟩ = some (.slice Ao6 y170.length co6) := (bcl BK173.out 2).trans rfl; have hfz77_0 := bfz BK173.out 0; have hfz77_1 := bfz BK173.out 1; have hfz77_2 := bfz BK173.out 2) | (go_at_call 21; (with_reducible refine (leap_Indicator.calls kj2 36 3900000000 _ _ y170 3689539200 t183 _ ?side1 ?side2 A68.out).mono ?_); (case side1 => repeat (first | exact (Kd.R_reads' HO_174002.out).2.2 | (with_reducible refine Kd.C_alloc ?_ _) | (with_reducible refine Kd.C_drewN ?_ _) | (with_reducible refine Kd.C_drew ?_))); (case side2 => exact (Kd.R_reads' HO_174002.out).2.1); rintro e w78 ⟨rfl, hb⟩; have n0_ := Ad.mk (Kd.R_below (by (with_reducible repeat (first | apply Kd.R_alloc | apply Kd.R_drewN | apply Kd.R_drew)); exact HO_174002.out) hb); have n1_ := Ad.mk (bbl (g := gb173) (o := .cells #[.int .i64 36, .int .i64 3900000000, .slice Ao6 y170.length co6] 24 (0, 0)) (by (with_reducible repeat (first | refine bkN ?_ _ | refine bkd ?_ | refine bka ?_ _)); exact BK173.out) hb); have n2_ := Ad.mk (pbt (by repeat (first | (with_reducible first | exact HB.out | apply pba | apply pbN | apply pb1 | refine pbs ?_ GE173.out) | exact HB.out)) hb); clear HO_174002; clear BK173; clear HB; have HO_174002 := n0_; have BK173 := n1_; have HB := n2_; clear n0_ n1_ n2_; (try clear hb); (try clear hb2); (try clear hk); (try clear hi); have hcz79_0 : w78.cell? ⟨gb173, 0, none⟩ = some (.int .i64 36) := (bcl BK173.out 0).trans rfl; have hcz79_1 : w78.cell? ⟨gb173, 1, none⟩ = some (.int .i64 3900000000) := (bcl BK173.out 1).trans rfl; have hcz79_2 : w78.cell? ⟨gb173, 2, none⟩ = some (.slice Ao6 y170.length co6) := (bcl BK173.out 2).trans rfl; have hfz79_0 := bfz BK173.out 0; have hfz79_1 := bfz BK173.out 1; have hfz79_2 := bfz BK173.out 2) | (go_at_call 21; (with_reducible refine (leap_Indicator.calls kj2 36 3900000000 _ _ y170 3689539199 t184 _ ?side1 ?side2 A70.out).mono ?_); (case side1 => repeat (first | exact (Kd.R_reads' HO_174002.out).2.2 | (with_reducible refine Kd.C_alloc ?_ _) | (with_reducible refine Kd.C_drewN ?_ _) | (with_reducible refine Kd.C_drew ?_))); (case side2 => exact (Kd.R_reads' HO_174002.out).2.1); rintro e w80 ⟨rfl, hb⟩; have n0_ := Ad.mk (Kd.R_below (by (with_reducible repeat (first | apply Kd.R_alloc | apply Kd.R_drewN | apply Kd.R_drew)); exact HO_174002.out) hb); have n1_ := Ad.mk (bbl (g := gb173) (o := .cells #[.int .i64 36, .int .i64 3900000000, .slice Ao6 y170.length co6] 24 (0, 0)) (by (with_reducible repeat (first | refine bkN ?_ _ | refine bkd ?_ | refine bka ?_ _)); exact BK173.out) hb); have n2_ := Ad.mk (pbt (by repeat (first | (with_reducible first | exact HB.out | apply pba | apply pbN | apply pb1 | refine pbs ?_ GE173.out) | exact HB.out)) hb); clear HO_174002; clear BK173; clear HB; have HO_174002 := n0_; have BK173 := n1_; have HB := n2_; clear n0_ n1_ n2_; (try clear hb); (try clear hb2); (try clear hk); (try clear hi); have hcz81_0 : w80.cell? ⟨gb173, 0, none⟩ = some (.int .i64 36) := (bcl BK173.out 0).trans rfl; have hcz81_1 : w80.cell? ⟨gb173, 1, none⟩ = some (.int .i64 3900000000) := (bcl BK173.out 1).trans rfl; have hcz81_2 : w80.cell? ⟨gb173, 2, none⟩ = some (.slice Ao6 y170.length co6) := (bcl BK173.out 2).trans rfl; have hfz81_0 := bfz BK173.out 0; have hfz81_1 := bfz BK173.out 1; have hfz81_2 := bfz BK173.out 2) | (go_at_call 21; (with_reducible refine (leap_Indicator.calls kj2 36 3900000000 _ _ y170 3692217600 t185 _ ?side1 ?side2 A72.out).mono ?_); (case side1 => repeat (first | exact (Kd.R_reads' HO_174002.out).2.2 | (with_reducible refine Kd.C_alloc ?_ _) | (with_reducible refine Kd.C_drewN ?_ _) | (with_reducible refine Kd.C_drew ?_))); (case side2 => exact (Kd.R_reads' HO_174002.out).2.1); rintro e w82 ⟨rfl, hb⟩; have n0_ := Ad.mk (Kd.R_below (by (with_reducible repeat (first | apply Kd.R_alloc | apply Kd.R_drewN | apply Kd.R_drew)); exact HO_174002.out) hb); have n1_ := Ad.mk (bbl (g := gb173) (o := .cells #[.int .i64 36, .int .i64 3900000000, .slice Ao6 y170.length co6] 24 (0, 0)) (by (with_reducible repeat (first | refine bkN ?_ _ | refine bkd ?_ | refine bka ?_ _)); exact BK173.out) hb); have n2_ := Ad.mk (pbt (by repeat (first | (with_reducible first | exact HB.out | apply pba | apply pbN | apply pb1 | refine pbs ?_ GE173.out) | exact HB.out)) hb); clear HO_174002; clear BK173; clear HB; have HO_174002 := n0_; have BK173 := n1_; have HB := n2_; clear n0_ n1_ n2_; (try clear hb); (try clear hb2); (try clear hk); (try clear hi); have hcz83_0 : w82.cell? ⟨gb173, 0, none⟩ = some (.int .i64 36) := (bcl BK173.out 0).trans rfl; have hcz83_1 : w82.cell? ⟨gb173, 1, none⟩ = some (.int .i64 3900000000) := (bcl BK173.out 1).trans rfl; have hcz83_2 : w82.cell? ⟨gb173, 2, none⟩ = some (.slice Ao6 y170.length co6) := (bcl BK173.out 2).trans rfl; have hfz83_0 := bfz BK173.out 0; have hfz83_1 := bfz BK173.out 1; have hfz83_2 := bfz BK173.out 2) | (go_at_call 21; (with_reducible refine (leap_Indicator.calls kj2 36 3900000000 _ _ y170 3900000000 t186 _ ?side1 ?side2 A74.out).mono ?_); (case side1 => repeat (first | exact (Kd.R_reads' HO_174002.out).2.2 | (with_reducible refine Kd.C_alloc ?_ _) | (with_reducible refine Kd.C_drewN ?_ _) | (with_reducible refine Kd.C_drew ?_))); (case side2 => exact (Kd.R_reads' HO_174002.out).2.1); rintro e w84 ⟨rfl, hb⟩; have n0_ := Ad.mk (Kd.R_below (by (with_reducible repeat (first | apply Kd.R_alloc | apply Kd.R_drewN | apply Kd.R_drew)); exact HO_174002.out) hb); have n1_ := Ad.mk (bbl (g := gb173) (o := .cells #[.int .i64 36, .int .i64 3900000000, .slice Ao6 y170.length co6] 24 (0, 0)) (by (with_reducible repeat (first | refine bkN ?_ _ | refine bkd ?_ | refine bka ?_ _)); exact BK173.out) hb); have n2_ := Ad.mk (pbt (by repeat (first | (with_reducible first | exact HB.out | apply pba | apply pbN | apply pb1 | refine pbs ?_ GE173.out) | exact HB.out)) hb); clear HO_174002; clear BK173; clear HB; have HO_174002 := n0_; have BK173 := n1_; have HB := n2_; clear n0_ n1_ n2_; (try clear hb); (try clear hb2); (try clear hk); (try clear hi)))
         go_meet
         case rel => exact ⟨_, ((t186 != 3)), (by first | rfl | (simp; done) | (simp [*]; done)), H', ⟨by have := HJ2.out; first | omega | exact Nat.le_refl _⟩, ⟨by (with_reducible repeat (first | apply Kd.R_alloc | apply Kd.R_drewN | apply Kd.R_drew)); exact HO_174002.out⟩, ⟨by (with_reducible repeat (first | refine bkN ?_ _ | refine bkd ?_ | refine bka ?_ _)); exact BK173.out⟩, ⟨by repeat (first | (with_reducible first | exact HB.out | apply pba | apply pbN | apply pb1 | refine pbs ?_ GE173.out) | exact HB.out)⟩⟩
        ·rw [if_neg c73] at H
         exact (awake_j1_bad H HRT.out).elim
       ·rw [if_neg c71] at H
        exact (awake_j1_bad H HRT.out).elim
      ·rw [if_neg c69] at H
       exact (awake_j1_bad H HRT.out).elim
     ·rw [if_neg c67] at H
      exact (awake_j1_bad H HRT.out).elim
    case rest =>
     clear HC65
     obtain ⟨kq, x82_64, rfl, HA, HJ64, HO_174002, BK173, HB⟩ := hcut
     cases kq with
     | zero => exact absurd HA.out (by simp [w6_awake.j1])
     | succ kj64 =>
      have H := HA.out
      clear HA
      simp only [w6_awake.j1] at H
      by_cases c105 : x82_64 = true
      ·subst c105
       have H1 : (some false) = some r := by rw [if_pos rfl] at H; exact H
       exact (awake_f_bad H1 HRT.out).elim
      ·replace c105 := Bool.eq_false_iff.mpr c105
       subst c105
       have H1 : ((leap_Parse.f (⟨#[35, 32, 108, 101, 97, 112, 32, 115, 101, 99, 111, 110, 100, 115, 10, 35, 64, 9, 51, 57, 48, 48, 48, 48, 48, 48, 48, 48, 10, 35, 61, 32, 51, 54, 32, 10, 10, 51, 54, 57, 50, 50, 49, 55, 54, 48, 48, 9, 51, 55, 32, 35, 32, 50, 48, 49, 55]⟩ : ByteArray)).bind fun bt187 => ((leap_Next.f kj64 36 3900000000 y170 0).bind fun bt194 => ((some (([(⟨3692217600, 35⟩ : S44)] : List (S44)) : List (S44))).bind fun y198 => ((leap_TAI.f kj64 36 3900000000 y198 3692217599 false).bind fun bt201 => (if 0 < (y198.length : Int) then ((some (y198.set (0 : Int).toNat (⟨(rd_T44 y198 0).f0, 37⟩ : S44) : List (S44))).bind fun y203 => ((leap_Text.f 36 3900000000 y203).bind fun t204 => (if t204.toList = ([35, 64, 32, 51, 57, 48, 48, 48, 48, 48, 48, 48, 48, 10, 35, 61, 32, 51, 54, 10, 51, 54, 57, 50, 50, 49, 55, 54, 48, 48, 32, 51, 55, 10] : List UInt8) then ((w6_same.f kj64 bt187.1 bt187.2.1 bt187.2.2.1 36 3900000000 y203).bind fun t205 => (if t205 = true then (if bt187.2.2.2 = 0 then (if (bt194.1 == ((rd_T44 y203 0).f0) && (bt194.2.1 == ((rd_T44 y203 0).f1))) = true then (if bt194.2.2 = true then (some (bt201.2 == 11)) else (some false)) else (some false)) else (some false)) else (some false))) else (some false)))) else (none)))))) = some r := by rw [if_neg (show ¬ (false = true) by decide)] at H; exact H
       clear H
       have H := H1
       clear H1
       replace H := Option.bind_eq_some_iff.mp H
       obtain ⟨⟨t187, t188, t189, t192⟩, A1060, H⟩ := H
       replace H : ((leap_Next.f kj64 36 3900000000 y170 0).bind fun bt194 => ((some (([(⟨3692217600, 35⟩ : S44)] : List (S44)) : List (S44))).bind fun y198 => ((leap_TAI.f kj64 36 3900000000 y198 3692217599 false).bind fun bt201 => (if 0 < (y198.length : Int) then ((some (y198.set (0 : Int).toNat (⟨(rd_T44 y198 0).f0, 37⟩ : S44) : List (S44))).bind fun y203 => ((leap_Text.f 36 3900000000 y203).bind fun t204 => (if t204.toList = ([35, 64, 32, 51, 57, 48, 48, 48, 48, 48, 48, 48, 48, 10, 35, 61, 32, 51, 54, 10, 51, 54, 57, 50, 50, 49, 55, 54, 48, 48, 32, 51, 55, 10] : List UInt8) then ((w6_same.f kj64 t187 t188 t189 36 3900000000 y203).bind fun t205 => (if t205 = true then (if t192 = 0 then (if (bt194.1 == ((rd_T44 y203 0).f0) && (bt194.2.1 == ((rd_T44 y203 0).f1))) = true then (if bt194.2.2 = true then (some (bt201.2 == 11)) else (some false)) else (some false)) else (some false)) else (some false))) else (some false)))) else (none))))) = some r := H
       have A106 := Ad.mk A1060
       clear A1060
       replace H := Option.bind_eq_some_iff.mp H
       obtain ⟨⟨t194, t195, t196⟩, A1070, H⟩ := H
       replace H : ((some (([(⟨3692217600, 35⟩ : S44)] : List (S44)) : List (S44))).bind fun y198 => ((leap_TAI.f kj64 36 3900000000 y198 3692217599 false).bind fun bt201 => (if 0 < (y198.length : Int) then ((some (y198.set (0 : Int).toNat (⟨(rd_T44 y198 0).f0, 37⟩ : S44) : List (S44))).bind fun y203 => ((leap_Text.f 36 3900000000 y203).bind fun t204 => (if t204.toList = ([35, 64, 32, 51, 57, 48, 48, 48, 48, 48, 48, 48, 48, 10, 35, 61, 32, 51, 54, 10, 51, 54, 57, 50, 50, 49, 55, 54, 48, 48, 32, 51, 55, 10] : List UInt8) then ((w6_same.f kj64 t187 t188 t189 36 3900000000 y203).bind fun t205 => (if t205 = true then (if t192 = 0 then (if (t194 == ((rd_T44 y203 0).f0) && (t195 == ((rd_T44 y203 0).f1))) = true then (if t196 = true then (some (bt201.2 == 11)) else (some false)) else (some false)) else (some false)) else (some false))) else (some false)))) else (none)))) = some r := H
       have A107 := Ad.mk A1070
       clear A1070
       obtain ⟨y198, hy198⟩ : ∃ y_ : List (S44), y_ = (([(⟨3692217600, 35⟩ : S44)] : List (S44))) := ⟨_, rfl⟩
       replace H : ((leap_TAI.f kj64 36 3900000000 y198 3692217599 false).bind fun bt201 => (if 0 < (y198.length : Int) then ((some (y198.set (0 : Int).toNat (⟨(rd_T44 y198 0).f0, 37⟩ : S44) : List (S44))).bind fun y203 => ((leap_Text.f 36 3900000000 y203).bind fun t204 => (if t204.toList = ([35, 64, 32, 51, 57, 48, 48, 48, 48, 48, 48, 48, 48, 10, 35, 61, 32, 51, 54, 10, 51, 54, 57, 50, 50, 49, 55, 54, 48, 48, 32, 51, 55, 10] : List UInt8) then ((w6_same.f kj64 t187 t188 t189 36 3900000000 y203).bind fun t205 => (if t205 = true then (if t192 = 0 then (if (t194 == ((rd_T44 y203 0).f0) && (t195 == ((rd_T44 y203 0).f1))) = true then (if t196 = true then (some (bt201.2 == 11)) else (some false)) else (some false)) else (some false)) else (some false))) else (some false)))) else (none))) = some r := by first | (rw [hy198]; with_reducible exact H) | (have H2_ := (Option.bind_some _ _).symm.trans H; rw [hy198]; with_reducible exact H2_) | (have H2_ := (Option.bind_some _ _).symm.trans H; with_reducible exact H2_) | with_reducible exact H | (rw [hy198]; exact H) | exact H
       have Ny198 := Ad.mk hy198
       clear hy198
       replace H := Option.bind_eq_some_iff.mp H
       obtain ⟨⟨t201, t202⟩, A1080, H⟩ := H
       replace H : (if 0 < (y198.length : Int) then ((some (y198.set (0 : Int).toNat (⟨(rd_T44 y198 0).f0, 37⟩ : S44) : List (S44))).bind fun y203 => ((leap_Text.f 36 3900000000 y203).bind fun t204 => (if t204.toList = ([35, 64, 32, 51, 57, 48, 48, 48, 48, 48, 48, 48, 48, 10, 35, 61, 32, 51, 54, 10, 51, 54, 57, 50, 50, 49, 55, 54, 48, 48, 32, 51, 55, 10] : List UInt8) then ((w6_same.f kj64 t187 t188 t189 36 3900000000 y203).bind fun t205 => (if t205 = true then (if t192 = 0 then (if (t194 == ((rd_T44 y203 0).f0) && (t195 == ((rd_T44 y203 0).f1))) = true then (if t196 = true then (some (t202 == 11)) else (some false)) else (some false)) else (some false)) else (some false))) else (some false)))) else (none)) = some r := H
       have A108 := Ad.mk A1080
       clear A1080
       by_cases c109 : 0 < (y198.length : Int)
       ·rw [if_pos c109] at H
        have c109b0 : decide (0 < (y198.length : Int)) = true := decide_eq_true c109
        have c109b1 : decide (0 < y198.length) = true := decide_eq_true (by omega)
        clear c109
        obtain ⟨y203, hy203⟩ : ∃ y_ : List (S44), y_ = (y198.set (0 : Int).toNat (⟨(rd_T44 y198 0).f0, 37⟩ : S44)) := ⟨_, rfl⟩
        replace H : ((leap_Text.f 36 3900000000 y203).bind fun t204 => (if t204.toList = ([35, 64, 32, 51, 57, 48, 48, 48, 48, 48, 48, 48, 48, 10, 35, 61, 32, 51, 54, 10, 51, 54, 57, 50, 50, 49, 55, 54, 48, 48, 32, 51, 55, 10] : List UInt8) then ((w6_same.f kj64 t187 t188 t189 36 3900000000 y203).bind fun t205 => (if t205 = true then (if t192 = 0 then (if (t194 == ((rd_T44 y203 0).f0) && (t195 == ((rd_T44 y203 0).f1))) = true then (if t196 = true then (some (t202 == 11)) else (some false)) else (some false)) else (some false)) else (some false))) else (some false))) = some r := by first | (rw [hy203]; with_reducible exact H) | (have H2_ := (Option.bind_some _ _).symm.trans H; rw [hy203]; with_reducible exact H2_) | (have H2_ := (Option.bind_some _ _).symm.trans H; with_reducible exact H2_) | with_reducible exact H | (rw [hy203]; exact H) | exact H
        have Ny203 := Ad.mk hy203
        clear hy203
        replace H := Option.bind_eq_some_iff.mp H
        obtain ⟨t204, A1110, H⟩ := H
        replace H : (if t204.toList = ([35, 64, 32, 51, 57, 48, 48, 48, 48, 48, 48, 48, 48, 10, 35, 61, 32, 51, 54, 10, 51, 54, 57, 50, 50, 49, 55, 54, 48, 48, 32, 51, 55, 10] : List UInt8) then ((w6_same.f kj64 t187 t188 t189 36 3900000000 y203).bind fun t205 => (if t205 = true then (if t192 = 0 then (if (t194 == ((rd_T44 y203 0).f0) && (t195 == ((rd_T44 y203 0).f1))) = true then (if t196 = true then (some (t202 == 11)) else (some false)) else (some false)) else (some false)) else (some false))) else (some false)) = some r := H
        have A111 := Ad.mk A1110
        clear A1110
        by_cases c112 : t204.toList = ([35, 64, 32, 51, 57, 48, 48, 48, 48, 48, 48, 48, 48, 10, 35, 61, 32, 51, 54, 10, 51, 54, 57, 50, 50, 49, 55, 54, 48, 48, 32, 51, 55, 10] : List UInt8)
        ·rw [if_pos c112] at H
         have c112b0 : (t204.toList == ([35, 64, 32, 51, 57, 48, 48, 48, 48, 48, 48, 48, 48, 10, 35, 61, 32, 51, 54, 10, 51, 54, 57, 50, 50, 49, 55, 54, 48, 48, 32, 51, 55, 10] : List UInt8)) = true := beq_iff_eq.mpr c112
         have c112b1 : (t204.toList != ([35, 64, 32, 51, 57, 48, 48, 48, 48, 48, 48, 48, 48, 10, 35, 61, 32, 51, 54, 10, 51, 54, 57, 50, 50, 49, 55, 54, 48, 48, 32, 51, 55, 10] : List UInt8)) = false := bne_eq_false_iff_eq.mpr c112
         clear c112
         replace H := Option.bind_eq_some_iff.mp H
         obtain ⟨t205, A1130, H⟩ := H
         replace H : (if t205 = true then (if t192 = 0 then (if (t194 == ((rd_T44 y203 0).f0) && (t195 == ((rd_T44 y203 0).f1))) = true then (if t196 = true then (some (t202 == 11)) else (some false)) else (some false)) else (some false)) else (some false)) = some r := H
         have A113 := Ad.mk A1130
         clear A1130
         by_cases c114 : t205 = true
         ·subst c114
          have H1 : (if t192 = 0 then (if (t194 == ((rd_T44 y203 0).f0) && (t195 == ((rd_T44 y203 0).f1))) = true then (if t196 = true then (some (t202 == 11)) else (some false)) else (some false)) else (some false)) = some r := by rw [if_pos rfl] at H; exact H
          clear H
          have H := H1
          clear H1
          by_cases c115 : t192 = 0
          ·rw [if_pos c115] at H
           have c115b0 : (t192 == 0) = true := beq_iff_eq.mpr c115
           have c115b1 : (t192 != 0) = false := bne_eq_false_iff_eq.mpr c115
           clear c115
           by_cases c116 : (t194 == ((rd_T44 y203 0).f0) && (t195 == ((rd_T44 y203 0).f1))) = true
           ·rw [if_pos c116] at H
            have c116b0 : (t194 == ((rd_T44 y203 0).f0) && (t195 == ((rd_T44 y203 0).f1))) = true := c116
            (try (have c116b1 : decide (t194 = ((rd_T44 y203 0).f0) && (t195 == ((rd_T44 y203 0).f1))) = true := by simpa using c116))
            (try (have c116b2 : (t194 == ((rd_T44 y203 0).f0) && (t195 == ((rd_T44 y203 0).f1))) = true := by simpa using c116))
            clear c116
            by_cases c117 : t196 = true
            ·subst c117
             have H1 : (some (t202 == 11)) = some r := by rw [if_pos rfl] at H; exact H
             clear H
             have H := H1
             clear H1
             obtain rfl := Option.some.inj H
             try go_wp2_with (first | ((with_reducible refine gate_callee (f := 18) rfl ?_); refine goesL_ (some 84) rfl rfl Tryd.func18 (by kernel_rfl) rfl #[.string (⟨#[35, 32, 108, 101, 97, 112, 32, 115, 101, 99, 111, 110, 100, 115, 10, 35, 64, 9, 51, 57, 48, 48, 48, 48, 48, 48, 48, 48, 10, 35, 61, 32, 51, 54, 32, 10, 10, 51, 54, 57, 50, 50, 49, 55, 54, 48, 48, 9, 51, 55, 32, 35, 32, 50, 48, 49, 55]⟩ : ByteArray)] rfl (by (try simp only [List.map_toArray, List.map_cons, List.map_nil]); first | done | rfl | (simp only [List.length_drop, List.length_take]; rfl)) ?_; (with_reducible refine (leap_Parse.calls (⟨#[35, 32, 108, 101, 97, 112, 32, 115, 101, 99, 111, 110, 100, 115, 10, 35, 64, 9, 51, 57, 48, 48, 48, 48, 48, 48, 48, 48, 10, 35, 61, 32, 51, 54, 32, 10, 10, 51, 54, 57, 50, 50, 49, 55, 54, 48, 48, 9, 51, 55, 32, 35, 32, 50, 48, 49, 55]⟩ : ByteArray) t187 t188 t189 t192 _ ?side1 A106.out).mono ?_); (case side1 => exact HG.out.below (by repeat (first | (with_reducible first | exact HB.out | apply pba | apply pbN | apply pb1 | refine pbs ?_ GE173.out) | exact HB.out))); rintro e w118 ⟨v190, rfl, ho0, hb⟩; refine ⟨_, rfl, ?_⟩; have n0_ := Ad.mk (Kd.R_elder' (by (with_reducible repeat (first | apply Kd.R_alloc | apply Kd.R_drewN | apply Kd.R_drew)); exact HO_174002.out) (Kd.R_base ho0) hb); have n1_ := Ad.mk (Kd.R_lower (Kd.R_new' ho0 (Kd.R_lt (by (with_reducible repeat (first | apply Kd.R_alloc | apply Kd.R_drewN | apply Kd.R_drew)); exact HO_174002.out))) (pbz (by repeat (first | (with_reducible first | exact HB.out | apply pba | apply pbN | apply pb1 | refine pbs ?_ GE173.out) | exact HB.out)))); have n2_ := Ad.mk (bbl (g := gb173) (o := .cells #[.int .i64 36, .int .i64 3900000000, .slice Ao6 y170.length co6] 24 (0, 0)) (by (with_reducible repeat (first | refine bkN ?_ _ | refine bkd ?_ | refine bka ?_ _)); exact BK173.out) hb); have n3_ := Ad.mk (pbt (by repeat (first | (with_reducible first | exact HB.out | apply pba | apply pbN | apply pb1 | refine pbs ?_ GE173.out) | exact HB.out)) hb); clear HO_174002; clear BK173; clear HB; have HO_174002 := n0_; have HO191 := n1_; have BK173 := n2_; have HB := n3_; clear n0_ n1_ n2_ n3_; (try clear hb); (try clear hb2); (try clear hk); (try clear hi); (try clear ho0)) | ((with_reducible refine gate_dst (N := 7) rfl ?_); refine box_event ?hg (N := 7) ?hd (cs := #[.int .i64 0, .int .i64 0, .slice none 0 0]) (t := 24) ?hr ?_; (case hd => rfl); (case hg => rfl); (case hr => first | (go_simp; done) | (go_simp; rfl)); intro gb193 hg w119 hbox hb; have n0_ := Ad.mk (Kd.R_below (by (with_reducible repeat (first | apply Kd.R_alloc | apply Kd.R_drewN | apply Kd.R_drew)); exact HO_174002.out) hb); have n1_ := Ad.mk (Kd.R_below (by (with_reducible repeat (first | apply Kd.R_alloc | apply Kd.R_drewN | apply Kd.R_drew)); exact HO191.out) hb); have n2_ := Ad.mk (bbl (g := gb173) (o := .cells #[.int .i64 36, .int .i64 3900000000, .slice Ao6 y170.length co6] 24 (0, 0)) (by (with_reducible repeat (first | refine bkN ?_ _ | refine bkd ?_ | refine bka ?_ _)); exact BK173.out) hb); have n3_ := Ad.mk (pbt (by repeat (first | (with_reducible first | exact HB.out | apply pba | apply pbN | apply pb1 | refine pbs ?_ GE173.out) | exact HB.out)) hb); have n4_ := Ad.mk (hbox); have n5_ := Ad.mk ((by rw [hg]; exact (pbz (by repeat (first | (with_reducible first | exact HB.out | apply pba | apply pbN | apply pb1 | refine pbs ?_ GE173.out) | exact HB.out))) : w.heap.size ≤ gb193)); have n6_ := Ad.mk ((by rw [hg]; exact (pbz (by repeat (first | (with_reducible first | exact HB.out | apply pba | apply pbN | apply pb1 | refine pbs ?_ GE173.out) | exact HB.out))) : w.heap.size ≤ gb193)); have n7_ := Ad.mk ((by rw [hg]; exact Nat.ne_of_lt (blk_lt (g := gb173) (o := .cells #[.int .i64 36, .int .i64 3900000000, .slice Ao6 y170.length co6] 24 (0, 0)) (by (with_reducible repeat (first | refine bkN ?_ _ | refine bkd ?_ | refine bka ?_ _)); exact BK173.out)) : gb173 ≠ gb193)); have n8_ := Ad.mk ((by rw [hg]; exact Nat.ne_of_gt (blk_lt (g := gb173) (o := .cells #[.int .i64 36, .int .i64 3900000000, .slice Ao6 y170.length co6] 24 (0, 0)) (by (with_reducible repeat (first | refine bkN ?_ _ | refine bkd ?_ | refine bka ?_ _)); exact BK173.out)) : gb193 ≠ gb173)); clear HO_174002; clear HO191; clear BK173; clear HB; have HO_174002 := n0_; have HO191 := n1_; have BK173 := n2_; have HB := n3_; have BK193 := n4_; have GW193 := n5_; have GE193 := n6_; have NB173_193 := n7_; have NB193_173 := n8_; clear n0_ n1_ n2_ n3_ n4_ n5_ n6_ n7_ n8_; clear hb hbox hg; have hnb120 := NB193_173.out; have hnc120 := NB173_193.out; have hcz121_0 : w119.cell? ⟨gb193, 0, none⟩ = some (.int .i64 0) := (bcl BK193.out 0).trans rfl; have hcz121_1 : w119.cell? ⟨gb193, 1, none⟩ = some (.int .i64 0) := (bcl BK193.out 1).trans rfl; have hcz121_2 : w119.cell? ⟨gb193, 2, none⟩ = some (.slice none 0 0) := (bcl BK193.out 2).trans rfl; have hfz121_0 := bfz BK193.out 0; have hfz121_1 := bfz BK193.out 1; have hfz121_2 := bfz BK193.out 2; obtain ⟨Ao122, co122, eo122⟩ := Kd.R_slice HO191.out; subst eo122; have hcz123_0 : w119.cell? ⟨gb173, 0, none⟩ = some (.int .i64 36) := (bcl BK173.out 0).trans rfl; have hcz123_1 : w119.cell? ⟨gb173, 1, none⟩ = some (.int .i64 3900000000) := (bcl BK173.out 1).trans rfl; have hcz123_2 : w119.cell? ⟨gb173, 2, none⟩ = some (.slice Ao6 y170.length co6) := (bcl BK173.out 2).trans rfl; have hfz123_0 := bfz BK173.out 0; have hfz123_1 := bfz BK173.out 1; have hfz123_2 := bfz BK173.out 2) | ((with_reducible refine gate_callee (f := 22) rfl ?_); refine goesL_ (some 89) rfl rfl Tryd.func22 (by kernel_rfl) rfl #[.agg #[.int .i64 36, .int .i64 3900000000, .slice Ao6 y170.length co6], .int .i64 0] rfl (by (try simp only [List.map_toArray, List.map_cons, List.map_nil]); first | done | rfl | (simp only [List.length_drop, List.length_take]; rfl)) ?_; (with_reducible refine (leap_Next.calls kj64 36 3900000000 _ _ y170 0 t194 t195 true _ ?side1 ?side2 A107.out).mono ?_); (case side1 => refine (Kd.R_reads' (e := 44) (base := w.heap.size) (ok := fun k_ => (True ∧ some k_ ≠ (.slice Ao122 t189.length co122 : Value).ownBlock)) (n := y170.length) (c := co6) ?_).2.2; exact (by (with_reducible repeat (first | apply Kd.R_alloc | apply Kd.R_drewN | apply Kd.R_drew)); exact (Kd.R_mono (Kd.R_far (p := ⟨gb193, 2, none⟩) (Kd.R_far (p := ⟨gb193, 1, none⟩) (Kd.R_far (p := ⟨gb193, 0, none⟩) (Kd.R_types HO_174002.out BK193.out (by decide)) (fun _ hk => hk.2) (.int .i64 t187)) (fun _ hk => hk.2) (.int .i64 t188)) (fun _ hk => hk.2) (.slice Ao122 t189.length co122)) (fun _ h_ => h_.1)))); (case side2 => exact (Kd.R_reads' HO_174002.out).2.1); rintro e w124 ⟨rfl, hb⟩; refine ⟨_, rfl, ?_⟩; have n0_ := Ad.mk (Kd.R_below (by (with_reducible repeat (first | apply Kd.R_alloc | apply Kd.R_drewN | apply Kd.R_drew)); exact (Kd.R_mono (Kd.R_far (p := ⟨gb193, 2, none⟩) (Kd.R_far (p := ⟨gb193, 1, none⟩) (Kd.R_far (p := ⟨gb193, 0, none⟩) (Kd.R_types HO_174002.out BK193.out (by decide)) (fun _ hk => hk.2) (.int .i64 t187)) (fun _ hk => hk.2) (.int .i64 t188)) (fun _ hk => hk.2) (.slice Ao122 t189.length co122)) (fun _ h_ => h_.1))) hb); have n1_ := Ad.mk (Kd.R_below (by (with_reducible repeat (first | apply Kd.R_alloc | apply Kd.R_drewN | apply Kd.R_drew)); exact (Kd.R_mono (Kd.R_far (p := ⟨gb193, 2, none⟩) (Kd.R_far (p := ⟨gb193, 1, none⟩) (Kd.R_far (p := ⟨gb193, 0, none⟩) (Kd.R_types HO191.out BK193.out (by decide)) (fun _ hk => hk.2) (.int .i64 t187)) (fun _ hk => hk.2) (.int .i64 t188)) (fun _ hk => hk.2) (.slice Ao122 t189.length co122)) (fun _ h_ => h_.1))) hb); have n2_ := Ad.mk (bbl (g := gb173) (o := .cells #[.int .i64 36, .int .i64 3900000000, .slice Ao6 y170.length co6] 24 (0, 0)) (by (with_reducible repeat (first | refine bkN ?_ _ | refine bkd ?_ | refine bka ?_ _)); refine blk_far ?_ NB173_193.out _; (with_reducible repeat (first | refine bkN ?_ _ | refine bkd ?_ | refine bka ?_ _)); refine blk_far ?_ NB173_193.out _; (with_reducible repeat (first | refine bkN ?_ _ | refine bkd ?_ | refine bka ?_ _)); refine blk_far ?_ NB173_193.out _; (with_reducible repeat (first | refine bkN ?_ _ | refine bkd ?_ | refine bka ?_ _)); exact BK173.out) hb); have n3_ := Ad.mk (bbl (g := gb193) (o := .cells #[.int .i64 t187, .int .i64 t188, .slice Ao122 t189.length co122] 24 (0, 0)) (by (with_reducible repeat (first | refine bkN ?_ _ | refine bkd ?_ | refine bka ?_ _)); refine blk_put (cs := #[.int .i64 t187, .int .i64 t188, .slice none 0 0]) ?_ 2 _ rfl; (with_reducible repeat (first | refine bkN ?_ _ | refine bkd ?_ | refine bka ?_ _)); refine blk_put (cs := #[.int .i64 t187, .int .i64 0, .slice none 0 0]) ?_ 1 _ rfl; (with_reducible repeat (first | refine bkN ?_ _ | refine bkd ?_ | refine bka ?_ _)); refine blk_put (cs := #[.int .i64 0, .int .i64 0, .slice none 0 0]) ?_ 0 _ rfl; (with_reducible repeat (first | refine bkN ?_ _ | refine bkd ?_ | refine bka ?_ _)); exact BK193.out) hb); have n4_ := Ad.mk (pbt (by repeat (first | (with_reducible first | exact HB.out | apply pba | apply pbN | apply pb1 | refine pbs ?_ GE173.out | refine pbs ?_ GE193.out) | exact HB.out)) hb); clear HO_174002; clear HO191; clear BK173; clear BK193; clear HB; have HO_174002 := n0_; have HO191 := n1_; have BK173 := n2_; have BK193 := n3_; have HB := n4_; clear n0_ n1_ n2_ n3_ n4_; (try clear hb); (try clear hb2); (try clear hk); (try clear hi)) | ((with_reducible refine gate_dst (N := 9) rfl ?_); refine box_event ?hg (N := 9) ?hd (cs := #[.int .i64 0, .int .i64 0]) (t := 44) ?hr ?_; (case hd => rfl); (case hg => rfl); (case hr => first | (go_simp; done) | (go_simp; rfl)); intro gb197 hg w125 hbox hb; have n0_ := Ad.mk (Kd.R_below (Kd.R_elderB (by (with_reducible repeat (first | apply Kd.R_alloc | apply Kd.R_drewN | apply Kd.R_drew)); exact HO_174002.out) gb197 (Nat.le_of_eq hg.symm)) hb); have n1_ := Ad.mk (Kd.R_below (Kd.R_elderB (by (with_reducible repeat (first | apply Kd.R_alloc | apply Kd.R_drewN | apply Kd.R_drew)); exact HO191.out) gb197 (Nat.le_of_eq hg.symm)) hb); have n2_ := Ad.mk (bbl (g := gb173) (o := .cells #[.int .i64 36, .int .i64 3900000000, .slice Ao6 y170.length co6] 24 (0, 0)) (by (with_reducible repeat (first | refine bkN ?_ _ | refine bkd ?_ | refine bka ?_ _)); exact BK173.out) hb); have n3_ := Ad.mk (bbl (g := gb193) (o := .cells #[.int .i64 t187, .int .i64 t188, .slice Ao122 t189.length co122] 24 (0, 0)) (by (with_reducible repeat (first | refine bkN ?_ _ | refine bkd ?_ | refine bka ?_ _)); exact BK193.out) hb); have n4_ := Ad.mk (pbt (by repeat (first | (with_reducible first | exact HB.out | apply pba | apply pbN | apply pb1 | refine pbs ?_ GE173.out | refine pbs ?_ GE193.out) | exact HB.out)) hb); have n5_ := Ad.mk (hbox); have n6_ := Ad.mk ((by rw [hg]; exact (pbz (by repeat (first | (with_reducible first | exact HB.out | apply pba | apply pbN | apply pb1 | refine pbs ?_ GE173.out | refine pbs ?_ GE193.out) | exact HB.out))) : w.heap.size ≤ gb197)); have n7_ := Ad.mk ((by rw [hg]; exact (pbz (by repeat (first | (with_reducible first | exact HB.out | apply pba | apply pbN | apply pb1 | refine pbs ?_ GE173.out | refine pbs ?_ GE193.out) | exact HB.out))) : w.heap.size ≤ gb197)); have n8_ := Ad.mk ((by rw [hg]; exact Nat.ne_of_lt (blk_lt (g := gb173) (o := .cells #[.int .i64 36, .int .i64 3900000000, .slice Ao6 y170.length co6] 24 (0, 0)) (by (with_reducible repeat (first | refine bkN ?_ _ | refine bkd ?_ | refine bka ?_ _)); exact BK173.out)) : gb173 ≠ gb197)); have n9_ := Ad.mk ((by rw [hg]; exact Nat.ne_of_gt (blk_lt (g := gb173) (o := .cells #[.int .i64 36, .int .i64 3900000000, .slice Ao6 y170.length co6] 24 (0, 0)) (by (with_reducible repeat (first | refine bkN ?_ _ | refine bkd ?_ | refine bka ?_ _)); exact BK173.out)) : gb197 ≠ gb173)); have n10_ := Ad.mk ((by rw [hg]; exact Nat.ne_of_lt (blk_lt (g := gb193) (o := .cells #[.int .i64 t187, .int .i64 t188, .slice Ao122 t189.length co122] 24 (0, 0)) (by (with_reducible repeat (first | refine bkN ?_ _ | refine bkd ?_ | refine bka ?_ _)); exact BK193.out)) : gb193 ≠ gb197)); have n11_ := Ad.mk ((by rw [hg]; exact Nat.ne_of_gt (blk_lt (g := gb193) (o := .cells #[.int .i64 t187, .int .i64 t188, .slice Ao122 t189.length co122] 24 (0, 0)) (by (with_reducible repeat (first | refine bkN ?_ _ | refine bkd ?_ | refine bka ?_ _)); exact BK193.out)) : gb197 ≠ gb193)); clear HO_174002; clear HO191; clear BK173; clear BK193; clear HB; have HO_174002 := n0_; have HO191 := n1_; have BK173 := n2_; have BK193 := n3_; have HB := n4_; have BK197 := n5_; have GW197 := n6_; have GE197 := n7_; have NB173_197 := n8_; have NB197_173 := n9_; have NB193_197 := n10_; have NB197_193 := n11_; clear n0_ n1_ n2_ n3_ n4_ n5_ n6_ n7_ n8_ n9_ n10_ n11_; clear hb hbox hg; have hnb126 := NB197_173.out; have hnc126 := NB173_197.out; have hnb127 := NB197_193.out; have hnc127 := NB193_197.out; have hcz128_0 : w125.cell? ⟨gb197, 0, none⟩ = some (.int .i64 0) := (bcl BK197.out 0).trans rfl; have hcz128_1 : w125.cell? ⟨gb197, 1, none⟩ = some (.int .i64 0) := (bcl BK197.out 1).trans rfl; have hfz128_0 := bfz BK197.out 0; have hfz128_1 := bfz BK197.out 1) | ((with_reducible refine gate_dst (N := 93) rfl ?_); refine Kd.R_lit k44 _ 44 ?hg (N := 93) ?hd (xs := ([(⟨3692217600, 35⟩ : S44)] : List (S44))) (inner := [.int .i64 3692217600, .int .i64 35]) (ok := fun _ => True) (okp := fun _ => True) ?hr ?hp (fun _ hk => hk) trivial (Below.refl _ _) (Nat.le_refl _) (by simp) ?_; (case hd => rfl); (case hg => rfl); (case hr => first | (go_simp; done) | (go_simp; rfl)); (case hp => exact (Reps.c2 (show Kd.M k44 _ _ _ (⟨3692217600, 35⟩ : S44) [.int .i64 3692217600, .int .i64 35] from (k44_mkM _ _ _ (⟨3692217600, 35⟩ : S44) )) (Reps.none _ _))); intro v199 w129 ho130 hb hg_ hnew_; clear hg_ hnew_; (first | rw [← Ny198.out] at ho130 | (simp only [Int.reduceToNat] at ho130; rw [← Ny198.out] at ho130)); have n0_ := Ad.mk (Kd.R_elder' (by (with_reducible repeat (first | apply Kd.R_alloc | apply Kd.R_drewN | apply Kd.R_drew)); exact (Kd.R_mono (Kd.R_far (p := ⟨gb197, 1, none⟩) (Kd.R_far (p := ⟨gb197, 0, none⟩) (Kd.R_mono HO_174002.out (fun k_ hk => (⟨hk, hk.2⟩ : _ ∧ k_ ≠ gb197))) (fun _ hk => hk.2) (.int .i64 t194)) (fun _ hk => hk.2) (.int .i64 t195)) (fun _ h_ => h_.1))) (Kd.R_base ho130) hb); have n1_ := Ad.mk (Kd.R_elder' (by (with_reducible repeat (first | apply Kd.R_alloc | apply Kd.R_drewN | apply Kd.R_drew)); exact (Kd.R_mono (Kd.R_far (p := ⟨gb197, 1, none⟩) (Kd.R_far (p := ⟨gb197, 0, none⟩) (Kd.R_mono HO191.out (fun k_ hk => (⟨hk, hk.2⟩ : _ ∧ k_ ≠ gb197))) (fun _ hk => hk.2) (.int .i64 t194)) (fun _ hk => hk.2) (.int .i64 t195)) (fun _ h_ => h_.1))) (Kd.R_base ho130) hb); have n2_ := Ad.mk (Kd.R_lower (Kd.R_newB (Kd.R_new' (Kd.R_new' ho130 (Kd.R_lt (by (with_reducible repeat (first | apply Kd.R_alloc | apply Kd.R_drewN | apply Kd.R_drew)); exact (Kd.R_mono (Kd.R_far (p := ⟨gb197, 1, none⟩) (Kd.R_far (p := ⟨gb197, 0, none⟩) (Kd.R_mono HO_174002.out (fun k_ hk => (⟨hk, hk.2⟩ : _ ∧ k_ ≠ gb197))) (fun _ hk => hk.2) (.int .i64 t194)) (fun _ hk => hk.2) (.int .i64 t195)) (fun _ h_ => h_.1))))) (Kd.R_lt (by (with_reducible repeat (first | apply Kd.R_alloc | apply Kd.R_drewN | apply Kd.R_drew)); exact (Kd.R_mono (Kd.R_far (p := ⟨gb197, 1, none⟩) (Kd.R_far (p := ⟨gb197, 0, none⟩) (Kd.R_mono HO191.out (fun k_ hk => (⟨hk, hk.2⟩ : _ ∧ k_ ≠ gb197))) (fun _ hk => hk.2) (.int .i64 t194)) (fun _ hk => hk.2) (.int .i64 t195)) (fun _ h_ => h_.1))))) (g := gb197) (o := .cells #[.int .i64 t194, .int .i64 t195] 44 (0, 0)) (by (with_reducible repeat (first | refine bkN ?_ _ | refine bkd ?_ | refine bka ?_ _)); refine blk_put (cs := #[.int .i64 t194, .int .i64 0]) ?_ 1 _ rfl; (with_reducible repeat (first | refine bkN ?_ _ | refine bkd ?_ | refine bka ?_ _)); refine blk_put (cs := #[.int .i64 0, .int .i64 0]) ?_ 0 _ rfl; (with_reducible repeat (first | refine bkN ?_ _ | refine bkd ?_ | refine bka ?_ _)); exact BK197.out)) (pbz (by repeat (first | (with_reducible first | exact HB.out | apply pba | apply pbN | apply pb1 | refine pbs ?_ GE173.out | refine pbs ?_ GE193.out | refine pbs ?_ GE197.out) | exact HB.out)))); have n3_ := Ad.mk (bbl (g := gb173) (o := .cells #[.int .i64 36, .int .i64 3900000000, .slice Ao6 y170.length co6] 24 (0, 0)) (by (with_reducible repeat (first | refine bkN ?_ _ | refine bkd ?_ | refine bka ?_ _)); refine blk_far ?_ NB173_197.out _; (with_reducible repeat (first | refine bkN ?_ _ | refine bkd ?_ | refine bka ?_ _)); refine blk_far ?_ NB173_197.out _; (with_reducible repeat (first | refine bkN ?_ _ | refine bkd ?_ | refine bka ?_ _)); exact BK173.out) hb); have n4_ := Ad.mk (bbl (g := gb193) (o := .cells #[.int .i64 t187, .int .i64 t188, .slice Ao122 t189.length co122] 24 (0, 0)) (by (with_reducible repeat (first | refine bkN ?_ _ | refine bkd ?_ | refine bka ?_ _)); refine blk_far ?_ NB193_197.out _; (with_reducible repeat (first | refine bkN ?_ _ | refine bkd ?_ | refine bka ?_ _)); refine blk_far ?_ NB193_197.out _; (with_reducible repeat (first | refine bkN ?_ _ | refine bkd ?_ | refine bka ?_ _)); exact BK193.out) hb); have n5_ := Ad.mk (bbl (g := gb197) (o := .cells #[.int .i64 t194, .int .i64 t195] 44 (0, 0)) (by (with_reducible repeat (first | refine bkN ?_ _ | refine bkd ?_ | refine bka ?_ _)); refine blk_put (cs := #[.int .i64 t194, .int .i64 0]) ?_ 1 _ rfl; (with_reducible repeat (first | refine bkN ?_ _ | refine bkd ?_ | refine bka ?_ _)); refine blk_put (cs := #[.int .i64 0, .int .i64 0]) ?_ 0 _ rfl; (with_reducible repeat (first | refine bkN ?_ _ | refine bkd ?_ | refine bka ?_ _)); exact BK197.out) hb); have n6_ := Ad.mk (pbt (by repeat (first | (with_reducible first | exact HB.out | apply pba | apply pbN | apply pb1 | refine pbs ?_ GE173.out | refine pbs ?_ GE193.out | refine pbs ?_ GE197.out) | exact HB.out)) hb); clear HO_174002; clear HO191; clear BK173; clear BK193; clear BK197; clear HB; have HO_174002 := n0_; have HO191 := n1_; have HO200 := n2_; have BK173 := n3_; have BK193 := n4_; have BK197 := n5_; have HB := n6_; clear n0_ n1_ n2_ n3_ n4_ n5_ n6_; clear hb ho130; obtain ⟨Ao131, co131, eo131⟩ := Kd.R_slice HO200.out; subst eo131; have hcz132_0 : w129.cell? ⟨gb173, 0, none⟩ = some (.int .i64 36) := (bcl BK173.out 0).trans rfl; have hcz132_1 : w129.cell? ⟨gb173, 1, none⟩ = some (.int .i64 3900000000) := (bcl BK173.out 1).trans rfl; have hcz132_2 : w129.cell? ⟨gb173, 2, none⟩ = some (.slice Ao6 y170.length co6) := (bcl BK173.out 2).trans rfl; have hfz132_0 := bfz BK173.out 0; have hfz132_1 := bfz BK173.out 1; have hfz132_2 := bfz BK173.out 2) | ((with_reducible refine gate_callee (f := 13) rfl ?_); refine goesL_ (some 97) rfl rfl Tryd.func13 (by kernel_rfl) rfl #[.agg #[.int .i64 36, .int .i64 3900000000, .slice Ao131 y198.length co131], .int .i64 3692217599, .bool false] rfl (by (try simp only [List.map_toArray, List.map_cons, List.map_nil]); first | done | rfl | (simp only [List.length_drop, List.length_take]; rfl)) ?_; (with_reducible refine (leap_TAI.calls kj64 36 3900000000 _ _ y198 3692217599 false t201 t202 _ ?side1 ?side2 A108.out).mono ?_); (case side1 => refine (Kd.R_reads' (e := 44) (base := w.heap.size) (ok := fun k_ => (((True ∧ some k_ ≠ (.slice Ao6 y170.length co6 : Value).ownBlock) ∧ some k_ ≠ (.slice Ao122 t189.length co122 : Value).ownBlock) ∧ k_ ≠ gb197)) (n := y198.length) (c := co131) ?_).2.2; exact (by (with_reducible repeat (first | apply Kd.R_alloc | apply Kd.R_drewN | apply Kd.R_drew)); exact (Kd.R_mono (Kd.R_far (p := ⟨gb173, 2, none⟩) (Kd.R_types HO200.out BK173.out (by decide)) (fun _ hk => hk.2) (.slice Ao131 y198.length co131)) (fun _ h_ => h_.1)))); (case side2 => exact (Kd.R_reads' HO200.out).2.1); rintro e w133 ⟨rfl, hb⟩; refine ⟨_, rfl, ?_⟩; have n0_ := Ad.mk (Kd.R_below (by (with_reducible repeat (first | apply Kd.R_alloc | apply Kd.R_drewN | apply Kd.R_drew)); exact (Kd.R_mono (Kd.R_far (p := ⟨gb173, 2, none⟩) (Kd.R_types HO_174002.out BK173.out (by decide)) (fun _ hk => hk.2) (.slice Ao131 y198.length co131)) (fun _ h_ => h_.1))) hb); have n1_ := Ad.mk (Kd.R_below (by (with_reducible repeat (first | apply Kd.R_alloc | apply Kd.R_drewN | apply Kd.R_drew)); exact (Kd.R_mono (Kd.R_far (p := ⟨gb173, 2, none⟩) (Kd.R_types HO191.out BK173.out (by decide)) (fun _ hk => hk.2) (.slice Ao131 y198.length co131)) (fun _ h_ => h_.1))) hb); have n2_ := Ad.mk (Kd.R_below (by (with_reducible repeat (first | apply Kd.R_alloc | apply Kd.R_drewN | apply Kd.R_drew)); exact (Kd.R_mono (Kd.R_far (p := ⟨gb173, 2, none⟩) (Kd.R_types HO200.out BK173.out (by decide)) (fun _ hk => hk.2) (.slice Ao131 y198.length co131)) (fun _ h_ => h_.1))) hb); have n3_ := Ad.mk (bbl (g := gb173) (o := .cells #[.int .i64 36, .int .i64 3900000000, .slice Ao131 y198.length co131] 24 (0, 0)) (by (with_reducible repeat (first | refine bkN ?_ _ | refine bkd ?_ | refine bka ?_ _)); refine blk_put (cs := #[.int .i64 36, .int .i64 3900000000, .slice Ao6 y170.length co6]) ?_ 2 _ rfl; (with_reducible repeat (first | refine bkN ?_ _ | refine bkd ?_ | refine bka ?_ _)); exact BK173.out) hb); have n4_ := Ad.mk (bbl (g := gb193) (o := .cells #[.int .i64 t187, .int .i64 t188, .slice Ao122 t189.length co122] 24 (0, 0)) (by (with_reducible repeat (first | refine bkN ?_ _ | refine bkd ?_ | refine bka ?_ _)); refine blk_far ?_ NB193_173.out _; (with_reducible repeat (first | refine bkN ?_ _ | refine bkd ?_ | refine bka ?_ _)); exact BK193.out) hb); have n5_ := Ad.mk (bbl (g := gb197) (o := .cells #[.int .i64 t194, .int .i64 t195] 44 (0, 0)) (by (with_reducible repeat (first | refine bkN ?_ _ | refine bkd ?_ | refine bka ?_ _)); refine blk_far ?_ NB197_173.out _; (with_reducible repeat (first | refine bkN ?_ _ | refine bkd ?_ | refine bka ?_ _)); exact BK197.out) hb); have n6_ := Ad.mk (pbt (by repeat (first | (with_reducible first | exact HB.out | apply pba | apply pbN | apply pb1 | refine pbs ?_ GE173.out | refine pbs ?_ GE193.out | refine pbs ?_ GE197.out) | exact HB.out)) hb); clear HO_174002; clear HO191; clear HO200; clear BK173; clear BK193; clear BK197; clear HB; have HO_174002 := n0_; have HO191 := n1_; have HO200 := n2_; have BK173 := n3_; have BK193 := n4_; have BK197 := n5_; have HB := n6_; clear n0_ n1_ n2_ n3_ n4_ n5_ n6_; (try clear hb); (try clear hb2); (try clear hk); (try clear hi); have hcz134_0 : w133.cell? ⟨gb173, 0, none⟩ = some (.int .i64 36) := (bcl BK173.out 0).trans rfl; have hcz134_1 : w133.cell? ⟨gb173, 1, none⟩ = some (.int .i64 3900000000) := (bcl BK173.out 1).trans rfl; have hcz134_2 : w133.cell? ⟨gb173, 2, none⟩ = some (.slice Ao131 y198.length co131) := (bcl BK173.out 2).trans rfl; have hfz134_0 := bfz BK173.out 0; have hfz134_1 := bfz BK173.out 1; have hfz134_2 := bfz BK173.out 2; have p110 : 0 ≤ (0 : Int) := (by omega); have q110 : (0 : Int) < ((y198.length : Int) : Int) := of_decide_eq_true (by first | (with_reducible assumption) | assumption); have qi110 : (0 < y198.length) = True := eq_true (by omega); obtain ⟨go110, co110, eo110, gb110, gl110, cl110, HG110⟩ := Kd.R_form HO200.out (by omega); (first | cases eo110 | (injection eo110 with ea_ en_ ec_; (first | subst ea_ | (injection ea_ with ea_; subst ea_)); subst ec_; clear en_)); have GB110 := Ad.mk gb110; have GG110 := Ad.mk HG110; clear gb110 gl110 HG110; obtain ⟨ce110, hcl110, hM110, hcc110, hfr110⟩ := Kd.R_elem HO200.out z44 (0 : Int) p110 q110; obtain rfl := k44_openM hM110; have hx110_0 : w133.cell? ⟨go110, (0 : Int).toNat * 2, none⟩ = some (.int .i64 ((rd_T44 y198 0).f0)) := hcc110 0 _ rfl; have hx110_1 : w133.cell? ⟨go110, (0 : Int).toNat * 2 + 1, none⟩ = some (.int .i64 ((rd_T44 y198 0).f1)) := hcc110 1 _ rfl; have hf110_0 : w133.frozen? ⟨go110, (0 : Int).toNat * 2, none⟩ = false := hfr110 0; have hf110_1 : w133.frozen? ⟨go110, (0 : Int).toNat * 2 + 1, none⟩ = false := hfr110 1; clear hcl110 hcc110 hfr110 hM110; (try rw [show ((0 : Int)).toNat = 0 from rfl] at hx110_0); (try simp only [Nat.reduceMul, Nat.zero_mul, Nat.zero_add, Nat.reduceAdd] at hx110_0); (try rw [show ((0 : Int)).toNat = 0 from rfl] at hf110_0); (try simp only [Nat.reduceMul, Nat.zero_mul, Nat.zero_add, Nat.reduceAdd] at hf110_0); (try rw [show ((0 : Int)).toNat = 0 from rfl] at hx110_1); (try simp only [Nat.reduceMul, Nat.zero_mul, Nat.zero_add, Nat.reduceAdd] at hx110_1); (try rw [show ((0 : Int)).toNat = 0 from rfl] at hf110_1); (try simp only [Nat.reduceMul, Nat.zero_mul, Nat.zero_add, Nat.reduceAdd] at hf110_1); replace p110 := eq_true p110; replace q110 := eq_true q110; have n_ := Ad.mk (Kd.R_mono (ok' := (fun k_ => some k_ ≠ (.slice Ao6 y170.length co6 : Value).ownBlock ∧ some k_ ≠ (.slice Ao122 t189.length co122 : Value).ownBlock ∧ k_ ≠ gb197)) HO200.out (fun k_ hk => ⟨hk.1.1.2, ⟨hk.1.2, hk.2⟩⟩)); clear HO200; have HO200 := n_; clear n_; have HX135 := Ad.mk (show Kd.R k44 44 w133 w.heap.size (fun k_ => some k_ ≠ (.slice Ao6 y170.length co6 : Value).ownBlock ∧ some k_ ≠ (.slice Ao122 t189.length co122 : Value).ownBlock ∧ k_ ≠ gb197) (.slice (some ⟨go110, 0, none⟩) y198.length co131) y198 from (by (with_reducible repeat (first | apply Kd.R_alloc | apply Kd.R_drewN | apply Kd.R_drew)); exact HO200.out)); obtain ⟨ce135, hcl135, hM135, hcc135, hfr135⟩ := Kd.R_elem HX135.out z44 (0 : Int) (by omega) (by have h_ : (0 : Int) < ((y198.length : Int) : Int) := of_decide_eq_true (by first | (with_reducible assumption) | assumption); first | exact h_ | (have e_ := (Kd.R_reads' HO200.out).1; omega) | simpa using h_); obtain rfl := k44_openM hM135; have HP135 := Kd.R_seg HX135.out (0 : Int) (by omega) (by have h_ : (0 : Int) < ((y198.length : Int) : Int) := of_decide_eq_true (by first | (with_reducible assumption) | assumption); first | exact h_ | (have e_ := (Kd.R_reads' HO200.out).1; omega) | simpa using h_) (seg := [.int .i64 37]) (j := 1) hcl135 hcc135 (show 2 ≤ 2 from by decide) (x' := (⟨(rd_T44 y198 0).f0, 37⟩ : S44)) (k44_mkM _ _ _ (⟨(rd_T44 y198 0).f0, 37⟩ : S44) ) (fun _ hk => hk); have hx135_1 := hcc135 1 _ rfl; (try simp only [show (k44).sz = 2 from rfl, Nat.mul_one, Nat.add_zero] at hx135_1); (try rw [show ((0 : Int)).toNat = 0 from rfl] at hx135_1); (try simp only [Nat.reduceMul, Nat.zero_mul, Nat.zero_add, Nat.reduceAdd] at hx135_1); have hf135_1 := hfr135 1; (try simp only [show (k44).sz = 2 from rfl, Nat.mul_one, Nat.add_zero] at hf135_1); (try rw [show ((0 : Int)).toNat = 0 from rfl] at hf135_1); (try simp only [Nat.reduceMul, Nat.zero_mul, Nat.zero_add, Nat.reduceAdd] at hf135_1); clear hcl135 hcc135 hfr135 hM135) | ((with_reducible refine gate_store (t := 3) (p := 103) rfl ?_); refine store_event (t := 3) (p := 103) (v := ?vo_w136) (w1 := (w133.setCell ⟨go110, 1, none⟩ (.int .i64 37))) ?hg ?ho ?hn ?hr ?_; (case ho => rfl); (case hg => rfl); (case hn => rfl); (case hr => first | (go_simp; done) | (go_simp; rfl)); intro w136 hw; have hg : w133.grownBy w136 (some go110) := (by rw [hw]; exact HP135.2); have hp_ : Kd.R k44 44 w136 w.heap.size (fun k_ => some k_ ≠ (.slice Ao6 y170.length co6 : Value).ownBlock ∧ some k_ ≠ (.slice Ao122 t189.length co122 : Value).ownBlock ∧ k_ ≠ gb197) (.slice (some ⟨go110, 0, none⟩) y198.length co131) y203 := (by rw [hw, Ny203.out]; exact HP135.1); clear HP135; have n0_ := Ad.mk (Kd.R_after (v := (.slice (some ⟨go110, 0, none⟩) y198.length co131)) (v1 := (.slice (some ⟨go110, 0, none⟩) y198.length co131)) (ok := (fun k_ => some k_ ≠ (.slice Ao122 t189.length co122 : Value).ownBlock ∧ k_ ≠ gb197)) (by (with_reducible repeat (first | apply Kd.R_alloc | apply Kd.R_drewN | apply Kd.R_drew)); exact Kd.R_mono HO_174002.out (fun _ hk => ⟨⟨hk.1.1.2, hk.1.2⟩, hk.2⟩)) hg (.inl rfl)); have n1_ := Ad.mk (blk_grown (g := gb173) (o := .cells #[.int .i64 36, .int .i64 3900000000, .slice (some ⟨go110, 0, none⟩) y198.length co131] 24 (0, 0)) (by (with_reducible repeat (first | refine bkN ?_ _ | refine bkd ?_ | refine bka ?_ _)); exact BK173.out) hg (Kd.R_ne HO200.out BK173.out (by decide))); have n2_ := Ad.mk (Kd.R_after (v := (.slice (some ⟨go110, 0, none⟩) y198.length co131)) (v1 := (.slice (some ⟨go110, 0, none⟩) y198.length co131)) (ok := (fun k_ => some k_ ≠ (.slice Ao6 y170.length co6 : Value).ownBlock ∧ k_ ≠ gb197)) (by (with_reducible repeat (first | apply Kd.R_alloc | apply Kd.R_drewN | apply Kd.R_drew)); exact Kd.R_mono HO191.out (fun _ hk => ⟨⟨hk.1.1.2, hk.1.2⟩, hk.2⟩)) hg (.inl rfl)); have n3_ := Ad.mk (blk_grown (g := gb193) (o := .cells #[.int .i64 t187, .int .i64 t188, .slice Ao122 t189.length co122] 24 (0, 0)) (by (with_reducible repeat (first | refine bkN ?_ _ | refine bkd ?_ | refine bka ?_ _)); exact BK193.out) hg (Kd.R_ne HO200.out BK193.out (by decide))); have n4_ := Ad.mk (blk_grown (g := gb197) (o := .cells #[.int .i64 t194, .int .i64 t195] 44 (0, 0)) (by (with_reducible repeat (first | refine bkN ?_ _ | refine bkd ?_ | refine bka ?_ _)); exact BK197.out) hg (Kd.R_away HO200.out (fun _ hk => hk.2.2))); have n5_ := Ad.mk (hp_); have n6_ := Ad.mk ((by rw [hw]; exact pbs (HB.out) GB110.out : Below w.heap.size w w136)); clear HO_174002; clear BK173; clear HO191; clear BK193; clear BK197; clear HO200; clear HB; have HO_174002 := n0_; have BK173 := n1_; have HO191 := n2_; have BK193 := n3_; have BK197 := n4_; have HO200 := n5_; have HB := n6_; clear n0_ n1_ n2_ n3_ n4_ n5_ n6_; clear hg hw hp_))
             have n0_ := Ad.mk (Kd.R_drew HO_174002.out)
             have n1_ := Ad.mk (Kd.R_drew HO191.out)
             have n2_ := Ad.mk (Kd.R_drew HO200.out)
             have n3_ := Ad.mk (bkd BK173.out)
             have n4_ := Ad.mk (bkd BK193.out)
             have n5_ := Ad.mk (bkd BK197.out)
             have n6_ := Ad.mk (pb1 HB.out)
             clear HO_174002
             clear HO191
             clear HO200
             clear BK173
             clear BK193
             clear BK197
             clear HB
             have HO_174002 := n0_
             have HO191 := n1_
             have HO200 := n2_
             have BK173 := n3_
             have BK193 := n4_
             have BK197 := n5_
             have HB := n6_
             clear n0_ n1_ n2_ n3_ n4_ n5_ n6_
             have p206 : 0 ≤ (0 : Int) := (by omega)
             have q206 : 0 < (y203.length : Int) := (by have h_ : (0 : Int) < ((y198.length : Int) : Int) := of_decide_eq_true (by first | (with_reducible assumption) | assumption); first | (have e_ := (Kd.R_reads' HO200.out).1; omega) | simpa only [Ny203.out, List.length_set] using h_)
             have ql206 : ((0 : Int) < ((y198.length : Int) : Int)) = True := eq_true (of_decide_eq_true (by first | (with_reducible assumption) | assumption))
             (try have qn206 : (0 < y198.length) = True := eq_true (by have h_ : (0 : Int) < ((y198.length : Int) : Int) := of_decide_eq_true (by first | (with_reducible assumption) | assumption); omega))
             obtain ⟨ad206, e206, hx206_0, hx206_1⟩ := at_T44 (Kd.R_reads' HO200.out).2.2 0 p206 q206
             obtain rfl : (⟨go110, 0, none⟩ : Addr) = ad206 := (by injection e206)
             (first | simp only [add_plain] at hx206_0 | simp only [add_at] at hx206_0 | simp only [Addr.add, Nat.zero_add] at hx206_0 | skip)
             (first | simp only [add_plain] at hx206_1 | simp only [add_at] at hx206_1 | simp only [Addr.add, Nat.zero_add] at hx206_1 | skip)
             have qi206 : (0 < y203.length) = True := eq_true (by omega)
             (try rw [show ((0 : Int)).toNat = 0 from rfl] at hx206_0)
             (try rw [show 0 * 2 = 0 from rfl] at hx206_0)
             (try rw [Addr.add_zero'] at hx206_0)
             (try rw [show ((0 : Int)).toNat = 0 from rfl] at hx206_1)
             (try rw [show 0 * 2 = 0 from rfl] at hx206_1)
             (try rw [Addr.add_zero'] at hx206_1)
             replace p206 := eq_true p206
             replace q206 := eq_true q206
             refine start_ (n := 28) (S := fun w' => w'.cell? ⟨gb173, 0, none⟩ = some (.int .i64 36) ∧ w'.cell? ⟨gb173, 1, none⟩ = some (.int .i64 3900000000) ∧ w'.cell? ⟨gb173, 2, none⟩ = some (.slice (some ⟨go110, 0, none⟩) y198.length co131) ∧ w'.cell? ⟨gb193, 0, none⟩ = some (.int .i64 t187) ∧ w'.cell? ⟨gb193, 1, none⟩ = some (.int .i64 t188) ∧ w'.cell? ⟨gb193, 2, none⟩ = some (.slice Ao122 t189.length co122) ∧ w'.cell? ⟨gb197, 0, none⟩ = some (.int .i64 t194) ∧ w'.cell? ⟨gb197, 1, none⟩ = some (.int .i64 t195) ∧ w'.cell? ⟨go110, 0, none⟩ = some (.int .i64 ((rd_T44 y203 0).f0)) ∧ w'.cell? ⟨go110, 1, none⟩ = some (.int .i64 ((rd_T44 y203 0).f1))) (ds := []) #[false, false, false, false, false, false, false, false, false, false, false, false, false, false, false, false, false, false, false, false, false, false, false, false, false, false, false, false] (by kernel_rfl) rfl rfl ⟨(bcl BK173.out 0).trans rfl, (bcl BK173.out 1).trans rfl, (bcl BK173.out 2).trans rfl, (bcl BK193.out 0).trans rfl, (bcl BK193.out 1).trans rfl, (bcl BK193.out 2).trans rfl, (bcl BK197.out 0).trans rfl, (bcl BK197.out 1).trans rfl, hx206_0, hx206_1⟩ (fun hHeld => ?_); refine with_tabW w6_awake.tab13 w6_awake.bits13 (fun HT_ HW_ => ?_)
             generalize w136.drew = w137 at HO_174002 HO191 HO200 BK173 BK193 BK197 HB hx206_0 hx206_1 hHeld ⊢
             refine take_ (i := 0) (N := some 104) (v := ?_) (a' := ?_) #[true, false, false, false, false, false, false, false, false, false, false, false, false, false, false, false, false, false, false, false, false, false, false, false, false, false, false, false] rfl rfl (take_ofW HT_.out HW_.out (by kernel_rfl)) (fun _ _ _ h => h) (Or.inl ⟨by rfl, ?_⟩) hHeld ?_ ?_
             rotate_left
             ·rintro w' ⟨s0, s1, s2, s3, s4, s5, s6, s7, s8, s9⟩
              go_simp
              with_reducible rfl
             rotate_left
             ·simp only [Act.put, sA, sB, sC, i64_w, i32_w]
              rfl
             refine one_ (i := 1) (N := some 105) #[true, true, false, false, false, false, false, false, false, false, false, false, false, false, false, false, false, false, false, false, false, false, false, false, false, false, false, false] rfl rfl (one_of HT_.out (by kernel_rfl)) (by decide) (fun K hK => ?_)
             refine goes_ Tryd.func19 (by kernel_rfl) rfl #[.agg #[.int .i64 36, .int .i64 3900000000, .slice (some ⟨go110, 0, none⟩) y203.length co131]] (by rfl) rfl rfl (by (try simp only [List.map_toArray, List.map_cons, List.map_nil]); first | done | (rw [show y203.length = y198.length from (Kd.R_reads' HO200.out).1.symm] <;> rfl) | rfl | (simp only [List.length_drop, List.length_take]; rfl)) ?_
             with_reducible refine (leap_Text.calls 36 3900000000 _ _ y203 t204 _ ?side3 ?side1 ?side2 A111.out).mono ?_
             (case side1 => repeat (first | exact (Kd.R_reads' HO200.out).2.2 | (with_reducible refine Kd.C_alloc ?_ _) | (with_reducible refine Kd.C_drewN ?_ _) | (with_reducible refine Kd.C_drew ?_)))
             (case side2 => rw [show y203.length = y198.length from (Kd.R_reads' HO200.out).1.symm]; exact (Kd.R_reads' HO200.out).2.1)
             (case side3 => exact HG.out.below (by repeat (first | (with_reducible first | exact HB.out | apply pba | apply pbN | apply pb1 | refine pbs ?_ GE173.out | refine pbs ?_ GE193.out | refine pbs ?_ GE197.out) | exact HB.out)))
             rintro e w138 ⟨rfl, hb⟩
             have HS8_ := (hb.cell (World.block_lt_of_cell? _ _ (hHeld.2.2.2.2.2.2.2.2.1))).trans (hHeld.2.2.2.2.2.2.2.2.1)
             have HS9_ := (hb.cell (World.block_lt_of_cell? _ _ (hHeld.2.2.2.2.2.2.2.2.2))).trans (hHeld.2.2.2.2.2.2.2.2.2)
             refine ⟨_, rfl, ?_⟩
             have n0_ := Ad.mk (Kd.R_below (by (with_reducible repeat (first | apply Kd.R_alloc | apply Kd.R_drewN | apply Kd.R_drew)); exact HO_174002.out) hb)
             have n1_ := Ad.mk (Kd.R_below (by (with_reducible repeat (first | apply Kd.R_alloc | apply Kd.R_drewN | apply Kd.R_drew)); exact HO191.out) hb)
             have n2_ := Ad.mk (Kd.R_below (by (with_reducible repeat (first | apply Kd.R_alloc | apply Kd.R_drewN | apply Kd.R_drew)); exact HO200.out) hb)
             have n3_ := Ad.mk (bbl (g := gb173) (o := .cells #[.int .i64 36, .int .i64 3900000000, .slice (some ⟨go110, 0, none⟩) y198.length co131] 24 (0, 0)) (by (with_reducible repeat (first | refine bkN ?_ _ | refine bkd ?_ | refine bka ?_ _)); exact BK173.out) hb)
             have n4_ := Ad.mk (bbl (g := gb193) (o := .cells #[.int .i64 t187, .int .i64 t188, .slice Ao122 t189.length co122] 24 (0, 0)) (by (with_reducible repeat (first | refine bkN ?_ _ | refine bkd ?_ | refine bka ?_ _)); exact BK193.out) hb)
             have n5_ := Ad.mk (bbl (g := gb197) (o := .cells #[.int .i64 t194, .int .i64 t195] 44 (0, 0)) (by (with_reducible repeat (first | refine bkN ?_ _ | refine bkd ?_ | refine bka ?_ _)); exact BK197.out) hb)
             have n6_ := Ad.mk (pbt (by repeat (first | (with_reducible first | exact HB.out | apply pba | apply pbN | apply pb1 | refine pbs ?_ GE173.out | refine pbs ?_ GE193.out | refine pbs ?_ GE197.out) | exact HB.out)) hb)
             clear HO_174002
             clear HO191
             clear HO200
             clear BK173
             clear BK193
             clear BK197
             clear HB
             have HO_174002 := n0_
             have HO191 := n1_
             have HO200 := n2_
             have BK173 := n3_
             have BK193 := n4_
             have BK197 := n5_
             have HB := n6_
             clear n0_ n1_ n2_ n3_ n4_ n5_ n6_
             (try clear hb)
             (try clear hb2)
             (try clear hk)
             (try clear hi)
             refine hK.out _ _ ⟨(bcl BK173.out 0).trans rfl, (bcl BK173.out 1).trans rfl, (bcl BK173.out 2).trans rfl, (bcl BK193.out 0).trans rfl, (bcl BK193.out 1).trans rfl, (bcl BK193.out 2).trans rfl, (bcl BK197.out 0).trans rfl, (bcl BK197.out 1).trans rfl, HS8_, HS9_⟩ (fun hHeld => ?_)
             clear hK K
             refine norm_ (a' := ?_) ?_ ?_
             rotate_left
             ·show Act.put _ (some 105) _ = _
              simp only [Act.put, sA, sB, sC, i64_w, i32_w]
              rfl
             refine pure_ (i := 2) (N := some 106) (v := ?_) (a' := ?_) #[true, true, true, false, false, false, false, false, false, false, false, false, false, false, false, false, false, false, false, false, false, false, false, false, false, false, false, false] rfl rfl (any_of HT_.out (by kernel_rfl)) (fun _ _ _ h => h) (Or.inl ⟨by rfl, ?_⟩) ?_ ?_
             rotate_left
             ·intro w'
              go_simp
              with_reducible rfl
             rotate_left
             ·simp only [Act.put, sA, sB, sC, i64_w, i32_w]
              rfl
             refine pure_ (i := 3) (N := some 107) (v := ?_) (a' := ?_) #[true, true, true, true, false, false, false, false, false, false, false, false, false, false, false, false, false, false, false, false, false, false, false, false, false, false, false, false] rfl rfl (any_of HT_.out (by kernel_rfl)) (fun _ _ _ h => h) (Or.inl ⟨by rfl, ?_⟩) ?_ ?_
             rotate_left
             ·intro w'
              go_simp
              with_reducible rfl
             rotate_left
             ·simp only [Act.put, sA, sB, sC, i64_w, i32_w]
              rfl
             refine take_ (i := 4) (N := some 108) (v := ?_) (a' := ?_) #[true, true, true, true, true, false, false, false, false, false, false, false, false, false, false, false, false, false, false, false, false, false, false, false, false, false, false, false] rfl rfl (take_ofW HT_.out HW_.out (by kernel_rfl)) (fun _ _ _ h => h) (Or.inl ⟨by rfl, ?_⟩) hHeld ?_ ?_
             rotate_left
             ·rintro w' ⟨s0, s1, s2, s3, s4, s5, s6, s7, s8, s9⟩
              go_simp
              with_reducible rfl
             rotate_left
             ·simp only [Act.put, sA, sB, sC, i64_w, i32_w]
              rfl
             refine take_ (i := 5) (N := some 109) (v := ?_) (a' := ?_) #[true, true, true, true, true, true, false, false, false, false, false, false, false, false, false, false, false, false, false, false, false, false, false, false, false, false, false, false] rfl rfl (take_ofW HT_.out HW_.out (by kernel_rfl)) (fun _ _ _ h => h) (Or.inl ⟨by rfl, ?_⟩) hHeld ?_ ?_
             rotate_left
             ·rintro w' ⟨s0, s1, s2, s3, s4, s5, s6, s7, s8, s9⟩
              go_simp
              with_reducible rfl
             rotate_left
             ·simp only [Act.put, sA, sB, sC, i64_w, i32_w]
              rfl
             refine one_ (i := 6) (N := some 110) #[true, true, true, true, true, true, true, false, false, false, false, false, false, false, false, false, false, false, false, false, false, false, false, false, false, false, false, false] rfl rfl (one_of HT_.out (by kernel_rfl)) (by decide) (fun K hK => ?_)
             refine goes_ Tryd.func20 (by kernel_rfl) rfl #[.agg #[.int .i64 t187, .int .i64 t188, .slice Ao122 t189.length co122], .agg #[.int .i64 36, .int .i64 3900000000, .slice (some ⟨go110, 0, none⟩) y203.length co131]] (by rfl) rfl rfl (by (try simp only [List.map_toArray, List.map_cons, List.map_nil]); first | done | (rw [show y203.length = y198.length from (Kd.R_reads' HO200.out).1.symm] <;> rfl) | rfl | (simp only [List.length_drop, List.length_take]; rfl)) ?_
             with_reducible refine (w6_same.calls kj64 t187 t188 _ _ t189 36 3900000000 _ _ y203 true _ ?side1 ?side2 ?side3 ?side4 A113.out).mono ?_
             (case side1 => repeat (first | exact (Kd.R_reads' HO191.out).2.2 | (with_reducible refine Kd.C_alloc ?_ _) | (with_reducible refine Kd.C_drewN ?_ _) | (with_reducible refine Kd.C_drew ?_)))
             (case side2 => exact (Kd.R_reads' HO191.out).2.1)
             (case side3 => repeat (first | exact (Kd.R_reads' HO200.out).2.2 | (with_reducible refine Kd.C_alloc ?_ _) | (with_reducible refine Kd.C_drewN ?_ _) | (with_reducible refine Kd.C_drew ?_)))
             (case side4 => rw [show y203.length = y198.length from (Kd.R_reads' HO200.out).1.symm]; exact (Kd.R_reads' HO200.out).2.1)
             rintro e w139 ⟨rfl, hb⟩
             have HS8_ := (hb.cell (World.block_lt_of_cell? _ _ (hHeld.2.2.2.2.2.2.2.2.1))).trans (hHeld.2.2.2.2.2.2.2.2.1)
             have HS9_ := (hb.cell (World.block_lt_of_cell? _ _ (hHeld.2.2.2.2.2.2.2.2.2))).trans (hHeld.2.2.2.2.2.2.2.2.2)
             refine ⟨_, rfl, ?_⟩
             have n0_ := Ad.mk (Kd.R_below (by (with_reducible repeat (first | apply Kd.R_alloc | apply Kd.R_drewN | apply Kd.R_drew)); exact HO_174002.out) hb)
             have n1_ := Ad.mk (Kd.R_below (by (with_reducible repeat (first | apply Kd.R_alloc | apply Kd.R_drewN | apply Kd.R_drew)); exact HO191.out) hb)
             have n2_ := Ad.mk (Kd.R_below (by (with_reducible repeat (first | apply Kd.R_alloc | apply Kd.R_drewN | apply Kd.R_drew)); exact HO200.out) hb)
             have n3_ := Ad.mk (bbl (g := gb173) (o := .cells #[.int .i64 36, .int .i64 3900000000, .slice (some ⟨go110, 0, none⟩) y198.length co131] 24 (0, 0)) (by (with_reducible repeat (first | refine bkN ?_ _ | refine bkd ?_ | refine bka ?_ _)); exact BK173.out) hb)
             have n4_ := Ad.mk (bbl (g := gb193) (o := .cells #[.int .i64 t187, .int .i64 t188, .slice Ao122 t189.length co122] 24 (0, 0)) (by (with_reducible repeat (first | refine bkN ?_ _ | refine bkd ?_ | refine bka ?_ _)); exact BK193.out) hb)
             have n5_ := Ad.mk (bbl (g := gb197) (o := .cells #[.int .i64 t194, .int .i64 t195] 44 (0, 0)) (by (with_reducible repeat (first | refine bkN ?_ _ | refine bkd ?_ | refine bka ?_ _)); exact BK197.out) hb)
             have n6_ := Ad.mk (pbt (by repeat (first | (with_reducible first | exact HB.out | apply pba | apply pbN | apply pb1 | refine pbs ?_ GE173.out | refine pbs ?_ GE193.out | refine pbs ?_ GE197.out) | exact HB.out)) hb)
             clear HO_174002
             clear HO191
             clear HO200
             clear BK173
             clear BK193
             clear BK197
             clear HB
             have HO_174002 := n0_
             have HO191 := n1_
             have HO200 := n2_
             have BK173 := n3_
             have BK193 := n4_
             have BK197 := n5_
             have HB := n6_
             clear n0_ n1_ n2_ n3_ n4_ n5_ n6_
             (try clear hb)
             (try clear hb2)
             (try clear hk)
             (try clear hi)
             refine hK.out _ _ ⟨(bcl BK173.out 0).trans rfl, (bcl BK173.out 1).trans rfl, (bcl BK173.out 2).trans rfl, (bcl BK193.out 0).trans rfl, (bcl BK193.out 1).trans rfl, (bcl BK193.out 2).trans rfl, (bcl BK197.out 0).trans rfl, (bcl BK197.out 1).trans rfl, HS8_, HS9_⟩ (fun hHeld => ?_)
             clear hK K
             refine norm_ (a' := ?_) ?_ ?_
             rotate_left
             ·show Act.put _ (some 110) _ = _
              simp only [Act.put, sA, sB, sC, i64_w, i32_w]
              rfl
             refine pure_ (i := 7) (N := some 111) (v := ?_) (a' := ?_) #[true, true, true, true, true, true, true, true, false, false, false, false, false, false, false, false, false, false, false, false, false, false, false, false, false, false, false, false] rfl rfl (any_of HT_.out (by kernel_rfl)) (fun _ _ _ h => h) (Or.inl ⟨by rfl, ?_⟩) ?_ ?_
             rotate_left
             ·intro w'
              go_simp
              with_reducible rfl
             rotate_left
             ·simp only [Act.put, sA, sB, sC, i64_w, i32_w]
              rfl
             refine pure_ (i := 8) (N := some 112) (v := ?_) (a' := ?_) #[true, true, true, true, true, true, true, true, true, false, false, false, false, false, false, false, false, false, false, false, false, false, false, false, false, false, false, false] rfl rfl (any_of HT_.out (by kernel_rfl)) (fun _ _ _ h => h) (Or.inl ⟨by rfl, ?_⟩) ?_ ?_
             rotate_left
             ·intro w'
              go_simp
              with_reducible rfl
             rotate_left
             ·simp only [Act.put, sA, sB, sC, i64_w, i32_w]
              rfl
             refine pure_ (i := 9) (N := some 113) (v := ?_) (a' := ?_) #[true, true, true, true, true, true, true, true, true, true, false, false, false, false, false, false, false, false, false, false, false, false, false, false, false, false, false, false] rfl rfl (any_of HT_.out (by kernel_rfl)) (fun _ _ _ h => h) (Or.inl ⟨by rfl, ?_⟩) ?_ ?_
             rotate_left
             ·intro w'
              go_simp
              with_reducible rfl
             rotate_left
             ·simp only [Act.put, sA, sB, sC, i64_w, i32_w]
              rfl
             refine pure_ (i := 10) (N := some 114) (v := ?_) (a' := ?_) #[true, true, true, true, true, true, true, true, true, true, true, false, false, false, false, false, false, false, false, false, false, false, false, false, false, false, false, false] rfl rfl (any_of HT_.out (by kernel_rfl)) (fun _ _ _ h => h) (Or.inl ⟨by rfl, ?_⟩) ?_ ?_
             rotate_left
             ·intro w'
              go_simp
              with_reducible rfl
             rotate_left
             ·simp only [Act.put, sA, sB, sC, i64_w, i32_w]
              rfl
             refine pure_ (i := 11) (N := some 115) (v := ?_) (a' := ?_) #[true, true, true, true, true, true, true, true, true, true, true, true, false, false, false, false, false, false, false, false, false, false, false, false, false, false, false, false] rfl rfl (any_of HT_.out (by kernel_rfl)) (fun _ _ _ h => h) (Or.inl ⟨by rfl, ?_⟩) ?_ ?_
             rotate_left
             ·intro w'
              go_simp
              with_reducible rfl
             rotate_left
             ·simp only [Act.put, sA, sB, sC, i64_w, i32_w]
              rfl
             refine pure_ (i := 12) (N := some 116) (v := ?_) (a' := ?_) #[true, true, true, true, true, true, true, true, true, true, true, true, true, false, false, false, false, false, false, false, false, false, false, false, false, false, false, false] rfl rfl (any_of HT_.out (by kernel_rfl)) (fun _ _ _ h => h) (Or.inl ⟨by rfl, ?_⟩) ?_ ?_
             rotate_left
             ·intro w'
              go_simp
              with_reducible rfl
             rotate_left
             ·simp only [Act.put, sA, sB, sC, i64_w, i32_w]
              rfl
             refine pure_ (i := 14) (N := some 118) (v := ?_) (a' := ?_) #[true, true, true, true, true, true, true, true, true, true, true, true, true, false, true, false, false, false, false, false, false, false, false, false, false, false, false, false] rfl rfl (any_of HT_.out (by kernel_rfl)) (fun _ _ _ h => h) (Or.inl ⟨by rfl, ?_⟩) ?_ ?_
             rotate_left
             ·intro w'
              go_simp
              with_reducible rfl
             rotate_left
             ·simp only [Act.put, sA, sB, sC, i64_w, i32_w]
              rfl
             refine take_ (i := 13) (N := some 117) (v := ?_) (a' := ?_) #[true, true, true, true, true, true, true, true, true, true, true, true, true, true, true, false, false, false, false, false, false, false, false, false, false, false, false, false] rfl rfl (take_ofW HT_.out HW_.out (by kernel_rfl)) (fun _ _ _ h => h) (Or.inl ⟨by rfl, ?_⟩) hHeld ?_ ?_
             rotate_left
             ·rintro w' ⟨s0, s1, s2, s3, s4, s5, s6, s7, s8, s9⟩
              go_simp
              with_reducible rfl
             rotate_left
             ·simp only [Act.put, sA, sB, sC, i64_w, i32_w]
              rfl
             refine take_ (i := 15) (N := some 119) (v := ?_) (a' := ?_) #[true, true, true, true, true, true, true, true, true, true, true, true, true, true, true, true, false, false, false, false, false, false, false, false, false, false, false, false] rfl rfl (take_ofW HT_.out HW_.out (by kernel_rfl)) (fun _ _ _ h => h) (Or.inl ⟨by rfl, ?_⟩) hHeld ?_ ?_
             rotate_left
             ·rintro w' ⟨s0, s1, s2, s3, s4, s5, s6, s7, s8, s9⟩
              go_simp
              with_reducible rfl
             rotate_left
             ·simp only [Act.put, sA, sB, sC, i64_w, i32_w]
              rfl
             refine pure_ (i := 16) (N := some 120) (v := ?_) (a' := ?_) #[true, true, true, true, true, true, true, true, true, true, true, true, true, true, true, true, true, false, false, false, false, false, false, false, false, false, false, false] rfl rfl (any_of HT_.out (by kernel_rfl)) (fun _ _ _ h => h) (Or.inl ⟨by rfl, ?_⟩) ?_ ?_
             rotate_left
             ·intro w'
              go_simp
              with_reducible rfl
             rotate_left
             ·simp only [Act.put, sA, sB, sC, i64_w, i32_w]
              rfl
             refine take_ (i := 17) (N := some 121) (v := ?_) (a' := ?_) #[true, true, true, true, true, true, true, true, true, true, true, true, true, true, true, true, true, true, false, false, false, false, false, false, false, false, false, false] rfl rfl (take_ofW HT_.out HW_.out (by kernel_rfl)) (fun _ _ _ h => h) (Or.inl ⟨by rfl, ?_⟩) hHeld ?_ ?_
             rotate_left
             ·rintro w' ⟨s0, s1, s2, s3, s4, s5, s6, s7, s8, s9⟩
              go_simp
              with_reducible rfl
             rotate_left
             ·simp only [Act.put, sA, sB, sC, i64_w, i32_w]
              rfl
             refine pure_ (i := 18) (N := some 122) (v := ?_) (a' := ?_) #[true, true, true, true, true, true, true, true, true, true, true, true, true, true, true, true, true, true, true, false, false, false, false, false, false, false, false, false] rfl rfl (any_of HT_.out (by kernel_rfl)) (fun _ _ _ h => h) (Or.inl ⟨by rfl, ?_⟩) ?_ ?_
             rotate_left
             ·intro w'
              go_simp
              with_reducible rfl
             rotate_left
             ·simp only [Act.put, sA, sB, sC, i64_w, i32_w]
              rfl
             refine pure_ (i := 19) (N := some 123) (v := ?_) (a' := ?_) #[true, true, true, true, true, true, true, true, true, true, true, true, true, true, true, true, true, true, true, true, false, false, false, false, false, false, false, false] rfl rfl (any_of HT_.out (by kernel_rfl)) (fun _ _ _ h => h) (Or.inl ⟨by rfl, ?_⟩) ?_ ?_
             rotate_left
             ·intro w'
              go_simp
              with_reducible rfl
             rotate_left
             ·simp only [Act.put, sA, sB, sC, i64_w, i32_w]
              rfl
             refine pure_ (i := 20) (N := some 124) (v := ?_) (a' := ?_) #[true, true, true, true, true, true, true, true, true, true, true, true, true, true, true, true, true, true, true, true, true, false, false, false, false, false, false, false] rfl rfl (any_of HT_.out (by kernel_rfl)) (fun _ _ _ h => h) (Or.inl ⟨by rfl, ?_⟩) ?_ ?_
             rotate_left
             ·intro w'
              go_simp
              with_reducible rfl
             rotate_left
             ·simp only [Act.put, sA, sB, sC, i64_w, i32_w]
              rfl
             refine pure_ (i := 21) (N := some 125) (v := ?_) (a' := ?_) #[true, true, true, true, true, true, true, true, true, true, true, true, true, true, true, true, true, true, true, true, true, true, false, false, false, false, false, false] rfl rfl (any_of HT_.out (by kernel_rfl)) (fun _ _ _ h => h) (Or.inl ⟨by rfl, ?_⟩) ?_ ?_
             rotate_left
             ·intro w'
              go_simp
              with_reducible rfl
             rotate_left
             ·simp only [Act.put, sA, sB, sC, i64_w, i32_w]
              rfl
             refine pure_ (i := 22) (N := some 126) (v := ?_) (a' := ?_) #[true, true, true, true, true, true, true, true, true, true, true, true, true, true, true, true, true, true, true, true, true, true, true, false, false, false, false, false] rfl rfl (any_of HT_.out (by kernel_rfl)) (fun _ _ _ h => h) (Or.inl ⟨by rfl, ?_⟩) ?_ ?_
             rotate_left
             ·intro w'
              go_simp
              with_reducible rfl
             rotate_left
             ·simp only [Act.put, sA, sB, sC, i64_w, i32_w]
              rfl
             refine pure_ (i := 23) (N := some 127) (v := ?_) (a' := ?_) #[true, true, true, true, true, true, true, true, true, true, true, true, true, true, true, true, true, true, true, true, true, true, true, true, false, false, false, false] rfl rfl (any_of HT_.out (by kernel_rfl)) (fun _ _ _ h => h) (Or.inl ⟨by rfl, ?_⟩) ?_ ?_
             rotate_left
             ·intro w'
              go_simp
              with_reducible rfl
             rotate_left
             ·simp only [Act.put, sA, sB, sC, i64_w, i32_w]
              rfl
             refine pure_ (i := 24) (N := some 128) (v := ?_) (a' := ?_) #[true, true, true, true, true, true, true, true, true, true, true, true, true, true, true, true, true, true, true, true, true, true, true, true, true, false, false, false] rfl rfl (any_of HT_.out (by kernel_rfl)) (fun _ _ _ h => h) (Or.inl ⟨by rfl, ?_⟩) ?_ ?_
             rotate_left
             ·intro w'
              go_simp
              with_reducible rfl
             rotate_left
             ·simp only [Act.put, sA, sB, sC, i64_w, i32_w]
              rfl
             refine pure_ (i := 25) (N := some 129) (v := ?_) (a' := ?_) #[true, true, true, true, true, true, true, true, true, true, true, true, true, true, true, true, true, true, true, true, true, true, true, true, true, true, false, false] rfl rfl (any_of HT_.out (by kernel_rfl)) (fun _ _ _ h => h) (Or.inl ⟨by rfl, ?_⟩) ?_ ?_
             rotate_left
             ·intro w'
              go_simp
              with_reducible rfl
             rotate_left
             ·simp only [Act.put, sA, sB, sC, i64_w, i32_w]
              rfl
             refine pure_ (i := 26) (N := some 130) (v := ?_) (a' := ?_) #[true, true, true, true, true, true, true, true, true, true, true, true, true, true, true, true, true, true, true, true, true, true, true, true, true, true, true, false] rfl rfl (any_of HT_.out (by kernel_rfl)) (fun _ _ _ h => h) (Or.inl ⟨by rfl, ?_⟩) ?_ ?_
             rotate_left
             ·intro w'
              go_simp
              with_reducible rfl
             rotate_left
             ·simp only [Act.put, sA, sB, sC, i64_w, i32_w]
              rfl
             refine pure_ (i := 27) (N := some 0) (v := ?_) (a' := ?_) #[true, true, true, true, true, true, true, true, true, true, true, true, true, true, true, true, true, true, true, true, true, true, true, true, true, true, true, true] rfl rfl (any_of HT_.out (by kernel_rfl)) (fun _ _ _ h => h) (Or.inl ⟨by rfl, ?_⟩) ?_ ?_
             rotate_left
             ·intro w'
              go_simp
              with_reducible rfl
             rotate_left
             ·simp only [Act.put, sA, sB, sC, i64_w, i32_w]
              rfl
             refine done_ (done_of HT_.out (by kernel_rfl)) ?_
             try go_wp2
             go_ret
             exact ⟨by first | rfl | (simp [ewn, ews] <;> rfl) | (simp [*, ewn, ews] <;> rfl), by repeat (first | (with_reducible first | exact HB.out | apply pba | apply pbN | apply pb1 | refine pbs ?_ GE173.out | refine pbs ?_ GE193.out | refine pbs ?_ GE197.out) | exact HB.out)⟩
            ·replace c117 := Bool.eq_false_iff.mpr c117
             subst c117
             have H1 : (some false) = some r := by rw [if_neg (show ¬ (false = true) by decide)] at H; exact H
             exact (awake_f_bad H1 HRT.out).elim
           ·rw [if_neg c116] at H
            exact (awake_f_bad H HRT.out).elim
          ·rw [if_neg c115] at H
           exact (awake_f_bad H HRT.out).elim
         ·replace c114 := Bool.eq_false_iff.mpr c114
          subst c114
          have H1 : (some false) = some r := by rw [if_neg (show ¬ (false = true) by decide)] at H; exact H
          exact (awake_f_bad H1 HRT.out).elim
        ·rw [if_neg c112] at H
         exact (awake_f_bad H HRT.out).elim
       ·rw [if_neg c109] at H
        cases H
end Go.Proofs.YtipbkcilpnlgnaaDoor.M
