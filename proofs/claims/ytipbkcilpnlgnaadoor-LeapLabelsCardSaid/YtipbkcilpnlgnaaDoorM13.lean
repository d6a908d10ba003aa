-- printed
-- tight (tight.py)
import Derived.Test.YtipbkcilpnlgnaaDoorM0
import Derived.Test.YtipbkcilpnlgnaaDoorMD
import Derived.Test.YtipbkcilpnlgnaaDoorM12
namespace Go.Proofs.YtipbkcilpnlgnaaDoor.M
open Go.RowKit Go.Proofs.YtipbkcilpnlgnaaDoorG Go.Proofs.YtipbkcilpnlgnaaDoorW.PA Go.Proofs.YtipbkcilpnlgnaaDoorW.PB Go.Proofs.YtipbkcilpnlgnaaDoorW.PC
attribute [local go_sem] max2_int min2_int max_two min_two max_three min_three max_four min_four   -- for this text's walks alone
set_option linter.unusedVariables false
set_option linter.unusedSimpArgs false

/-! ### r01_MulDiv: function 84 -/
set_option maxHeartbeats 8000000 in
set_option maxRecDepth 100000 in
theorem r01_MulDiv.calls (k : Nat) (a0 : Int) (a1 : Int) (a2 : Int) (r1 : Int) (r2 : Bool) (w : World) (h : r01_MulDiv.f k a0 a1 a2 = some (r1, r2)) :
  Calls Tryd.prog 84 #[.int .i64 a0, .int .i64 a1, .int .i64 a2] w fun e w' => e = .returned (.tuple #[.int .i64 r1, .bool r2]) ∧ Drawn0 w w' := by
 have H : (if a2 = 0 then (some (0, false)) else ((r01_size.f a0).bind fun t207 => ((r01_size.f a1).bind fun t208 => ((r01_product.f t207 t208).bind fun bt209 => ((r01_size.f a2).bind fun t211 => ((r01_divide.f k bt209.1 bt209.2 t211).bind fun bt212 => (if (((decide (a0 < 0)) != (decide (a1 < 0))) != (decide (a2 < 0))) = true then (r01_MulDiv.j0 k bt212.1 bt212.2.1 (((decide (a0 < 0)) != (decide (a1 < 0))) != (decide (a2 < 0))) (decide (bt212.2.2 > 0))) else (r01_MulDiv.j0 k bt212.1 bt212.2.1 (((decide (a0 < 0)) != (decide (a1 < 0))) != (decide (a2 < 0))) false)))))))) = some (r1, r2) := h
 clear h
 by_cases c4 : a2 = 0
 ·rw [if_pos c4] at H
  have c4b0 : (a2 == 0) = true := beq_iff_eq.mpr c4
  have c4b1 : (a2 != 0) = false := bne_eq_false_iff_eq.mpr c4
  clear c4
  simp only [Option.some.injEq, Prod.mk.injEq] at H
  obtain ⟨rfl, rfl⟩ := H
  go_enter Tryd.func84, Tryd.ntmps84
  go_wp2
  go_ret2
  exact ⟨by first | rfl | (simp; done) | (simp [*]; done), by repeat (first | exact Drawn0.refl _ | apply Drawn0.step)⟩
 ·rw [if_neg c4] at H
  have c4b0 : (a2 == 0) = false := beq_eq_false_iff_ne.mpr c4
  have c4b1 : (a2 != 0) = true := bne_iff_ne.mpr c4
  replace H := Option.bind_eq_some_iff.mp H
  obtain ⟨t207, A50, H⟩ := H
  replace H : ((r01_size.f a1).bind fun t208 => ((r01_product.f t207 t208).bind fun bt209 => ((r01_size.f a2).bind fun t211 => ((r01_divide.f k bt209.1 bt209.2 t211).bind fun bt212 => (if (((decide (a0 < 0)) != (decide (a1 < 0))) != (decide (a2 < 0))) = true then (r01_MulDiv.j0 k bt212.1 bt212.2.1 (((decide (a0 < 0)) != (decide (a1 < 0))) != (decide (a2 < 0))) (decide (bt212.2.2 > 0))) else (r01_MulDiv.j0 k bt212.1 bt212.2.1 (((decide (a0 < 0)) != (decide (a1 < 0))) != (decide (a2 < 0))) false)))))) = some (r1, r2) := H
  have A5 := Ad.mk A50
  clear A50
  replace H := Option.bind_eq_some_iff.mp H
  obtain ⟨t208, A60, H⟩ := H
  replace H : ((r01_product.f t207 t208).bind fun bt209 => ((r01_size.f a2).bind fun t211 => ((r01_divide.f k bt209.1 bt209.2 t211).bind fun bt212 => (if (((decide (a0 < 0)) != (decide (a1 < 0))) != (decide (a2 < 0))) = true then (r01_MulDiv.j0 k bt212.1 bt212.2.1 (((decide (a0 < 0)) != (decide (a1 < 0))) != (decide (a2 < 0))) (decide (bt212.2.2 > 0))) else (r01_MulDiv.j0 k bt212.1 bt212.2.1 (((decide (a0 < 0)) != (decide (a1 < 0))) != (decide (a2 < 0))) false))))) = some (r1, r2) := H
  have A6 := Ad.mk A60
  clear A60
  replace H := Option.bind_eq_some_iff.mp H
  obtain ⟨⟨t209, t210⟩, A70, H⟩ := H
  replace H : ((r01_size.f a2).bind fun t211 => ((r01_divide.f k t209 t210 t211).bind fun bt212 => (if (((decide (a0 < 0)) != (decide (a1 < 0))) != (decide (a2 < 0))) = true then (r01_MulDiv.j0 k bt212.1 bt212.2.1 (((decide (a0 < 0)) != (decide (a1 < 0))) != (decide (a2 < 0))) (decide (bt212.2.2 > 0))) else (r01_MulDiv.j0 k bt212.1 bt212.2.1 (((decide (a0 < 0)) != (decide (a1 < 0))) != (decide (a2 < 0))) false)))) = some (r1, r2) := H
  have A7 := Ad.mk A70
  clear A70
  replace H := Option.bind_eq_some_iff.mp H
  obtain ⟨t211, A80, H⟩ := H
  replace H : ((r01_divide.f k t209 t210 t211).bind fun bt212 => (if (((decide (a0 < 0)) != (decide (a1 < 0))) != (decide (a2 < 0))) = true then (r01_MulDiv.j0 k bt212.1 bt212.2.1 (((decide (a0 < 0)) != (decide (a1 < 0))) != (decide (a2 < 0))) (decide (bt212.2.2 > 0))) else (r01_MulDiv.j0 k bt212.1 bt212.2.1 (((decide (a0 < 0)) != (decide (a1 < 0))) != (decide (a2 < 0))) false))) = some (r1, r2) := H
  have A8 := Ad.mk A80
  clear A80
  replace H := Option.bind_eq_some_iff.mp H
  obtain ⟨⟨t212, t213, t214⟩, A90, H⟩ := H
  replace H : (if (((decide (a0 < 0)) != (decide (a1 < 0))) != (decide (a2 < 0))) = true then (r01_MulDiv.j0 k t212 t213 (((decide (a0 < 0)) != (decide (a1 < 0))) != (decide (a2 < 0))) (decide (t214 > 0))) else (r01_MulDiv.j0 k t212 t213 (((decide (a0 < 0)) != (decide (a1 < 0))) != (decide (a2 < 0))) false)) = some (r1, r2) := H
  have A9 := Ad.mk A90
  clear A90
  have HC10 := Ad.mk H
  clear H
  go_enter Tryd.func84, Tryd.ntmps84
  go_upto_region 6 with (first | ((with_reducible refine gate_callee (f := 96) rfl ?_); refine goesL_ (some 18) rfl rfl Tryd.func96 (by kernel_rfl) rfl #[.int .i64 a0] rfl (by (try simp only [List.map_toArray, List.map_cons, List.map_nil]); first | done | rfl | (simp only [List.length_drop, List.length_take]; rfl)) ?_; (with_reducible refine (r01_size.calls a0 t207 _ A5.out).mono ?_); rintro e w' ⟨rfl, ⟨nd, rfl⟩⟩; refine ⟨_, rfl, ?_⟩) | ((with_reducible refine gate_callee (f := 96) rfl ?_); refine goesL_ (some 20) rfl rfl Tryd.func96 (by kernel_rfl) rfl #[.int .i64 a1] rfl (by (try simp only [List.map_toArray, List.map_cons, List.map_nil]); first | done | rfl | (simp only [List.length_drop, List.length_take]; rfl)) ?_; (with_reducible refine (r01_size.calls a1 t208 _ A6.out).mono ?_); rintro e w' ⟨rfl, ⟨nd, rfl⟩⟩; refine ⟨_, rfl, ?_⟩) | ((with_reducible refine gate_callee (f := 95) rfl ?_); refine goesL_ (some 21) rfl rfl Tryd.func95 (by kernel_rfl) rfl #[.int .u64 t207, .int .u64 t208] rfl (by (try simp only [List.map_toArray, List.map_cons, List.map_nil]); first | done | rfl | (simp only [List.length_drop, List.length_take]; rfl)) ?_; (with_reducible refine (r01_product.calls t207 t208 t209 t210 _ A7.out).mono ?_); rintro e w' ⟨rfl, ⟨nd, rfl⟩⟩; refine ⟨_, rfl, ?_⟩) | ((with_reducible refine gate_callee (f := 96) rfl ?_); refine goesL_ (some 28) rfl rfl Tryd.func96 (by kernel_rfl) rfl #[.int .i64 a2] rfl (by (try simp only [List.map_toArray, List.map_cons, List.map_nil]); first | done | rfl | (simp only [List.length_drop, List.length_take]; rfl)) ?_; (with_reducible refine (r01_size.calls a2 t211 _ A8.out).mono ?_); rintro e w' ⟨rfl, ⟨nd, rfl⟩⟩; refine ⟨_, rfl, ?_⟩) | ((with_reducible refine gate_callee (f := 97) rfl ?_); refine goesL_ (some 29) rfl rfl Tryd.func97 (by kernel_rfl) rfl #[.int .u64 t209, .int .u64 t210, .int .u64 t211] rfl (by (try simp only [List.map_toArray, List.map_cons, List.map_nil]); first | done | rfl | (simp only [List.length_drop, List.length_take]; rfl)) ?_; (with_reducible refine (r01_divide.calls k t209 t210 t211 t212 t213 t214 _ A9.out).mono ?_); rintro e w' ⟨rfl, ⟨nd, rfl⟩⟩; refine ⟨_, rfl, ?_⟩))
  (try simp only [Act.put, List.setIfInBounds_toArray, List.set_cons_zero, List.set_cons_succ])
  have e_neg : (!((!(decide (a0 < 0) == decide (a1 < 0))) == decide (a2 < 0))) = (((decide (a0 < 0)) != (decide (a1 < 0))) != (decide (a2 < 0))) := rfl
  simp only [e_neg]
  clear e_neg
  generalize hneg : (((decide (a0 < 0)) != (decide (a1 < 0))) != (decide (a2 < 0))) = neg at HC10 ⊢
  clear hneg
  go_cut [45] (fun v45 wc => ∃ (kq : Nat) (x45_9 : Bool), v45 = .bool x45_9 ∧ Ad (r01_MulDiv.j0 kq t212 t213 neg x45_9 = some (r1, r2)) ∧ Ad (kq ≤ k) ∧ Drawn0 w wc)
  case first =>
   have H := HC10.out
   clear HC10
   by_cases c11 : neg = true
   ·rw [if_pos c11] at H
    subst c11
    have H' := Ad.mk H
    clear H
    go_wp2
    go_meet
    case rel => exact ⟨_, (decide (t214 > 0)), (by first | rfl | (simp; done) | (simp [*]; done)), H', ⟨by first | omega | exact Nat.le_refl _⟩, by repeat (first | exact Drawn0.refl _ | apply Drawn0.step)⟩
   ·rw [if_neg c11] at H
    replace c11 := Bool.eq_false_iff.mpr c11
    subst c11
    have H' := Ad.mk H
    clear H
    go_wp2
    go_meet
    case rel => exact ⟨_, (false), (by first | rfl | (simp; done) | (simp [*]; done)), H', ⟨by first | omega | exact Nat.le_refl _⟩, by repeat (first | exact Drawn0.refl _ | apply Drawn0.step)⟩
  case rest =>
   clear HC10
   obtain ⟨kq, x45_9, rfl, HA, HJ9, ⟨mc9, rfl⟩⟩ := hcut
   cases kq with
   | zero => exact absurd HA.out (by simp [r01_MulDiv.j0])
   | succ kj9 =>
    have H := HA.out
    clear HA
    simp only [r01_MulDiv.j0] at H
    by_cases c12 : x45_9 = true
    ·subst c12
     have H1 : (if (IntKind.u64.wrap (t213 + 1)) = 0 then ((r01_signed.f kj9 neg (IntKind.u64.wrap (t212 + 1)) (IntKind.u64.wrap (t213 + 1))).bind fun bt215 => (some (bt215.1, bt215.2))) else ((r01_signed.f kj9 neg t212 (IntKind.u64.wrap (t213 + 1))).bind fun bt217 => (some (bt217.1, bt217.2)))) = some (r1, r2) := by rw [if_pos rfl] at H; exact H
     clear H
     have H := H1
     clear H1
     by_cases c13 : (IntKind.u64.wrap (t213 + 1)) = 0
     ·rw [if_pos c13] at H
      have c13b0 : ((IntKind.u64.wrap (t213 + 1)) == 0) = true := beq_iff_eq.mpr c13
      have c13b1 : ((IntKind.u64.wrap (t213 + 1)) != 0) = false := bne_eq_false_iff_eq.mpr c13
      clear c13
      replace H := Option.bind_eq_some_iff.mp H
      obtain ⟨⟨t215, t216⟩, A140, H⟩ := H
      replace H : (some (t215, t216)) = some (r1, r2) := H
      have A14 := Ad.mk A140
      clear A140
      simp only [Option.some.injEq, Prod.mk.injEq] at H
      obtain ⟨rfl, rfl⟩ := H
      go_wp2_with (first | ((with_reducible refine gate_callee (f := 98) rfl ?_); refine goesL_ (some 55) rfl rfl Tryd.func98 (by kernel_rfl) rfl #[.bool neg, .int .u64 (IntKind.u64.wrap (t212 + 1)), .int .u64 (IntKind.u64.wrap (t213 + 1))] rfl (by (try simp only [List.map_toArray, List.map_cons, List.map_nil]); first | done | rfl | (simp only [List.length_drop, List.length_take]; rfl)) ?_; (with_reducible refine (r01_signed.calls kj9 neg (IntKind.u64.wrap (t212 + 1)) (IntKind.u64.wrap (t213 + 1)) t215 t216 _ A14.out).mono ?_); rintro e w' ⟨rfl, ⟨nd, rfl⟩⟩; refine ⟨_, rfl, ?_⟩))
      go_ret2
      exact ⟨by first | rfl | (simp; done) | (simp [*]; done), by repeat (first | exact Drawn0.refl _ | apply Drawn0.step)⟩
     ·rw [if_neg c13] at H
      have c13b0 : ((IntKind.u64.wrap (t213 + 1)) == 0) = false := beq_eq_false_iff_ne.mpr c13
      have c13b1 : ((IntKind.u64.wrap (t213 + 1)) != 0) = true := bne_iff_ne.mpr c13
      replace H := Option.bind_eq_some_iff.mp H
      obtain ⟨⟨t217, t218⟩, A150, H⟩ := H
      replace H : (some (t217, t218)) = some (r1, r2) := H
      have A15 := Ad.mk A150
      clear A150
      simp only [Option.some.injEq, Prod.mk.injEq] at H
      obtain ⟨rfl, rfl⟩ := H
      go_wp2_with (first | ((with_reducible refine gate_callee (f := 98) rfl ?_); refine goesL_ (some 55) rfl rfl Tryd.func98 (by kernel_rfl) rfl #[.bool neg, .int .u64 t212, .int .u64 (IntKind.u64.wrap (t213 + 1))] rfl (by (try simp only [List.map_toArray, List.map_cons, List.map_nil]); first | done | rfl | (simp only [List.length_drop, List.length_take]; rfl)) ?_; (with_reducible refine (r01_signed.calls kj9 neg t212 (IntKind.u64.wrap (t213 + 1)) t217 t218 _ A15.out).mono ?_); rintro e w' ⟨rfl, ⟨nd, rfl⟩⟩; refine ⟨_, rfl, ?_⟩))
      go_ret2
      exact ⟨by first | rfl | (simp; done) | (simp [*]; done), by repeat (first | exact Drawn0.refl _ | apply Drawn0.step)⟩
    ·replace c12 := Bool.eq_false_iff.mpr c12
     subst c12
     have H1 : ((r01_signed.f kj9 neg t212 t213).bind fun bt219 => (some (bt219.1, bt219.2))) = some (r1, r2) := by rw [if_neg (show ¬ (false = true) by decide)] at H; exact H
     clear H
     have H := H1
     clear H1
     replace H := Option.bind_eq_some_iff.mp H
     obtain ⟨⟨t219, t220⟩, A160, H⟩ := H
     replace H : (some (t219, t220)) = some (r1, r2) := H
     have A16 := Ad.mk A160
     clear A160
     simp only [Option.some.injEq, Prod.mk.injEq] at H
     obtain ⟨rfl, rfl⟩ := H
     go_wp2_with (first | ((with_reducible refine gate_callee (f := 98) rfl ?_); refine goesL_ (some 55) rfl rfl Tryd.func98 (by kernel_rfl) rfl #[.bool neg, .int .u64 t212, .int .u64 t213] rfl (by (try simp only [List.map_toArray, List.map_cons, List.map_nil]); first | done | rfl | (simp only [List.length_drop, List.length_take]; rfl)) ?_; (with_reducible refine (r01_signed.calls kj9 neg t212 t213 t219 t220 _ A16.out).mono ?_); rintro e w' ⟨rfl, ⟨nd, rfl⟩⟩; refine ⟨_, rfl, ?_⟩))
     go_ret2
     exact ⟨by first | rfl | (simp; done) | (simp [*]; done), by repeat (first | exact Drawn0.refl _ | apply Drawn0.step)⟩

/-! ### r01_Floor: function 68 -/
set_option maxHeartbeats 8000000 in
set_option maxRecDepth 100000 in
theorem r01_Floor.calls (k : Nat) (a0 : Int) (a1 : Int) (r1 : Int) (r2 : Bool) (w : World) (h : r01_Floor.f k a0 a1 = some (r1, r2)) :
  Calls Tryd.prog 68 #[.int .i64 a0, .int .i64 a1] w fun e w' => e = .returned (.tuple #[.int .i64 r1, .bool r2]) ∧ Drawn0 w w' := by
 have H : ((r01_MulDiv.f k a0 1 a1).bind fun bt221 => (some (bt221.1, bt221.2))) = some (r1, r2) := h
 clear h
 replace H := Option.bind_eq_some_iff.mp H
 obtain ⟨⟨t221, t222⟩, A30, H⟩ := H
 replace H : (some (t221, t222)) = some (r1, r2) := H
 have A3 := Ad.mk A30
 clear A30
 simp only [Option.some.injEq, Prod.mk.injEq] at H
 obtain ⟨rfl, rfl⟩ := H
 go_enter Tryd.func68, Tryd.ntmps68
 go_wp2_with (first | ((with_reducible refine gate_callee (f := 84) rfl ?_); refine goesL_ (some 8) rfl rfl Tryd.func84 (by kernel_rfl) rfl #[.int .i64 a0, .int .i64 1, .int .i64 a1] rfl (by (try simp only [List.map_toArray, List.map_cons, List.map_nil]); first | done | rfl | (simp only [List.length_drop, List.length_take]; rfl)) ?_; (with_reducible refine (r01_MulDiv.calls k a0 1 a1 t221 t222 _ A3.out).mono ?_); rintro e w' ⟨rfl, ⟨nd, rfl⟩⟩; refine ⟨_, rfl, ?_⟩))
 go_ret2
 exact ⟨by first | rfl | (simp; done) | (simp [*]; done), by repeat (first | exact Drawn0.refl _ | apply Drawn0.step)⟩

/-! ### r05_dayOf: function 53 -/
set_option maxHeartbeats 8000000 in
set_option maxRecDepth 100000 in
theorem r05_dayOf.calls (k : Nat) (a0 : Int) (r : Int) (w : World) (h : r05_dayOf.f k a0 = some r) :
  Calls Tryd.prog 53 #[.int .i64 a0] w fun e w' => e = .returned (.int .i64 r) ∧ Drawn0 w w' := by
 have H : ((r01_Floor.f k a0 86400).bind fun bt223 => (some bt223.1)) = some r := h
 clear h
 replace H := Option.bind_eq_some_iff.mp H
 obtain ⟨⟨t223, t224⟩, A20, H⟩ := H
 replace H : (some t223) = some r := H
 have A2 := Ad.mk A20
 clear A20
 obtain rfl := Option.some.inj H
 go_enter Tryd.func53, Tryd.ntmps53
 go_wp2_with (first | ((with_reducible refine gate_callee (f := 68) rfl ?_); refine goesL_ (some 7) rfl rfl Tryd.func68 (by kernel_rfl) rfl #[.int .i64 a0, .int .i64 86400] rfl (by (try simp only [List.map_toArray, List.map_cons, List.map_nil]); first | done | rfl | (simp only [List.length_drop, List.length_take]; rfl)) ?_; (with_reducible refine (r01_Floor.calls k a0 86400 t223 t224 _ A2.out).mono ?_); rintro e w' ⟨rfl, ⟨nd, rfl⟩⟩; refine ⟨_, rfl, ?_⟩))
 go_ret
 exact ⟨by first | rfl | (simp; done) | (simp [*]; done), by repeat (first | exact Drawn0.refl _ | apply Drawn0.step)⟩

/-! ### r05_isLeap: function 69 -/
set_option maxHeartbeats 8000000 in
set_option maxRecDepth 100000 in
theorem r05_isLeap.calls (a0 : Int) (r : Bool) (w : World) (h : r05_isLeap.f a0 = some r) :
  Calls Tryd.prog 69 #[.int .i64 a0] w fun e w' => e = .returned (.bool r) ∧ Drawn0 w w' := by
 have H : (if (Int.tmod a0 4) = 0 then (if (Int.tmod a0 100) = 0 then (some ((Int.tmod a0 400) == 0)) else (some true)) else (some false)) = some r := h
 clear h
 by_cases c2 : (Int.tmod a0 4) = 0
 ·rw [if_pos c2] at H
  have c2b0 : ((Int.tmod a0 4) == 0) = true := beq_iff_eq.mpr c2
  have c2b1 : ((Int.tmod a0 4) != 0) = false := bne_eq_false_iff_eq.mpr c2
  clear c2
  by_cases c3 : (Int.tmod a0 100) = 0
  ·rw [if_pos c3] at H
   have c3b0 : ((Int.tmod a0 100) == 0) = true := beq_iff_eq.mpr c3
   have c3b1 : ((Int.tmod a0 100) != 0) = false := bne_eq_false_iff_eq.mpr c3
   clear c3
   obtain rfl := Option.some.inj H
   go_enter Tryd.func69, Tryd.ntmps69
   go_wp2
   go_ret
   exact ⟨by first | rfl | (simp; done) | (simp [*]; done), by repeat (first | exact Drawn0.refl _ | apply Drawn0.step)⟩
  ·rw [if_neg c3] at H
   have c3b0 : ((Int.tmod a0 100) == 0) = false := beq_eq_false_iff_ne.mpr c3
   have c3b1 : ((Int.tmod a0 100) != 0) = true := bne_iff_ne.mpr c3
   obtain rfl := Option.some.inj H
   go_enter Tryd.func69, Tryd.ntmps69
   go_wp2
   go_ret
   exact ⟨by first | rfl | (simp; done) | (simp [*]; done), by repeat (first | exact Drawn0.refl _ | apply Drawn0.step)⟩
 ·rw [if_neg c2] at H
  have c2b0 : ((Int.tmod a0 4) == 0) = false := beq_eq_false_iff_ne.mpr c2
  have c2b1 : ((Int.tmod a0 4) != 0) = true := bne_iff_ne.mpr c2
  obtain rfl := Option.some.inj H
  go_enter Tryd.func69, Tryd.ntmps69
  go_wp2
  go_ret
  exact ⟨by first | rfl | (simp; done) | (simp [*]; done), by repeat (first | exact Drawn0.refl _ | apply Drawn0.step)⟩

/-! ### r05_yearDays: function 54 -/
set_option maxHeartbeats 8000000 in
set_option maxRecDepth 100000 in
theorem r05_yearDays.calls (a0 : Int) (r : Int) (w : World) (h : r05_yearDays.f a0 = some r) :
  Calls Tryd.prog 54 #[.int .i64 a0] w fun e w' => e = .returned (.int .i64 r) ∧ Drawn0 w w' := by
 have H : ((r05_isLeap.f a0).bind fun t225 => (if t225 = true then (some 366) else (some 365))) = some r := h
 clear h
 replace H := Option.bind_eq_some_iff.mp H
 obtain ⟨t225, A20, H⟩ := H
 replace H : (if t225 = true then (some 366) else (some 365)) = some r := H
 have A2 := Ad.mk A20
 clear A20
 by_cases c3 : t225 = true
 ·subst c3
  have H1 : (some 366) = some r := by rw [if_pos rfl] at H; exact H
  clear H
  have H := H1
  clear H1
  obtain rfl := Option.some.inj H
  go_enter Tryd.func54, Tryd.ntmps54
  go_wp2_with (first | ((with_reducible refine gate_callee (f := 69) rfl ?_); refine goesL_ (some 4) rfl rfl Tryd.func69 (by kernel_rfl) rfl #[.int .i64 a0] rfl (by (try simp only [List.map_toArray, List.map_cons, List.map_nil]); first | done | rfl | (simp only [List.length_drop, List.length_take]; rfl)) ?_; (with_reducible refine (r05_isLeap.calls a0 true _ A2.out).mono ?_); rintro e w' ⟨rfl, ⟨nd, rfl⟩⟩; refine ⟨_, rfl, ?_⟩))
  go_ret
  exact ⟨by first | rfl | (simp; done) | (simp [*]; done), by repeat (first | exact Drawn0.refl _ | apply Drawn0.step)⟩
 ·replace c3 := Bool.eq_false_iff.mpr c3
  subst c3
  have H1 : (some 365) = some r := by rw [if_neg (show ¬ (false = true) by decide)] at H; exact H
  clear H
  have H := H1
  clear H1
  obtain rfl := Option.some.inj H
  go_enter Tryd.func54, Tryd.ntmps54
  go_wp2_with (first | ((with_reducible refine gate_callee (f := 69) rfl ?_); refine goesL_ (some 4) rfl rfl Tryd.func69 (by kernel_rfl) rfl #[.int .i64 a0] rfl (by (try simp only [List.map_toArray, List.map_cons, List.map_nil]); first | done | rfl | (simp only [List.length_drop, List.length_take]; rfl)) ?_; (with_reducible refine (r05_isLeap.calls a0 false _ A2.out).mono ?_); rintro e w' ⟨rfl, ⟨nd, rfl⟩⟩; refine ⟨_, rfl, ?_⟩))
  go_ret
  exact ⟨by first | rfl | (simp; done) | (simp [*]; done), by repeat (first | exact Drawn0.refl _ | apply Drawn0.step)⟩

end Go.Proofs.YtipbkcilpnlgnaaDoor.M
