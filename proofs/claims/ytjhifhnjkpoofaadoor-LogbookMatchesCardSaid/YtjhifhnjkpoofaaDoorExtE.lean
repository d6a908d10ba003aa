/-
  slices.Equal on slices of pairs, by hand.
-/
import Derived.Test.YtjhifhnjkpoofaaDoorMD
import Derived.ChangeKeysEq
import Derived.LoopTactic
import Derived.Lib.Hide
namespace Go.Proofs.YtjhifhnjkpoofaaDoor.M
open Go.RowKit Go.Proofs.YtjhifhnjkpoofaaDoorG Go.Proofs.YtjhifhnjkpoofaaDoorW.PrintWords Go.Proofs.YtjhifhnjkpoofaaDoorW.PrintLast Go.Proofs.YtjhifhnjkpoofaaDoorW.PrintMore
set_option linter.unusedVariables false
set_option linter.unusedSimpArgs false
theorem drewN_two (w : World) (n m : Nat) : (w.drewN n).drewN m = w.drewN (n + m) := by simp [World.drewN, Nat.add_assoc]
theorem part3 (w : World) (xs : Array Value) (i : Nat) (v : Value) (h : xs[i]? = some v) : (part 3 xs i).run Tryd.prog w = .ok v w := by
  have h3 := Tryd.underlying3
  simp [part, isAgg, run_underlying h3, h]
theorem eqA33 (d : Nat) (w : World) (a b c e : Int) :
    (Op.equalIn (d + 2) 33 (.agg #[.int .i64 a, .int .i64 b]) (.agg #[.int .i64 c, .int .i64 e])).run Tryd.prog w = .ok (a == c && b == e) w := by
  have h3 := Tryd.underlying3
  obtain ⟨i, hi⟩ : ∃ i, Tryd.prog.info? 3 = some i := Option.isSome_iff_exists.1 (by kernel_rfl)
  have hc : Tryd.prog.cellsOf 3 = 1 := by kernel_rfl
  rw [run_equalIn_array w (d + 1) _ _ Tryd.underlying33 hi, hc]
  have p0 := fun x y : Int => part3 w #[.int .i64 x, .int .i64 y] 0 (.int .i64 x) rfl
  have p1 := fun x y : Int => part3 w #[.int .i64 x, .int .i64 y] 1 (.int .i64 y) rfl
  have q := fun x y : Int => run_equalIn_int (P := Tryd.prog) w d 3 .i64 .i64 x y h3
  show (Op.eqItems (d + 1) 3 1 _ _ [0, 1]).run Tryd.prog w = _
  simp only [Op.eqItems, Sem.run_bind, Nat.zero_mul, Nat.one_mul, p0, p1, q, Result.andThen_ok]
  have q1 := q b e
  generalize (b == e) = r2 at q1 ⊢
  generalize (a == c) = r1
  cases r1
  · simp
  · simp only [Bool.not_true, Bool.false_eq_true, if_false, Sem.run_bind, Nat.one_mul, p1, q1, Result.andThen_ok]
    cases r2 <;> simp
theorem pairs_step (l : List S33) (x : Int) (h0 : 0 ≤ x) (h1 : x < l.length) : (l.drop x.toNat).map (fun x => (x.f0, x.f1)) = ((rd_T33 l x).f0, (rd_T33 l x).f1) :: (l.drop (x + 1).toNat).map (fun x => (x.f0, x.f1)) := by
  have hl : x.toNat < l.length := by omega
  have e : rd_T33 l x = l[x.toNat] := by simp [rd_T33, List.getD, hl]
  rw [List.drop_eq_getElem_cons hl, show (x + 1).toNat = x.toNat + 1 by omega, e]
  rfl
set_option maxHeartbeats 3200000 in
set_option maxRecDepth 100000 in
theorem equal_calls (A0 : Option Addr) (c0 : Nat) (l0 : List S33) (A1 : Option Addr) (c1 : Nat) (l1 : List S33) (w : World) (hr0 : Kd.C k33 w A0 l0.length l0) (hr1 : Kd.C k33 w A1 l1.length l1) :
    Calls Tryd.prog 16 #[.slice A0 l0.length c0, .slice A1 l1.length c1] w fun e w' => e = .returned (.bool ((l0.map fun x => (x.f0, x.f1)) == (l1.map fun x => (x.f0, x.f1)))) ∧ Drawn0 w w' := by
  have hu33 := Tryd.underlying33
  have HR0 := Aside0.mk hr0
  have HR1 := Aside0.mk hr1
  have HM := Aside0.mk hr0.2.1
  have heq := eqA33 9998
  clear hr0 hr1
  by_cases c2 : (l0.length : Int) = l1.length
  · have c2n : l0.length = l1.length := by omega
    have c2b0 : ((l0.length : Int) != (l1.length : Int)) = false := bne_eq_false_iff_eq.mpr c2
    have HL := Aside0.mk c2
    go_enter Tryd.func16, Tryd.ntmps16
    go_wp2
    go_loopw [13] (fun i wr => ∃ (x : Int) (n : Nat), i = .int .i64 x ∧ wr = w.drewN n ∧ Aside0 (0 ≤ x ∧ x ≤ l0.length) ∧ Aside0 (((l0.map fun x => (x.f0, x.f1)) == (l1.map fun x => (x.f0, x.f1))) = (((l0.drop x.toNat).map fun x => (x.f0, x.f1)) == ((l1.drop x.toNat).map fun x => (x.f0, x.f1))))) (fun i _ => l0.length - (intOf i).toNat)
    case atStart => exact ⟨0, 0, rfl, rfl, ⟨by omega, by omega⟩, ⟨rfl⟩⟩
    case round =>
      obtain ⟨x, n, rfl, rfl, HX, HE⟩ := hrel
      have x0 := HX.out.1
      by_cases c3 : x < (l0.length : Int)
      · have c3b0 : decide (x < (l0.length : Int)) = true := decide_eq_true c3
        have c4 : x < (l1.length : Int) := by have := HL.out; omega
        have c4b0 : decide (x < (l1.length : Int)) = true := decide_eq_true c4
        have p0 : decide (0 ≤ x) = true := decide_eq_true x0
        obtain ⟨ad, ead, hx0, hx1⟩ := at_T33 HR0.out x x0 c3
        obtain ⟨ad', ead', hy0, hy1⟩ := at_T33 HR1.out x x0 c4
        cases ead
        cases ead'
        have p := eq_true x0
        have q := eq_true c3
        have q1 := eq_true c4
        have HX2 := Aside0.mk c3
        have HWX : Aside0 (wrap64 (x + 1) = x + 1) := ⟨by have := HX2.out; have := HM.out; unfold wrap64; omega⟩
        have HS0 := Aside0.mk (pairs_step l0 x x0 c3)
        have HS1 := Aside0.mk (pairs_step l1 x x0 c4)
        generalize rd_T33 l0 x = y at *
        generalize rd_T33 l1 x = z at *
        by_cases e0 : y.f0 = z.f0 ∧ y.f1 = z.f1
        · have e0b : (y.f0 == z.f0) = true := beq_iff_eq.mpr e0.1
          have e1b : (y.f1 == z.f1) = true := beq_iff_eq.mpr e0.2
          have HN : Aside0 (((l0.map fun x => (x.f0, x.f1)) == (l1.map fun x => (x.f0, x.f1))) = (((l0.drop (x + 1).toNat).map fun x => (x.f0, x.f1)) == ((l1.drop (x + 1).toNat).map fun x => (x.f0, x.f1)))) := ⟨by
            rw [HE.out, HS0.out, HS1.out, List.cons_beq_cons, e0.1, e0.2]; simp⟩
          clear e0
          go_wp2
          repeat (go_quiet (fail); try go_wp2)
          go_round
          case rel => exact ⟨x + 1, _, by rw [HWX.out], by first | rfl | exact drewN_two w n _, ⟨by have := HX.out; omega, by have := HX2.out; omega⟩, HN⟩
          case measure => have := HX2.out; have := HX.out; simp only [intOf, HWX.out]; omega
        · have e0b : (y.f0 == z.f0 && y.f1 == z.f1) = false := by rw [Bool.eq_false_iff]; intro h; simp at h; exact e0 h
          have HN : Aside0 (((l0.map fun x => (x.f0, x.f1)) == (l1.map fun x => (x.f0, x.f1))) = false) := ⟨by
            rw [HE.out, HS0.out, HS1.out, List.cons_beq_cons]
            have : ((y.f0, y.f1) == (z.f0, z.f1)) = false := by rw [Bool.eq_false_iff]; intro h; simp at h; exact e0 h
            rw [this]; rfl⟩
          clear e0
          go_wp2
          repeat (go_quiet (fail); try go_wp2)
          go_ret
          exact ⟨by rw [HN.out]; rfl, by first | exact ⟨_, rfl⟩ | exact ⟨_, drewN_two w n _⟩ | exact ⟨_, (drewN_two w n _).symm⟩⟩
      · have c3b0 : decide (x < (l0.length : Int)) = false := decide_eq_false c3
        have HN : Aside0 (((l0.map fun x => (x.f0, x.f1)) == (l1.map fun x => (x.f0, x.f1))) = true) := ⟨by
          have := HL.out
          rw [HE.out, List.drop_eq_nil_of_le (by omega), List.drop_eq_nil_of_le (by omega)]; rfl⟩
        go_wp2
        go_ret
        exact ⟨by rw [HN.out]; rfl, ⟨_, rfl⟩⟩
  · have c2b0 : ((l0.length : Int) != (l1.length : Int)) = true := bne_iff_ne.mpr c2
    have HN : Aside0 (((l0.map fun x => (x.f0, x.f1)) == (l1.map fun x => (x.f0, x.f1))) = false) := ⟨by
      rw [Bool.eq_false_iff]
      intro h
      have h := congrArg List.length (eq_of_beq h)
      rw [List.length_map, List.length_map] at h
      omega⟩
    clear c2
    go_enter Tryd.func16, Tryd.ntmps16
    go_wp2
    go_ret
    exact ⟨by rw [HN.out]; rfl, ⟨0, rfl⟩⟩
theorem slices_Equal_2_int_2_int.calls (A0 : Option Addr) (c0 : Nat) (l0 : List S33) (A1 : Option Addr) (c1 : Nat) (l1 : List S33) (r : Bool) (w : World) (hr0 : Kd.C k33 w A0 l0.length l0) (hc0 : l0.length ≤ c0) (hr1 : Kd.C k33 w A1 l1.length l1) (hc1 : l1.length ≤ c1) (h : slices_Equal_2_int_2_int.f l0 l1 = some r) :
    Calls Tryd.prog 16 #[.slice A0 l0.length c0, .slice A1 l1.length c1] w fun e w' => e = .returned (.bool r) ∧ Drawn0 w w' := by
  obtain rfl := Option.some.inj h
  exact equal_calls A0 c0 l0 A1 c1 l1 w hr0 hr1
end Go.Proofs.YtjhifhnjkpoofaaDoor.M
