/-
  civil.MonthDays and civil.Check by hand: a local array; a function value that is called.
-/
import Derived.Test.YtipbkcilpnlgnaaDoorMC
import Derived.Below
namespace Go.Proofs.YtipbkcilpnlgnaaDoor.M
open Go.RowKit Go.Proofs.YtipbkcilpnlgnaaDoorG Go.Proofs.YtipbkcilpnlgnaaDoorW.PA Go.Proofs.YtipbkcilpnlgnaaDoorW.PB Go.Proofs.YtipbkcilpnlgnaaDoorW.PC
open List renaming setIfInBounds_toArray → sA, set_cons_zero → sB, set_cons_succ → sC
set_option linter.unusedVariables false
set_option linter.unusedSimpArgs false
theorem block_new (w : World) (o : Obj) : (w.alloc o).heap[w.heap.size]? = some o := heap_alloc_new w o
set_option maxHeartbeats 3200000 in
set_option maxRecDepth 100000 in
theorem out_calls (n lo hi : Int) (w : World) : Calls Tryd.prog 66 #[.int .i64 n, .int .i64 lo, .int .i64 hi] w fun e w' => e = .returned (.bool (outP n lo hi)) ∧ w' = w := by
  go_enter Tryd.func66, Tryd.ntmps66
  by_cases c : n < lo
  · have cb : decide (n < lo) = true := decide_eq_true c
    have hp : Ad (outP n lo hi = true) := ⟨by unfold outP; rw [cb]; rfl⟩
    go_wp2
    go_ret
    exact ⟨by rw [hp.out]; rfl, rfl⟩
  · have cb : decide (n < lo) = false := decide_eq_false c
    have hp : Ad (outP n lo hi = decide (n > hi)) := ⟨by unfold outP; rw [cb]; rfl⟩
    go_wp2
    go_ret
    exact ⟨by rw [hp.out]; rfl, rfl⟩
def dayCells : Array Value := #[.int .i64 31, .int .i64 28, .int .i64 31, .int .i64 30, .int .i64 31, .int .i64 30, .int .i64 31, .int .i64 31, .int .i64 30, .int .i64 31, .int .i64 30, .int .i64 31]
theorem day_at (m : Int) (h0 : 1 ≤ m) (h1 : m ≤ 12) : dayCells[(m - 1).toNat]? = some (.int .i64 (daysOf m)) := by
  have : m = 1 ∨ m = 2 ∨ m = 3 ∨ m = 4 ∨ m = 5 ∨ m = 6 ∨ m = 7 ∨ m = 8 ∨ m = 9 ∨ m = 10 ∨ m = 11 ∨ m = 12 := by omega
  rcases this with h | h | h | h | h | h | h | h | h | h | h | h <;> subst h <;> rfl
set_option maxHeartbeats 3200000 in
set_option maxRecDepth 100000 in
theorem month_calls (y m : Int) (w : World) : Calls Tryd.prog 67 #[.int .i64 y, .int .i64 m] w fun e w' => e = .returned (.int .i64 (monthDays y m)) ∧ Below w.heap.size w w' := by
  have hu107 := Tryd.underlying107
  go_enter Tryd.func67, Tryd.ntmps67
  by_cases c1 : m < 1
  · have cb : decide (m < 1) = true := decide_eq_true c1
    have hp : Ad (monthDays y m = 0) := ⟨by unfold monthDays; rw [if_pos (.inl c1)]⟩
    go_wp2
    go_ret
    exact ⟨by rw [hp.out]; rfl, Below.refl _ _⟩
  · have cb : decide (m < 1) = false := decide_eq_false c1
    by_cases c2 : m > 12
    · have cb2 : decide (m > 12) = true := decide_eq_true c2
      have cb3 : decide (12 < m) = true := decide_eq_true c2
      have hp : Ad (monthDays y m = 0) := ⟨by unfold monthDays; rw [if_pos (.inr c2)]⟩
      go_wp2
      go_ret
      exact ⟨by rw [hp.out]; rfl, Below.refl _ _⟩
    · have cb2 : decide (m > 12) = false := decide_eq_false c2
      have cb3 : decide (12 < m) = false := decide_eq_false c2
      have hblk := block_new w (.cells dayCells 107)
      have HBW := Ad.mk (pba (Below.refl w.heap.size w) (.cells dayCells 107))
      obtain ⟨kk, hkk⟩ : ∃ kk, kk = m - 1 := ⟨_, rfl⟩
      have hcell : (w.alloc (.cells dayCells 107)).cell? ⟨w.heap.size, kk.toNat, none⟩ = some (.int .i64 (daysOf m)) := (bcl hblk _).trans (by rw [hkk]; exact day_at m (by omega) (by omega))
      unfold dayCells at hcell HBW
      have hw : wrap64 (m - 1) = kk := by unfold wrap64; omega
      have q1 : (0 ≤ kk) = True := eq_true (by omega)
      have q2 : (kk < 12) = True := eq_true (by omega)
      clear hkk
      have HC := Ad.mk c1
      have HC2 := Ad.mk c2
      clear hblk c1 c2
      by_cases d1 : m = 2
      · have d1b : (m == 2) = true := beq_iff_eq.mpr d1
        by_cases d2 : Int.tmod y 4 = 0
        · have d2b : (Int.tmod y 4 == 0) = true := beq_iff_eq.mpr d2
          by_cases d3 : Int.tmod y 100 = 0
          · have d3b : (Int.tmod y 100 != 0) = false := bne_eq_false_iff_eq.mpr d3
            by_cases d4 : Int.tmod y 400 = 0
            · have d4b : (Int.tmod y 400 == 0) = true := beq_iff_eq.mpr d4
              have hp : Ad (monthDays y m = 29) := ⟨by unfold monthDays; rw [if_neg (by have := HC.out; have := HC2.out; omega), if_pos ⟨d1, d2, .inr d4⟩]⟩
              clear d1 d2 d3 d4
              go_wp2
              go_ret
              exact ⟨by rw [hp.out]; rfl, HBW.out⟩
            · have d4b : (Int.tmod y 400 == 0) = false := beq_eq_false_iff_ne.mpr d4
              have hp : Ad (monthDays y m = daysOf m) := ⟨by unfold monthDays; rw [if_neg (by have := HC.out; have := HC2.out; omega), if_neg (fun e => e.2.2.elim (fun h => h d3) d4)]⟩
              clear d1 d2 d3 d4
              go_wp2
              go_ret
              exact ⟨by rw [hp.out]; rfl, HBW.out⟩
          · have d3b : (Int.tmod y 100 != 0) = true := bne_iff_ne.mpr d3
            have hp : Ad (monthDays y m = 29) := ⟨by unfold monthDays; rw [if_neg (by have := HC.out; have := HC2.out; omega), if_pos ⟨d1, d2, .inl d3⟩]⟩
            clear d1 d2 d3
            go_wp2
            go_ret
            exact ⟨by rw [hp.out]; rfl, HBW.out⟩
        · have d2b : (Int.tmod y 4 == 0) = false := beq_eq_false_iff_ne.mpr d2
          have hp : Ad (monthDays y m = daysOf m) := ⟨by unfold monthDays; rw [if_neg (by have := HC.out; have := HC2.out; omega), if_neg (fun e => d2 e.2.1)]⟩
          clear d1 d2
          go_wp2
          go_ret
          exact ⟨by rw [hp.out]; rfl, HBW.out⟩
      · have d1b : (m == 2) = false := beq_eq_false_iff_ne.mpr d1
        have hp : Ad (monthDays y m = daysOf m) := ⟨by unfold monthDays; rw [if_neg (by have := HC.out; have := HC2.out; omega), if_neg (fun e => d1 e.1)]⟩
        clear d1
        go_wp2
        go_ret
        exact ⟨by rw [hp.out]; rfl, HBW.out⟩
def check4T : Bool × List (List Nat × List Nat) := (true, [([], []), ([], []), ([1], [1]), ([], []), ([3], [3]), ([], []), ([5], [5]), ([4, 6], [4, 6]), ([0, 2, 7, 7], [0, 2, 7]), ([8, 8], [8])])
def check4B : List Nat := [0, 0, 2, 0, 8, 0, 32, 120, 255, 511]
theorem check4t : rtab .any (opsOf Tryd.f52 4) = check4T := by kernel_rfl
theorem check4b : waitsOk check4T.2 check4B = true := by kernel_rfl
set_option maxHeartbeats 3200000 in
set_option maxRecDepth 100000 in
theorem check_calls (y m d h mi s n : Int) (w : World) : Calls Tryd.prog 52 #[.agg #[.int .i64 y, .int .i64 m, .int .i64 d, .int .i64 h, .int .i64 mi, .int .i64 s, .int .i64 n]] w fun e w' => e = .returned (.int .i64 (civilErr y m d h mi s n)) ∧ Below w.heap.size w w' := by
  have hu48 := Tryd.underlying48
  go_enter Tryd.func52, Tryd.ntmps52
  have HBW := Ad.mk (pba (Below.refl w.heap.size w) (.cells #[.int .i64 y, .int .i64 m, .int .i64 d, .int .i64 h, .int .i64 mi, .int .i64 s, .int .i64 n] 48))
  go_wp2_with fail
  refine (out_calls y 1600 2200 _).mono ?_
  rintro e w1 ⟨rfl, rfl⟩
  cases hA : outP y 1600 2200 with
  | true =>
    have hp : Ad (civilErr y m d h mi s n = 3) := ⟨by unfold civilErr; simp [hA]⟩
    clear hA
    go_wp2
    go_ret
    exact ⟨by rw [hp.out]; rfl, HBW.out⟩
  | false =>
    have HA := Ad.mk hA
    clear hA
    go_wp2_with fail
    refine (out_calls m 1 12 _).mono ?_
    rintro e w1 ⟨rfl, rfl⟩
    cases hB : outP m 1 12 with
    | true =>
      have hp : Ad (civilErr y m d h mi s n = 3) := ⟨by unfold civilErr; simp [HA.out, hB]⟩
      clear hB
      go_wp2
      go_ret
      exact ⟨by rw [hp.out]; rfl, HBW.out⟩
    | false =>
      have HB := Ad.mk hB
      clear hB
      go_wp2
      have hblk : (w.alloc (.cells #[.int .i64 y, .int .i64 m, .int .i64 d, .int .i64 h, .int .i64 mi, .int .i64 s, .int .i64 n] 48)).drew.heap[w.heap.size]? = some (.cells #[.int .i64 y, .int .i64 m, .int .i64 d, .int .i64 h, .int .i64 mi, .int .i64 s, .int .i64 n] 48 (0, 0)) := block_new _ _
      have hB1 := pb1 HBW.out
      refine start_ (n := 10) (S := fun w' => w'.heap[w.heap.size]? = some (.cells #[.int .i64 y, .int .i64 m, .int .i64 d, .int .i64 h, .int .i64 mi, .int .i64 s, .int .i64 n] 48 (0, 0))) (ds := []) #[false, false, false, false, false, false, false, false, false, false] (by kernel_rfl) rfl rfl hblk (fun hHeld => ?_)
      refine with_tabW check4t check4b (fun HT_ HW_ => ?_)
      have HB1 := Ad.mk hB1
      clear HBW hB1
      generalize (w.alloc (.cells #[.int .i64 y, .int .i64 m, .int .i64 d, .int .i64 h, .int .i64 mi, .int .i64 s, .int .i64 n] 48)).drew = W2 at *
      refine pure_ (i := 0) (N := some 13) (v := ?_) (a' := ?_) #[true, false, false, false, false, false, false, false, false, false] rfl rfl (any_of HT_.out (by kernel_rfl)) (fun _ _ _ h => h) (Or.inl ⟨by rfl, ?_⟩) ?_ ?_
      rotate_left
      · intro w'
        go_simp
        with_reducible rfl
      rotate_left
      · simp only [Act.put, sA, sB, sC, i64_w, i32_w]
        rfl
      refine pure_ (i := 1) (N := some 14) (v := ?_) (a' := ?_) #[true, true, false, false, false, false, false, false, false, false] rfl rfl (any_of HT_.out (by kernel_rfl)) (fun _ _ _ h => h) (Or.inl ⟨by rfl, ?_⟩) ?_ ?_
      rotate_left
      · intro w'
        go_simp
        with_reducible rfl
      rotate_left
      · simp only [Act.put, sA, sB, sC, i64_w, i32_w]
        rfl
      refine take_ (i := 2) (N := some 15) (v := ?_) (a' := ?_) #[true, true, true, false, false, false, false, false, false, false] rfl rfl (take_ofW HT_.out HW_.out (by kernel_rfl)) (fun _ _ _ h => h) (Or.inl ⟨by rfl, ?_⟩) hHeld ?_ ?_
      rotate_left
      · rintro w' hS
        have s0 : w'.cell? ⟨w.heap.size, 2, none⟩ = some (.int .i64 d) := bcl hS 2
        go_simp
        with_reducible rfl
      rotate_left
      · simp only [Act.put, sA, sB, sC, i64_w, i32_w]
        rfl
      refine pure_ (i := 3) (N := some 16) (v := ?_) (a' := ?_) #[true, true, true, true, false, false, false, false, false, false] rfl rfl (any_of HT_.out (by kernel_rfl)) (fun _ _ _ h => h) (Or.inl ⟨by rfl, ?_⟩) ?_ ?_
      rotate_left
      · intro w'
        go_simp
        with_reducible rfl
      rotate_left
      · simp only [Act.put, sA, sB, sC, i64_w, i32_w]
        rfl
      refine take_ (i := 4) (N := some 17) (v := ?_) (a' := ?_) #[true, true, true, true, true, false, false, false, false, false] rfl rfl (take_ofW HT_.out HW_.out (by kernel_rfl)) (fun _ _ _ h => h) (Or.inl ⟨by rfl, ?_⟩) hHeld ?_ ?_
      rotate_left
      · rintro w' hS
        have s0 : w'.cell? ⟨w.heap.size, 0, none⟩ = some (.int .i64 y) := bcl hS 0
        go_simp
        with_reducible rfl
      rotate_left
      · simp only [Act.put, sA, sB, sC, i64_w, i32_w]
        rfl
      refine pure_ (i := 5) (N := some 18) (v := ?_) (a' := ?_) #[true, true, true, true, true, true, false, false, false, false] rfl rfl (any_of HT_.out (by kernel_rfl)) (fun _ _ _ h => h) (Or.inl ⟨by rfl, ?_⟩) ?_ ?_
      rotate_left
      · intro w'
        go_simp
        with_reducible rfl
      rotate_left
      · simp only [Act.put, sA, sB, sC, i64_w, i32_w]
        rfl
      refine take_ (i := 6) (N := some 19) (v := ?_) (a' := ?_) #[true, true, true, true, true, true, true, false, false, false] rfl rfl (take_ofW HT_.out HW_.out (by kernel_rfl)) (fun _ _ _ h => h) (Or.inl ⟨by rfl, ?_⟩) hHeld ?_ ?_
      rotate_left
      · rintro w' hS
        have s0 : w'.cell? ⟨w.heap.size, 1, none⟩ = some (.int .i64 m) := bcl hS 1
        go_simp
        with_reducible rfl
      rotate_left
      · simp only [Act.put, sA, sB, sC, i64_w, i32_w]
        rfl
      refine one_ (i := 7) (N := some 20) #[true, true, true, true, true, true, true, true, false, false] rfl rfl (one_of HT_.out (by kernel_rfl)) (by decide) (fun K hK => ?_)
      refine goes_ Tryd.func67 (by kernel_rfl) rfl #[.int .i64 y, .int .i64 m] (by rfl) rfl rfl (by simp only [List.map_toArray, List.map_cons, List.map_nil]; rfl) ?_
      refine (month_calls y m _).mono ?_
      rintro e w3 ⟨rfl, hb⟩
      refine ⟨_, rfl, ?_⟩
      have hS3 := (hb.block _ (blk_lt hHeld)).trans hHeld
      have HB3 := Ad.mk (pbt HB1.out hb)
      clear hb HB1 hblk hHeld
      refine hK.out _ _ hS3 (fun hHeld => ?_)
      clear hK K hS3
      refine norm_ (a' := ?_) ?_ ?_
      rotate_left
      · show Act.put _ (some 20) _ = _
        simp only [Act.put, sA, sB, sC, i64_w, i32_w]
        rfl
      refine one_ (i := 8) (N := some 21) #[true, true, true, true, true, true, true, true, true, false] rfl rfl (one_of HT_.out (by kernel_rfl)) (by decide) (fun K hK => ?_)
      have he := enters_ Tryd.func66 (by kernel_rfl) rfl #[.int .i64 d, .int .i64 1, .int .i64 (monthDays y m)] w3
      refine call_ 66 #[.int .i64 d, .int .i64 1, .int .i64 (monthDays y m)] (by rfl) rfl ?_ ?_
      · go_simp
      refine (out_calls d 1 (monthDays y m) _).mono ?_
      rintro e w4 ⟨rfl, hw4⟩
      subst w4
      refine ⟨_, rfl, ?_⟩
      refine hK.out _ _ hHeld (fun hHeld => ?_)
      clear hK K he
      refine norm_ (a' := ?_) ?_ ?_
      rotate_left
      · show Act.put _ (some 21) _ = _
        simp only [Act.put, sA, sB, sC, i64_w, i32_w]
        rfl
      refine pure_ (i := 9) (N := some 4) (v := ?_) (a' := ?_) #[true, true, true, true, true, true, true, true, true, true] rfl rfl (any_of HT_.out (by kernel_rfl)) (fun _ _ _ h => h) (Or.inl ⟨by rfl, ?_⟩) ?_ ?_
      rotate_left
      · intro w'
        go_simp
        with_reducible rfl
      rotate_left
      · simp only [Act.put, sA, sB, sC, i64_w, i32_w]
        rfl
      refine done_ (by kernel_rfl) ?_
      have HBW := HB3
      have c0 : w3.cell? ⟨w.heap.size, 0, none⟩ = some (.int .i64 y) := bcl hHeld 0
      have c1 : w3.cell? ⟨w.heap.size, 1, none⟩ = some (.int .i64 m) := bcl hHeld 1
      have c2 : w3.cell? ⟨w.heap.size, 2, none⟩ = some (.int .i64 d) := bcl hHeld 2
      have c3 : w3.cell? ⟨w.heap.size, 3, none⟩ = some (.int .i64 h) := bcl hHeld 3
      have c4 : w3.cell? ⟨w.heap.size, 4, none⟩ = some (.int .i64 mi) := bcl hHeld 4
      have c5 : w3.cell? ⟨w.heap.size, 5, none⟩ = some (.int .i64 s) := bcl hHeld 5
      have c6 : w3.cell? ⟨w.heap.size, 6, none⟩ = some (.int .i64 n) := bcl hHeld 6
      clear hHeld HT_ HW_
      cases hC : outP d 1 (monthDays y m) with
      | true =>
        have hp : Ad (civilErr y m d h mi s n = 3) := ⟨by unfold civilErr; simp [HA.out, HB.out, hC]⟩
        clear hC
        go_wp2
        go_ret
        exact ⟨by rw [hp.out]; rfl, HBW.out⟩
      | false =>
        have HC := Ad.mk hC
        clear hC
        go_wp2_with fail
        refine (out_calls h 0 23 _).mono ?_
        rintro e w5 ⟨rfl, hw5⟩
        subst w5
        cases hD : outP h 0 23 with
        | true =>
          have hp : Ad (civilErr y m d h mi s n = 3) := ⟨by unfold civilErr; simp [HA.out, HB.out, HC.out, hD]⟩
          clear hD
          go_wp2
          go_ret
          exact ⟨by rw [hp.out]; rfl, HBW.out⟩
        | false =>
          have HD := Ad.mk hD
          clear hD
          go_wp2_with fail
          refine (out_calls mi 0 59 _).mono ?_
          rintro e w5 ⟨rfl, hw5⟩
          subst w5
          cases hE : outP mi 0 59 with
          | true =>
            have hp : Ad (civilErr y m d h mi s n = 3) := ⟨by unfold civilErr; simp [HA.out, HB.out, HC.out, HD.out, hE]⟩
            clear hE
            go_wp2
            go_ret
            exact ⟨by rw [hp.out]; rfl, HBW.out⟩
          | false =>
            have HE := Ad.mk hE
            clear hE
            go_wp2_with fail
            refine (out_calls s 0 59 _).mono ?_
            rintro e w5 ⟨rfl, hw5⟩
            subst w5
            cases hF : outP s 0 59 with
            | true =>
              have hp : Ad (civilErr y m d h mi s n = 3) := ⟨by unfold civilErr; simp [HA.out, HB.out, HC.out, HD.out, HE.out, hF]⟩
              clear hF
              go_wp2
              go_ret
              exact ⟨by rw [hp.out]; rfl, HBW.out⟩
            | false =>
              have HF := Ad.mk hF
              clear hF
              go_wp2_with fail
              refine (out_calls n 0 999999999 _).mono ?_
              rintro e w5 ⟨rfl, hw5⟩
              subst w5
              cases hG : outP n 0 999999999 with
              | true =>
                have hp : Ad (civilErr y m d h mi s n = 3) := ⟨by unfold civilErr; simp [HA.out, HB.out, HC.out, HD.out, HE.out, HF.out, hG]⟩
                clear hG
                go_wp2
                go_ret
                exact ⟨by rw [hp.out]; rfl, HBW.out⟩
              | false =>
                have HG := Ad.mk hG
                clear hG
                have hp : Ad (civilErr y m d h mi s n = 0) := ⟨by unfold civilErr; simp [HA.out, HB.out, HC.out, HD.out, HE.out, HF.out, HG.out]⟩
                go_wp2
                go_ret
                exact ⟨by rw [hp.out]; rfl, HBW.out⟩
theorem civil_MonthDays.calls (a0 a1 : Int) (r : Int) (w : World) (h : civil_MonthDays.f a0 a1 = some r) : Calls Tryd.prog 67 #[.int .i64 a0, .int .i64 a1] w fun e w' => e = .returned (.int .i64 r) ∧ Below w.heap.size w w' := by
  obtain rfl := Option.some.inj h
  exact month_calls a0 a1 w
theorem civil_Check.calls (a0_0 : Int) (a0_1 : Int) (a0_2 : Int) (a0_3 : Int) (a0_4 : Int) (a0_5 : Int) (a0_6 : Int) (r : Int) (w : World) (h : civil_Check.f a0_0 a0_1 a0_2 a0_3 a0_4 a0_5 a0_6 = some r) :
    Calls Tryd.prog 52 #[.agg #[.int .i64 a0_0, .int .i64 a0_1, .int .i64 a0_2, .int .i64 a0_3, .int .i64 a0_4, .int .i64 a0_5, .int .i64 a0_6]] w fun e w' => e = .returned (.int .i64 r) ∧ Below w.heap.size w w' := by
  obtain rfl := Option.some.inj h
  exact check_calls _ _ _ _ _ _ _ w
end Go.Proofs.YtipbkcilpnlgnaaDoor.M
