/-
  logbook.checkEntry by hand, and small facts of blocks.
-/
import Derived.Test.YtjhifhnjkpoofaaDoorM2
import Derived.Test.YtjhifhnjkpoofaaDoorMap
namespace Go.Proofs.YtjhifhnjkpoofaaDoor.M
open Go.RowKit Go.Proofs.YtjhifhnjkpoofaaDoorG Go.Proofs.YtjhifhnjkpoofaaDoorW.PrintWords Go.Proofs.YtjhifhnjkpoofaaDoorW.PrintLast Go.Proofs.YtjhifhnjkpoofaaDoorW.PrintMore
set_option linter.unusedVariables false
set_option linter.unusedSimpArgs false
namespace O
theorem block_new (w : World) (o : Obj) : (w.alloc o).heap[w.heap.size]? = some o := by
  show (w.heap.push o)[w.heap.size]? = _
  simp
def Box (w : World) (b : Nat) (x : S37) : Prop := w.heap[b]? = some (.cells #[.int .i64 x.f0, .int .i64 x.f1, .int .i64 x.f2, .int .i64 x.f3, .int .i64 x.f4, .int .i64 x.f5] 37 (0, 0))
theorem Box.cells {w : World} {b : Nat} {x : S37} (h : Box w b x) : w.cell? ⟨b, 0, none⟩ = some (.int .i64 x.f0) ∧ w.cell? ⟨b, 1, none⟩ = some (.int .i64 x.f1) ∧ w.cell? ⟨b, 2, none⟩ = some (.int .i64 x.f2) ∧
    w.cell? ⟨b, 3, none⟩ = some (.int .i64 x.f3) ∧ w.cell? ⟨b, 4, none⟩ = some (.int .i64 x.f4) ∧ w.cell? ⟨b, 5, none⟩ = some (.int .i64 x.f5) := by
  unfold Box at h
  simp [World.cell?, h]
theorem lt_of_some {w : World} {b : Nat} {o : Obj} (h : w.heap[b]? = some o) : b < w.heap.size := (Array.getElem?_eq_some_iff.1 h).1
theorem within_eq (n lo hi : Int) : logbook_within.f n lo hi = some (decide (lo ≤ n ∧ n ≤ hi)) := by
  unfold logbook_within.f
  by_cases h : lo ≤ n <;> simp [h]
end O
set_option maxHeartbeats 3200000 in
set_option maxRecDepth 100000 in
theorem checkEntry_walk (x : S37) (w : World) :
    Calls Tryd.prog 22 #[.agg #[.int .i64 x.f0, .int .i64 x.f1, .int .i64 x.f2, .int .i64 x.f3, .int .i64 x.f4, .int .i64 x.f5]] w fun e w' => e = .returned (.int .i64 (errOf x)) ∧ Below w.heap.size w w' := by
  have hu37 := Tryd.underlying37
  have HB := Aside0.mk (Below.refl w.heap.size w)
  obtain ⟨er, her⟩ : ∃ er, er = errOf x := ⟨_, rfl⟩
  rw [← her]
  have HE := Aside0.mk her
  clear her
  by_cases h0 : 1 ≤ x.f0 ∧ x.f0 ≤ 4
  · have d0 : decide (1 ≤ x.f0 ∧ x.f0 ≤ 4) = true := decide_eq_true h0
    by_cases h1 : 0 ≤ x.f1 ∧ x.f1 ≤ 23
    · have d1 : decide (0 ≤ x.f1 ∧ x.f1 ≤ 23) = true := decide_eq_true h1
      by_cases h2 : 0 ≤ x.f2 ∧ x.f2 ≤ 23
      · have d2 : decide (0 ≤ x.f2 ∧ x.f2 ≤ 23) = true := decide_eq_true h2
        by_cases h3 : 0 ≤ x.f3 ∧ x.f3 ≤ 2147483647
        · have d3 : decide (0 ≤ x.f3 ∧ x.f3 ≤ 2147483647) = true := decide_eq_true h3
          by_cases h4 : -4503599627370496 ≤ x.f4 ∧ x.f4 ≤ 4503599627370496
          · have d4 : decide (-4503599627370496 ≤ x.f4 ∧ x.f4 ≤ 4503599627370496) = true := decide_eq_true h4
            by_cases h5 : -4503599627370496 ≤ x.f5 ∧ x.f5 ≤ 4503599627370496
            · have d5 : decide (-4503599627370496 ≤ x.f5 ∧ x.f5 ≤ 4503599627370496) = true := decide_eq_true h5
              have hr : 0 ≤ x.f1 ∧ x.f1 ≤ 23 ∧ 0 ≤ x.f2 ∧ x.f2 ≤ 23 ∧ 0 ≤ x.f3 ∧ x.f3 ≤ 2147483647 ∧ -4503599627370496 ≤ x.f4 ∧ x.f4 ≤ 4503599627370496 ∧ -4503599627370496 ≤ x.f5 ∧ x.f5 ≤ 4503599627370496 := by omega
              have HMS : Aside0 (logbook_message.f x.f0 x.f1 x.f2 x.f3 x.f4 x.f5 = some (decide (x.f0 = 1 ∨ x.f0 = 2))) := ⟨by
                unfold logbook_message.f
                by_cases h1 : x.f0 = 1 <;> by_cases h2 : x.f0 = 2 <;> simp [h1, h2]⟩
              by_cases m : x.f0 = 1 ∨ x.f0 = 2
              · rw [decide_eq_true m] at HMS
                have k3 : ¬ x.f0 = 3 := by omega
                have b3 : (x.f0 != 3) = true := bne_iff_ne.mpr k3
                by_cases v0 : x.f5 = 0
                · have bv : (x.f5 != 0) = false := bne_eq_false_iff_eq.mpr v0
                  by_cases e12 : x.f1 = x.f2
                  · have be : (x.f1 == x.f2) = true := beq_iff_eq.mpr e12
                    have HF : Aside0 (er = 7) := ⟨by rw [HE.out]; unfold errOf; rw [if_neg (not_not_intro h0), if_neg (not_not_intro hr)]; simp [m, k3, v0, e12]⟩
                    clear hr h0 h1 h2 h3 h4 h5 m k3 v0 e12
                    go_enter Tryd.func22, Tryd.ntmps22
                    go_wp2_with (first | (go_at_call 36; refine (logbook_within.calls _ _ _ _ _ (O.within_eq _ _ _)).mono ?_; rintro e w1 ⟨rfl, ⟨n1, rfl⟩⟩) | (go_at_call 23; refine (logbook_message.calls _ _ _ _ _ _ _ _ HMS.out).mono ?_; rintro e w2 ⟨rfl, hb2⟩; have hx : O.Box w2 w.heap.size x := (hb2.block _ (O.lt_of_some (by first | exact HX.out | exact O.block_new w (.cells #[.int .i64 x.f0, .int .i64 x.f1, .int .i64 x.f2, .int .i64 x.f3, .int .i64 x.f4, .int .i64 x.f5] 37)))).trans (by first | exact HX.out | exact O.block_new w (.cells #[.int .i64 x.f0, .int .i64 x.f1, .int .i64 x.f2, .int .i64 x.f3, .int .i64 x.f4, .int .i64 x.f5] 37)); have HX := Aside0.mk hx; obtain ⟨z0, z1, z2, z3, z4, z5⟩ := hx.cells; have HB2 := Aside0.mk (below_step (by first | exact HB2.out | (repeat (first | (with_reducible first | exact HB.out | apply below_alloc | apply pw_below_drewN | apply below_drew1) | exact HB.out))) hb2); clear hb2) | go_in)
                    go_ret
                    exact ⟨by rw [HF.out]; rfl, HB2.out⟩
                  · have be : (x.f1 == x.f2) = false := beq_eq_false_iff_ne.mpr e12
                    have HF : Aside0 (er = 0) := ⟨by rw [HE.out]; unfold errOf; rw [if_neg (not_not_intro h0), if_neg (not_not_intro hr)]; simp [m, k3, v0, e12]⟩
                    clear hr h0 h1 h2 h3 h4 h5 m k3 v0 e12
                    go_enter Tryd.func22, Tryd.ntmps22
                    go_wp2_with (first | (go_at_call 36; refine (logbook_within.calls _ _ _ _ _ (O.within_eq _ _ _)).mono ?_; rintro e w1 ⟨rfl, ⟨n1, rfl⟩⟩) | (go_at_call 23; refine (logbook_message.calls _ _ _ _ _ _ _ _ HMS.out).mono ?_; rintro e w2 ⟨rfl, hb2⟩; have hx : O.Box w2 w.heap.size x := (hb2.block _ (O.lt_of_some (by first | exact HX.out | exact O.block_new w (.cells #[.int .i64 x.f0, .int .i64 x.f1, .int .i64 x.f2, .int .i64 x.f3, .int .i64 x.f4, .int .i64 x.f5] 37)))).trans (by first | exact HX.out | exact O.block_new w (.cells #[.int .i64 x.f0, .int .i64 x.f1, .int .i64 x.f2, .int .i64 x.f3, .int .i64 x.f4, .int .i64 x.f5] 37)); have HX := Aside0.mk hx; obtain ⟨z0, z1, z2, z3, z4, z5⟩ := hx.cells; have HB2 := Aside0.mk (below_step (by first | exact HB2.out | (repeat (first | (with_reducible first | exact HB.out | apply below_alloc | apply pw_below_drewN | apply below_drew1) | exact HB.out))) hb2); clear hb2) | go_in)
                    go_ret
                    exact ⟨by rw [HF.out]; rfl, HB2.out⟩
                · have bv : (x.f5 != 0) = true := bne_iff_ne.mpr v0
                  have HF : Aside0 (er = 7) := ⟨by rw [HE.out]; unfold errOf; rw [if_neg (not_not_intro h0), if_neg (not_not_intro hr)]; simp [m, k3, v0]⟩
                  clear hr h0 h1 h2 h3 h4 h5 m k3 v0
                  go_enter Tryd.func22, Tryd.ntmps22
                  go_wp2_with (first | (go_at_call 36; refine (logbook_within.calls _ _ _ _ _ (O.within_eq _ _ _)).mono ?_; rintro e w1 ⟨rfl, ⟨n1, rfl⟩⟩) | (go_at_call 23; refine (logbook_message.calls _ _ _ _ _ _ _ _ HMS.out).mono ?_; rintro e w2 ⟨rfl, hb2⟩; have hx : O.Box w2 w.heap.size x := (hb2.block _ (O.lt_of_some (by first | exact HX.out | exact O.block_new w (.cells #[.int .i64 x.f0, .int .i64 x.f1, .int .i64 x.f2, .int .i64 x.f3, .int .i64 x.f4, .int .i64 x.f5] 37)))).trans (by first | exact HX.out | exact O.block_new w (.cells #[.int .i64 x.f0, .int .i64 x.f1, .int .i64 x.f2, .int .i64 x.f3, .int .i64 x.f4, .int .i64 x.f5] 37)); have HX := Aside0.mk hx; obtain ⟨z0, z1, z2, z3, z4, z5⟩ := hx.cells; have HB2 := Aside0.mk (below_step (by first | exact HB2.out | (repeat (first | (with_reducible first | exact HB.out | apply below_alloc | apply pw_below_drewN | apply below_drew1) | exact HB.out))) hb2); clear hb2) | go_in)
                  go_ret
                  exact ⟨by rw [HF.out]; rfl, HB2.out⟩
              · rw [decide_eq_false m] at HMS
                by_cases p0 : x.f2 = 0
                · have bp : (x.f2 != 0) = false := bne_eq_false_iff_eq.mpr p0
                  by_cases q0 : x.f3 = 0
                  · have bq : (x.f3 != 0) = false := bne_eq_false_iff_eq.mpr q0
                    by_cases k3 : x.f0 = 3
                    · have b3 : (x.f0 != 3) = false := bne_eq_false_iff_eq.mpr k3
                      have HF : Aside0 (er = 0) := ⟨by rw [HE.out]; unfold errOf; rw [if_neg (not_not_intro h0), if_neg (not_not_intro hr)]; simp [p0, q0, k3]⟩
                      clear hr h0 h1 h2 h3 h4 h5 m p0 q0 k3
                      go_enter Tryd.func22, Tryd.ntmps22
                      go_wp2_with (first | (go_at_call 36; refine (logbook_within.calls _ _ _ _ _ (O.within_eq _ _ _)).mono ?_; rintro e w1 ⟨rfl, ⟨n1, rfl⟩⟩) | (go_at_call 23; refine (logbook_message.calls _ _ _ _ _ _ _ _ HMS.out).mono ?_; rintro e w2 ⟨rfl, hb2⟩; have hx : O.Box w2 w.heap.size x := (hb2.block _ (O.lt_of_some (by first | exact HX.out | exact O.block_new w (.cells #[.int .i64 x.f0, .int .i64 x.f1, .int .i64 x.f2, .int .i64 x.f3, .int .i64 x.f4, .int .i64 x.f5] 37)))).trans (by first | exact HX.out | exact O.block_new w (.cells #[.int .i64 x.f0, .int .i64 x.f1, .int .i64 x.f2, .int .i64 x.f3, .int .i64 x.f4, .int .i64 x.f5] 37)); have HX := Aside0.mk hx; obtain ⟨z0, z1, z2, z3, z4, z5⟩ := hx.cells; have HB2 := Aside0.mk (below_step (by first | exact HB2.out | (repeat (first | (with_reducible first | exact HB.out | apply below_alloc | apply pw_below_drewN | apply below_drew1) | exact HB.out))) hb2); clear hb2) | go_in)
                      go_ret
                      exact ⟨by rw [HF.out]; rfl, HB2.out⟩
                    · have b3 : (x.f0 != 3) = true := bne_iff_ne.mpr k3
                      by_cases v0 : x.f5 = 0
                      · have bv : (x.f5 != 0) = false := bne_eq_false_iff_eq.mpr v0
                        have HF : Aside0 (er = 0) := ⟨by rw [HE.out]; unfold errOf; rw [if_neg (not_not_intro h0), if_neg (not_not_intro hr)]; simp [m, p0, q0, k3, v0]⟩
                        clear hr h0 h1 h2 h3 h4 h5 m p0 q0 k3 v0
                        go_enter Tryd.func22, Tryd.ntmps22
                        go_wp2_with (first | (go_at_call 36; refine (logbook_within.calls _ _ _ _ _ (O.within_eq _ _ _)).mono ?_; rintro e w1 ⟨rfl, ⟨n1, rfl⟩⟩) | (go_at_call 23; refine (logbook_message.calls _ _ _ _ _ _ _ _ HMS.out).mono ?_; rintro e w2 ⟨rfl, hb2⟩; have hx : O.Box w2 w.heap.size x := (hb2.block _ (O.lt_of_some (by first | exact HX.out | exact O.block_new w (.cells #[.int .i64 x.f0, .int .i64 x.f1, .int .i64 x.f2, .int .i64 x.f3, .int .i64 x.f4, .int .i64 x.f5] 37)))).trans (by first | exact HX.out | exact O.block_new w (.cells #[.int .i64 x.f0, .int .i64 x.f1, .int .i64 x.f2, .int .i64 x.f3, .int .i64 x.f4, .int .i64 x.f5] 37)); have HX := Aside0.mk hx; obtain ⟨z0, z1, z2, z3, z4, z5⟩ := hx.cells; have HB2 := Aside0.mk (below_step (by first | exact HB2.out | (repeat (first | (with_reducible first | exact HB.out | apply below_alloc | apply pw_below_drewN | apply below_drew1) | exact HB.out))) hb2); clear hb2) | go_in)
                        go_ret
                        exact ⟨by rw [HF.out]; rfl, HB2.out⟩
                      · have bv : (x.f5 != 0) = true := bne_iff_ne.mpr v0
                        have HF : Aside0 (er = 7) := ⟨by rw [HE.out]; unfold errOf; rw [if_neg (not_not_intro h0), if_neg (not_not_intro hr)]; simp [m, p0, q0, k3, v0]⟩
                        clear hr h0 h1 h2 h3 h4 h5 m p0 q0 k3 v0
                        go_enter Tryd.func22, Tryd.ntmps22
                        go_wp2_with (first | (go_at_call 36; refine (logbook_within.calls _ _ _ _ _ (O.within_eq _ _ _)).mono ?_; rintro e w1 ⟨rfl, ⟨n1, rfl⟩⟩) | (go_at_call 23; refine (logbook_message.calls _ _ _ _ _ _ _ _ HMS.out).mono ?_; rintro e w2 ⟨rfl, hb2⟩; have hx : O.Box w2 w.heap.size x := (hb2.block _ (O.lt_of_some (by first | exact HX.out | exact O.block_new w (.cells #[.int .i64 x.f0, .int .i64 x.f1, .int .i64 x.f2, .int .i64 x.f3, .int .i64 x.f4, .int .i64 x.f5] 37)))).trans (by first | exact HX.out | exact O.block_new w (.cells #[.int .i64 x.f0, .int .i64 x.f1, .int .i64 x.f2, .int .i64 x.f3, .int .i64 x.f4, .int .i64 x.f5] 37)); have HX := Aside0.mk hx; obtain ⟨z0, z1, z2, z3, z4, z5⟩ := hx.cells; have HB2 := Aside0.mk (below_step (by first | exact HB2.out | (repeat (first | (with_reducible first | exact HB.out | apply below_alloc | apply pw_below_drewN | apply below_drew1) | exact HB.out))) hb2); clear hb2) | go_in)
                        go_ret
                        exact ⟨by rw [HF.out]; rfl, HB2.out⟩
                  · have bq : (x.f3 != 0) = true := bne_iff_ne.mpr q0
                    have HF : Aside0 (er = 7) := ⟨by rw [HE.out]; unfold errOf; rw [if_neg (not_not_intro h0), if_neg (not_not_intro hr)]; simp [m, p0, q0]⟩
                    clear hr h0 h1 h2 h3 h4 h5 m p0 q0
                    go_enter Tryd.func22, Tryd.ntmps22
                    go_wp2_with (first | (go_at_call 36; refine (logbook_within.calls _ _ _ _ _ (O.within_eq _ _ _)).mono ?_; rintro e w1 ⟨rfl, ⟨n1, rfl⟩⟩) | (go_at_call 23; refine (logbook_message.calls _ _ _ _ _ _ _ _ HMS.out).mono ?_; rintro e w2 ⟨rfl, hb2⟩; have hx : O.Box w2 w.heap.size x := (hb2.block _ (O.lt_of_some (by first | exact HX.out | exact O.block_new w (.cells #[.int .i64 x.f0, .int .i64 x.f1, .int .i64 x.f2, .int .i64 x.f3, .int .i64 x.f4, .int .i64 x.f5] 37)))).trans (by first | exact HX.out | exact O.block_new w (.cells #[.int .i64 x.f0, .int .i64 x.f1, .int .i64 x.f2, .int .i64 x.f3, .int .i64 x.f4, .int .i64 x.f5] 37)); have HX := Aside0.mk hx; obtain ⟨z0, z1, z2, z3, z4, z5⟩ := hx.cells; have HB2 := Aside0.mk (below_step (by first | exact HB2.out | (repeat (first | (with_reducible first | exact HB.out | apply below_alloc | apply pw_below_drewN | apply below_drew1) | exact HB.out))) hb2); clear hb2) | go_in)
                    go_ret
                    exact ⟨by rw [HF.out]; rfl, HB2.out⟩
                · have bp : (x.f2 != 0) = true := bne_iff_ne.mpr p0
                  have HF : Aside0 (er = 7) := ⟨by rw [HE.out]; unfold errOf; rw [if_neg (not_not_intro h0), if_neg (not_not_intro hr)]; simp [m, p0]⟩
                  clear hr h0 h1 h2 h3 h4 h5 m p0
                  go_enter Tryd.func22, Tryd.ntmps22
                  go_wp2_with (first | (go_at_call 36; refine (logbook_within.calls _ _ _ _ _ (O.within_eq _ _ _)).mono ?_; rintro e w1 ⟨rfl, ⟨n1, rfl⟩⟩) | (go_at_call 23; refine (logbook_message.calls _ _ _ _ _ _ _ _ HMS.out).mono ?_; rintro e w2 ⟨rfl, hb2⟩; have hx : O.Box w2 w.heap.size x := (hb2.block _ (O.lt_of_some (by first | exact HX.out | exact O.block_new w (.cells #[.int .i64 x.f0, .int .i64 x.f1, .int .i64 x.f2, .int .i64 x.f3, .int .i64 x.f4, .int .i64 x.f5] 37)))).trans (by first | exact HX.out | exact O.block_new w (.cells #[.int .i64 x.f0, .int .i64 x.f1, .int .i64 x.f2, .int .i64 x.f3, .int .i64 x.f4, .int .i64 x.f5] 37)); have HX := Aside0.mk hx; obtain ⟨z0, z1, z2, z3, z4, z5⟩ := hx.cells; have HB2 := Aside0.mk (below_step (by first | exact HB2.out | (repeat (first | (with_reducible first | exact HB.out | apply below_alloc | apply pw_below_drewN | apply below_drew1) | exact HB.out))) hb2); clear hb2) | go_in)
                  go_ret
                  exact ⟨by rw [HF.out]; rfl, HB2.out⟩
            · have d5 : decide (-4503599627370496 ≤ x.f5 ∧ x.f5 ≤ 4503599627370496) = false := decide_eq_false h5
              have HF : Aside0 (er = 3) := ⟨by rw [HE.out]; unfold errOf; rw [if_neg (not_not_intro h0), if_pos (by omega)]⟩
              clear h0 h1 h2 h3 h4 h5
              go_enter Tryd.func22, Tryd.ntmps22
              go_wp2_with (first | (go_at_call 36; refine (logbook_within.calls _ _ _ _ _ (O.within_eq _ _ _)).mono ?_; rintro e w1 ⟨rfl, ⟨n1, rfl⟩⟩) | go_in)
              go_ret
              exact ⟨by rw [HF.out]; rfl, (by repeat (first | (with_reducible first | exact HB.out | apply below_alloc | apply pw_below_drewN | apply below_drew1) | exact HB.out))⟩
          · have d4 : decide (-4503599627370496 ≤ x.f4 ∧ x.f4 ≤ 4503599627370496) = false := decide_eq_false h4
            have HF : Aside0 (er = 3) := ⟨by rw [HE.out]; unfold errOf; rw [if_neg (not_not_intro h0), if_pos (by omega)]⟩
            clear h0 h1 h2 h3 h4
            go_enter Tryd.func22, Tryd.ntmps22
            go_wp2_with (first | (go_at_call 36; refine (logbook_within.calls _ _ _ _ _ (O.within_eq _ _ _)).mono ?_; rintro e w1 ⟨rfl, ⟨n1, rfl⟩⟩) | go_in)
            go_ret
            exact ⟨by rw [HF.out]; rfl, (by repeat (first | (with_reducible first | exact HB.out | apply below_alloc | apply pw_below_drewN | apply below_drew1) | exact HB.out))⟩
        · have d3 : decide (0 ≤ x.f3 ∧ x.f3 ≤ 2147483647) = false := decide_eq_false h3
          have HF : Aside0 (er = 3) := ⟨by rw [HE.out]; unfold errOf; rw [if_neg (not_not_intro h0), if_pos (by omega)]⟩
          clear h0 h1 h2 h3
          go_enter Tryd.func22, Tryd.ntmps22
          go_wp2_with (first | (go_at_call 36; refine (logbook_within.calls _ _ _ _ _ (O.within_eq _ _ _)).mono ?_; rintro e w1 ⟨rfl, ⟨n1, rfl⟩⟩) | go_in)
          go_ret
          exact ⟨by rw [HF.out]; rfl, (by repeat (first | (with_reducible first | exact HB.out | apply below_alloc | apply pw_below_drewN | apply below_drew1) | exact HB.out))⟩
      · have d2 : decide (0 ≤ x.f2 ∧ x.f2 ≤ 23) = false := decide_eq_false h2
        have HF : Aside0 (er = 3) := ⟨by rw [HE.out]; unfold errOf; rw [if_neg (not_not_intro h0), if_pos (by omega)]⟩
        clear h0 h1 h2
        go_enter Tryd.func22, Tryd.ntmps22
        go_wp2_with (first | (go_at_call 36; refine (logbook_within.calls _ _ _ _ _ (O.within_eq _ _ _)).mono ?_; rintro e w1 ⟨rfl, ⟨n1, rfl⟩⟩) | go_in)
        go_ret
        exact ⟨by rw [HF.out]; rfl, (by repeat (first | (with_reducible first | exact HB.out | apply below_alloc | apply pw_below_drewN | apply below_drew1) | exact HB.out))⟩
    · have d1 : decide (0 ≤ x.f1 ∧ x.f1 ≤ 23) = false := decide_eq_false h1
      have HF : Aside0 (er = 3) := ⟨by rw [HE.out]; unfold errOf; rw [if_neg (not_not_intro h0), if_pos (by omega)]⟩
      clear h0 h1
      go_enter Tryd.func22, Tryd.ntmps22
      go_wp2_with (first | (go_at_call 36; refine (logbook_within.calls _ _ _ _ _ (O.within_eq _ _ _)).mono ?_; rintro e w1 ⟨rfl, ⟨n1, rfl⟩⟩) | go_in)
      go_ret
      exact ⟨by rw [HF.out]; rfl, (by repeat (first | (with_reducible first | exact HB.out | apply below_alloc | apply pw_below_drewN | apply below_drew1) | exact HB.out))⟩
  · have d0 : decide (1 ≤ x.f0 ∧ x.f0 ≤ 4) = false := decide_eq_false h0
    have HF : Aside0 (er = 8) := ⟨by rw [HE.out]; unfold errOf; rw [if_pos h0]⟩
    clear h0
    go_enter Tryd.func22, Tryd.ntmps22
    go_wp2_with (first | (go_at_call 36; refine (logbook_within.calls _ _ _ _ _ (O.within_eq _ _ _)).mono ?_; rintro e w1 ⟨rfl, ⟨n1, rfl⟩⟩) | go_in)
    go_ret
    exact ⟨by rw [HF.out]; rfl, (by repeat (first | (with_reducible first | exact HB.out | apply below_alloc | apply pw_below_drewN | apply below_drew1) | exact HB.out))⟩
end Go.Proofs.YtjhifhnjkpoofaaDoor.M
