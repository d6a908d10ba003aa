/-
  The law LogbookMatches by hand: each pair is a message's sending and reception, no entry is in two pairs, every reception whose sending is there is in one.
-/
import Derived.Test.YtjhifhnjkpoofaaDoorPm
import Derived.Test.YtjhifhnjkpoofaaDoorPb
import Derived.Test.YtjhifhnjkpoofaaDoorM13A
import Derived.Test.YtjhifhnjkpoofaaDoorExtL
namespace Go.Proofs.YtjhifhnjkpoofaaDoor.M
open Go.RowKit Go.Proofs.YtjhifhnjkpoofaaDoorG Go.Proofs.YtjhifhnjkpoofaaDoorW.PrintWords Go.Proofs.YtjhifhnjkpoofaaDoorW.PrintLast Go.Proofs.YtjhifhnjkpoofaaDoorW.PrintMore
set_option linter.unusedVariables false
set_option linter.unusedSimpArgs false
theorem info4 : (Tryd.prog.info? 4).map (fun i => (i.zero, i.size, i.bytes)) = some (some (.bool false), 1, 1) := by kernel_rfl
section
variable {P : Program} {ops : Array Oper} {Q : Exit → Act → World → Prop} {md : Region.Mode} {S : World → Prop} {ds : List Nat}
theorem two_ {i j : Nat} {Ni Nj : Option Tmp} {oi oj : Oper} {fuel : Nat} {l : Array Bool} {a : Act} {w : World} (li lj : Array Bool) (hi : ops[i]? = some oi) (hj : ops[j]? = some oj) (hNi : oi.dst = Ni) (hNj : oj.dst = Nj)
    (hc : (Region.ready md ops l == [i, j] && l.setIfInBounds i true == li && l.setIfInBounds j true == lj) = true) (hdi : i ∉ ds) (hdj : j ∉ ds)
    (h1 : ∀ K : Act → World → Prop, Shut (∀ a' w', S w' → (S w' → wpAnyLast P md ops Q S ds fuel li a' w') → K a' w') → if Region.wanted oi (yielded ops a.tmps) = true then Oper.wp P oi a w K Q else K (a.put Ni undef) w)
    (h2 : ∀ K : Act → World → Prop, Shut (∀ a' w', S w' → (S w' → wpAnyLast P md ops Q S ds fuel lj a' w') → K a' w') → if Region.wanted oj (yielded ops a.tmps) = true then Oper.wp P oj a w K Q else K (a.put Nj undef) w) :
    wpAnyLast P md ops Q S ds (fuel + 1) l a w := by
  subst hNi
  subst hNj
  simp only [Bool.and_eq_true, beq_iff_eq] at hc
  obtain ⟨⟨h3, h4⟩, h5⟩ := hc
  subst h4
  subst h5
  exact wpAnyLast_ready h3 (by simp) (AllReadyL.cons hi hdi (fun K hK => h1 K hK) (AllReadyL.cons hj hdj (fun K hK => h2 K hK) AllReadyL.nil))
def putAll : Act → List (Tmp × Value) → Act
  | a, [] => a
  | a, (n, v) :: r => putAll (a.put (some n) v) r
theorem join_ {σ : Type} {fuel : Nat} {l : Array Bool} {a : Act} {w : World} (fuel' : Nat) (l' : Array Bool) (ns : σ → List (Tmp × Value)) (F : σ → World → Prop)
    (hcont : ∀ s w', F s w' → wpAnyLast P md ops Q S ds fuel' l' (putAll a (ns s)) w')
    (h : (∀ s w', F s w' → wpAnyLast P md ops Q S ds fuel' l' (putAll a (ns s)) w') → wpAnyLast P md ops Q S ds fuel l a w) : wpAnyLast P md ops Q S ds fuel l a w := h hcont
theorem skip_ {oi : Oper} {a : Act} {w w1 : World} {K : Act → World → Prop} (hw : Region.wanted oi (yielded ops a.tmps) = true) (hN : oi.dst = none) (hrun : (execOp a.eval oi).run P w = .ok .skip w1)
    (h : K a w1) : if Region.wanted oi (yielded ops a.tmps) = true then Oper.wp P oi a w K Q else K (a.put none undef) w := by
  rw [if_pos hw]
  unfold Oper.wp
  rw [hrun]
  show K (a.put oi.dst undef) w1
  rw [hN]
  exact h
end
theorem make_used (n : Nat) (hn : n ≤ 100000) : ∀ W : World, (Instr.makeSlice 35 (.int .i64 (n : Int)) (.int .i64 (n : Int))).run Tryd.prog W = .ok (.slice (some ⟨W.heap.size, 0, none⟩) n n) (W.alloc (.cells (usedCells n (fun _ => false)) 4)) := by
  intro W
  obtain ⟨i, hi, hz, hs, hb⟩ := info_parts info4
  have h := run_makeSlice W 35 4 i (.bool false) Tryd.underlying35 hi hz .i64 .i64 (n : Int) (n : Int) (by omega) (by omega) (by rw [hs]; simp; omega) (by rw [hb]; omega) (by omega)
  have hc : madeCells (Value.bool false).cells n = usedCells n (fun _ => false) := by
    unfold usedCells madeCells
    apply Array.ext
    · simp
    · intro j h1 h2
      simp [Value.cells, Nat.mod_one]
  rw [h, hs, Int.toNat_natCast, Nat.mul_one, hc]
theorem sets6_far (W : World) (b k : Nat) (x : S37) (h : k ≠ b) :
    ((((((W.setCell ⟨b, 0, none⟩ (.int .i64 x.f0)).setCell ⟨b, 1, none⟩ (.int .i64 x.f1)).setCell ⟨b, 2, none⟩ (.int .i64 x.f2)).setCell ⟨b, 3, none⟩ (.int .i64 x.f3)).setCell ⟨b, 4, none⟩ (.int .i64 x.f4)).setCell ⟨b, 5, none⟩ (.int .i64 x.f5)).heap[k]? = W.heap[k]? := by
  rw [Below.heap_setCell _ _ _ _ h, Below.heap_setCell _ _ _ _ h, Below.heap_setCell _ _ _ _ h, Below.heap_setCell _ _ _ _ h, Below.heap_setCell _ _ _ _ h, Below.heap_setCell _ _ _ _ h]
def m11T : Bool × List (List Nat × List Nat) := (true, [([], []), ([], []), ([1], [1]), ([0, 2], [0, 2]), ([3], [3]), ([], []), ([], []), ([6], [6]), ([5, 7], [5, 7]), ([8], [8]), ([], []), ([], []), ([10, 4, 0, 1, 2, 3, 4, 10, 11], [4, 10]), ([11, 9, 12, 0, 1, 2, 3, 4, 5, 6, 7, 8, 9, 10, 11, 12], [9, 11])])
def m11B : List Nat := [0, 0, 2, 7, 15, 0, 0, 64, 224, 480, 0, 0, 3103, 8191]
theorem m11t : rtab .any (opsOf Tryd.f6 11) = m11T := by kernel_rfl
theorem m11b : waitsOk m11T.2 m11B = true := by kernel_rfl
def m14T : Bool × List (List Nat × List Nat) := (true, [([], []), ([], []), ([1], [1]), ([], []), ([], []), ([4], [4]), ([0, 2, 0, 1, 2], [0, 2]), ([6, 0, 1, 2], [6]), ([3, 5, 0, 1, 2, 3, 4, 5, 6, 7], [3, 5]), ([8, 7, 0, 1, 2, 3, 4, 5, 6, 7], [8])])
def m14B : List Nat := [0, 0, 2, 0, 0, 16, 7, 71, 255, 511]
theorem m14t : rtab .any (opsOf Tryd.f6 14) = m14T := by kernel_rfl
theorem m14b : waitsOk m14T.2 m14B = true := by kernel_rfl
set_option maxHeartbeats 3200000 in
set_option maxRecDepth 100000 in
theorem matches_calls (A0 : Option Addr) (c0 : Nat) (l0 : List S37) (w : World) (hG : Glob w) (hr0 : Kd.C k37 w A0 l0.length l0) (hc0 : l0.length ≤ c0) :
    Calls Tryd.prog 6 #[.slice A0 l0.length c0] w fun e w' => e = .returned (.bool true) ∧ Below w.heap.size w w' := by
  have hu37 := Tryd.underlying37
  have hu33 := Tryd.underlying33
  have HR0 := Aside0.mk hr0
  have HC0 := Aside0.mk hc0
  have HG := Aside0.mk hG
  clear hr0 hc0 hG
  have HB := Aside0.mk (Below.refl w.heap.size w)
  go_enter Tryd.func6, Tryd.ntmps6
  by_cases cl : (l0.length : Int) > 512
  · have clb : decide ((512 : Int) < (l0.length : Int)) = true := decide_eq_true cl
    have clb2 : decide ((l0.length : Int) > 512) = true := decide_eq_true cl
    go_wp2_with fail
    refine (timesynclaw50_awake.calls 200 true _ (HG.out.below HB.out) awake_true).mono ?_
    rintro e w1 ⟨rfl, hb1⟩
    have HB1 := Aside0.mk (below_step HB.out hb1)
    go_wp2
    go_ret
    exact ⟨rfl, HB1.out⟩
  · have clb : decide ((512 : Int) < (l0.length : Int)) = false := decide_eq_false cl
    have clb2 : decide ((l0.length : Int) > 512) = false := decide_eq_false cl
    have HL : Aside0 (l0.length ≤ 512) := ⟨by omega⟩
    go_wp2_with fail
    refine (check_calls _ _ l0 _ HR0.out HC0.out).mono ?_
    rintro e w1 ⟨rfl, hb1⟩
    have HB1 := Aside0.mk hb1
    clear hb1 HB
    by_cases c2 : chk l0 = 0
    · have c2b : (chk l0 != 0) = false := bne_eq_false_iff_eq.mpr c2
      have HPO := Aside0.mk (pairs_ok l0 c2)
      have HPL2 : Aside0 ((pairsFrom (sentFrom l0 0 none) l0 0).length ≤ 100000) := ⟨by have := pairs_len (sentFrom l0 0 none) l0 0; have := HL.out; omega⟩
      have hC1 := Kd.C_below HR0.out HB1.out
      have HP := pairs_calls A0 c0 l0 w1 hC1 HC0.out
      rw [if_pos c2] at HP
      generalize pairsFrom (sentFrom l0 0 none) l0 0 = P at *
      have HPP := Aside0.mk HP
      clear HP hC1 c2
      go_wp2_with fail
      refine HPP.out.mono ?_
      rintro e w2 ⟨v0, rfl, ho, hb⟩
      have HB2 := Aside0.mk (below_step HB1.out hb)
      have HO2 := Aside0.mk (Kd.R_lower ho HB1.out.size)
      clear ho hb HB1 HPP
      obtain ⟨AP, cP, hv⟩ := Kd.R_slice HO2.out
      subst hv
      have hmk := make_used l0.length (by have := HL.out; omega)
      go_wp2
      have HU0 : Aside0 ((w2.alloc (.cells (usedCells l0.length (fun _ => false)) 4)).heap[w2.heap.size]? = some (.cells (usedCells l0.length (fun _ => false)) 4 (0, 0))) := ⟨block_new _ _⟩
      have HB3 := Aside0.mk (below_alloc HB2.out (.cells (usedCells l0.length (fun _ => false)) 4))
      have HO3 := Aside0.mk (Kd.R_alloc (Kd.R_mono (Kd.R_bound HO2.out) (ok' := fun k => k ≠ w2.heap.size) (fun k hk => by have := hk.2.2.1; omega)) (.cells (usedCells l0.length (fun _ => false)) 4))
      have HBU : Aside0 (w.heap.size ≤ w2.heap.size) := ⟨HB2.out.size⟩
      clear HB2 HO2 hmk
      generalize (w2.alloc (.cells (usedCells l0.length (fun _ => false)) 4)) = W3 at *
      generalize w2.heap.size = bu at *
      go_loopw [5, 30] (fun v i wr => ∃ (z : Nat) (m : Int), i = .int .i64 (z : Int) ∧ v = .int .i64 m ∧ Aside0 (z ≤ P.length) ∧ Aside0 (∀ p ∈ P.drop z, m < p.f1) ∧ Aside0 (Below w.heap.size w wr) ∧ Aside0 (Kd.R k33 33 wr w.heap.size (fun k => k ≠ bu) (.slice AP P.length cP) P) ∧ Aside0 (wr.heap[bu]? = some (.cells (usedCells l0.length (inPairs (P.take z))) 4 (0, 0)))) (fun _ i _ => P.length - (intOf i).toNat)
      case atStart => exact ⟨0, -1, rfl, rfl, ⟨by omega⟩, ⟨fun p hp => by have := (HPO.out.low p (by simpa using hp)).2.2.1; omega⟩, HB3, HO3, ⟨by rw [HU0.out]; rfl⟩⟩
      case round =>
        clear HB3 HO3 HU0
        obtain ⟨z, m, rfl, rfl, HZ, HM, HB, HO, HU⟩ := hrel
        by_cases c3 : (z : Int) < (P.length : Int)
        · have c3b : decide ((z : Int) < (P.length : Int)) = true := decide_eq_true c3
          have hz : z < P.length := by omega
          have z0 : (0 : Int) ≤ (z : Int) := by omega
          have hz0 := eq_true z0
          have hz1 := eq_true c3
          obtain ⟨adp, ep, hq0, hq1⟩ := at_T33 (Kd.R_reads' HO.out).2.2 (z : Int) z0 c3
          cases ep
          rw [rd33_nat P z hz] at hq0 hq1
          rw [Int.toNat_natCast] at hq0 hq1
          have hpm := List.getElem_mem hz
          have hlow := HPO.out.low _ hpm
          have hkin := HPO.out.kinds _ hpm
          have hfr := HPO.out.fresh z hz
          have HDR : Aside0 (P.drop z = P[z] :: P.drop (z + 1)) := ⟨List.drop_eq_getElem_cons hz⟩
          have HTK : Aside0 (P.take (z + 1) = P.take z ++ [P[z]]) := ⟨List.take_succ_eq_append_getElem hz⟩
          have hm1 : m < P[z].f1 := HM.out _ (by rw [HDR.out]; exact List.mem_cons_self)
          obtain ⟨ad1, ea1, hx0, hx1, hx2, hx3, hx4, hx5⟩ := at_T37 HR0.out P[z].f0 hlow.1 hlow.2.1
          cases ea1
          obtain ⟨ad2, ea2, hy0, hy1, hy2, hy3, hy4, hy5⟩ := at_T37 HR0.out P[z].f1 hlow.2.2.1 hlow.2.2.2
          obtain rfl := Option.some.inj ea2
          have HPM := Aside0.mk hpm
          clear hpm ea2
          generalize P[z] = p at *
          generalize rd_T37 l0 p.f0 = ya at *
          generalize rd_T37 l0 p.f1 = yb at *
          have lt := fun (A : Addr) (v : Value) (h : w.cell? A = some v) => (HB.out.cell (World.block_lt_of_cell? w _ h)).trans h
          replace hx0 := lt _ _ hx0
          replace hx1 := lt _ _ hx1
          replace hx2 := lt _ _ hx2
          replace hx3 := lt _ _ hx3
          replace hx4 := lt _ _ hx4
          replace hx5 := lt _ _ hx5
          replace hy0 := lt _ _ hy0
          replace hy1 := lt _ _ hy1
          replace hy2 := lt _ _ hy2
          replace hy3 := lt _ _ hy3
          replace hy4 := lt _ _ hy4
          replace hy5 := lt _ _ hy5
          clear lt
          have t1 : decide (p.f0 < 0) = false := decide_eq_false (by omega)
          have t2 : decide (p.f0 ≥ (l0.length : Int)) = false := decide_eq_false (by omega)
          have t2b : decide ((l0.length : Int) ≤ p.f0) = false := decide_eq_false (by omega)
          have t3 : decide (p.f1 ≤ m) = false := decide_eq_false (by omega)
          have t4 : decide (p.f1 ≥ (l0.length : Int)) = false := decide_eq_false (by omega)
          have t4b : decide ((l0.length : Int) ≤ p.f1) = false := decide_eq_false (by omega)
          have s0 := eq_true hlow.1
          have s1 := eq_true hlow.2.1
          have s2 := eq_true hlow.2.2.1
          have s3 := eq_true hlow.2.2.2
          have HU2 := (blk_alloc HU.out (.cells #[.int .i64 p.f0, .int .i64 p.f1] 33))
          have hu0 : (wr.alloc (.cells #[.int .i64 p.f0, .int .i64 p.f1] 33)).cell? ⟨bu, p.f0.toNat, none⟩ = some (.bool false) := (blk_cell HU2 _).trans ((used_get _ _ _ (by omega)).trans (by rw [hfr.1]))
          have hu1 : (wr.alloc (.cells #[.int .i64 p.f0, .int .i64 p.f1] 33)).cell? ⟨bu, p.f1.toNat, none⟩ = some (.bool false) := (blk_cell HU2 _).trans ((used_get _ _ _ (by omega)).trans (by rw [hfr.2.1]))
          have HKIN := Aside0.mk hkin
          have HLOW := Aside0.mk hlow
          have HFR := Aside0.mk hfr
          have HM1 := Aside0.mk hm1
          have HUW := Aside0.mk HU2
          clear hkin hlow hfr hm1 HU2
          go_wp2
          have hbl := below_drew1 (below_alloc (Below.refl wr.heap.size wr) (.cells #[.int .i64 p.f0, .int .i64 p.f1] 33))
          have lt := fun (A : Addr) (v : Value) (h : wr.cell? A = some v) => (hbl.cell (World.block_lt_of_cell? wr _ h)).trans h
          replace hx0 := lt _ _ hx0
          replace hx1 := lt _ _ hx1
          replace hx2 := lt _ _ hx2
          replace hx3 := lt _ _ hx3
          replace hx4 := lt _ _ hx4
          replace hx5 := lt _ _ hx5
          replace hy0 := lt _ _ hy0
          replace hy1 := lt _ _ hy1
          replace hy2 := lt _ _ hy2
          replace hy3 := lt _ _ hy3
          replace hy4 := lt _ _ hy4
          replace hy5 := lt _ _ hy5
          have hpb : ((wr.alloc (.cells #[.int .i64 p.f0, .int .i64 p.f1] 33)).drew).heap[wr.heap.size]? = some (.cells #[.int .i64 p.f0, .int .i64 p.f1] 33 (0, 0)) := block_new _ _
          have hc0 : ((wr.alloc (.cells #[.int .i64 p.f0, .int .i64 p.f1] 33)).drew).cell? ⟨wr.heap.size, 0, none⟩ = some (.int .i64 p.f0) := blk_cell hpb 0
          have hc1 : ((wr.alloc (.cells #[.int .i64 p.f0, .int .i64 p.f1] 33)).drew).cell? ⟨wr.heap.size, 1, none⟩ = some (.int .i64 p.f1) := blk_cell hpb 1
          have HPB := Aside0.mk hpb
          have HB4 := Aside0.mk (below_step HB.out hbl)
          have HO4 := Aside0.mk (Kd.R_below HO.out hbl)
          have HU4 := Aside0.mk (blk_drew HUW.out)
          have HLT : Aside0 (wr.heap.size ≠ bu) := ⟨fun e => by have := lt_of_some HU.out; omega⟩
          have HPL : Aside0 (w.heap.size ≤ wr.heap.size) := ⟨HB.out.size⟩
          clear lt hbl hq0 hq1 hu0 hu1 HB HO HU HUW hpb
          refine start_ (n := 14) (S := fun w' => Below ((wr.alloc (.cells #[.int .i64 p.f0, .int .i64 p.f1] 33)).drew).heap.size ((wr.alloc (.cells #[.int .i64 p.f0, .int .i64 p.f1] 33)).drew) w') (ds := []) #[false, false, false, false, false, false, false, false, false, false, false, false, false, false] (by kernel_rfl) rfl rfl (Below.refl _ _) (fun hHeld => ?_)
          refine with_tabW m11t m11b (fun HT_ HW_ => ?_)
          generalize (wr.alloc (.cells #[.int .i64 p.f0, .int .i64 p.f1] 33)).drew = W2 at *
          generalize wr.heap.size = gq at *
          refine pure_ (i := 0) (N := some 71) (v := ?_) (a' := ?_) #[true, false, false, false, false, false, false, false, false, false, false, false, false, false] rfl rfl (any_of HT_.out (by kernel_rfl)) (fun _ _ _ h => h) (Or.inl ⟨by rfl, ?_⟩) ?_ ?_
          rotate_left
          · intro w'
            go_simp
            with_reducible rfl
          rotate_left
          · simp only [Act.put, List.setIfInBounds_toArray, List.set_cons_zero, List.set_cons_succ, i64_w, i32_w]
            rfl
          refine pure_ (i := 1) (N := some 72) (v := ?_) (a' := ?_) #[true, true, false, false, false, false, false, false, false, false, false, false, false, false] rfl rfl (any_of HT_.out (by kernel_rfl)) (fun _ _ _ h => h) (Or.inl ⟨by rfl, ?_⟩) ?_ ?_
          rotate_left
          · intro w'
            go_simp
            with_reducible rfl
          rotate_left
          · simp only [Act.put, List.setIfInBounds_toArray, List.set_cons_zero, List.set_cons_succ, i64_w, i32_w]
            rfl
          refine take_ (i := 2) (N := some 73) (v := ?_) (a' := ?_) #[true, true, true, false, false, false, false, false, false, false, false, false, false, false] rfl rfl (take_ofW HT_.out HW_.out (by kernel_rfl)) (fun _ _ _ h => h) (Or.inl ⟨by rfl, ?_⟩) hHeld ?_ ?_
          rotate_left
          · rintro w' hS
            have s0 := (hS.cell (World.block_lt_of_cell? _ _ hc0)).trans hc0
            go_simp
            with_reducible rfl
          rotate_left
          · simp only [Act.put, List.setIfInBounds_toArray, List.set_cons_zero, List.set_cons_succ, i64_w, i32_w]
            rfl
          refine pure_ (i := 3) (N := some 74) (v := ?_) (a' := ?_) #[true, true, true, true, false, false, false, false, false, false, false, false, false, false] rfl rfl (any_of HT_.out (by kernel_rfl)) (fun _ _ _ h => h) (Or.inl ⟨by rfl, ?_⟩) ?_ ?_
          rotate_left
          · intro w'
            go_simp
            with_reducible rfl
          rotate_left
          · simp only [Act.put, List.setIfInBounds_toArray, List.set_cons_zero, List.set_cons_succ, i64_w, i32_w]
            rfl
          refine take_ (i := 4) (N := some 75) (v := ?_) (a' := ?_) #[true, true, true, true, true, false, false, false, false, false, false, false, false, false] rfl rfl (take_ofW HT_.out HW_.out (by kernel_rfl)) (fun _ _ _ h => h) (Or.inl ⟨by rfl, ?_⟩) hHeld ?_ ?_
          rotate_left
          · rintro w' hS
            have s0 := (hS.cell (World.block_lt_of_cell? _ _ hx0)).trans hx0
            have s1 := (hS.cell (World.block_lt_of_cell? _ _ hx1)).trans hx1
            have s2 := (hS.cell (World.block_lt_of_cell? _ _ hx2)).trans hx2
            have s3 := (hS.cell (World.block_lt_of_cell? _ _ hx3)).trans hx3
            have s4 := (hS.cell (World.block_lt_of_cell? _ _ hx4)).trans hx4
            have s5 := (hS.cell (World.block_lt_of_cell? _ _ hx5)).trans hx5
            go_simp
            with_reducible rfl
          rotate_left
          · simp only [Act.put, List.setIfInBounds_toArray, List.set_cons_zero, List.set_cons_succ, i64_w, i32_w]
            rfl
          refine pure_ (i := 5) (N := some 76) (v := ?_) (a' := ?_) #[true, true, true, true, true, true, false, false, false, false, false, false, false, false] rfl rfl (any_of HT_.out (by kernel_rfl)) (fun _ _ _ h => h) (Or.inl ⟨by rfl, ?_⟩) ?_ ?_
          rotate_left
          · intro w'
            go_simp
            with_reducible rfl
          rotate_left
          · simp only [Act.put, List.setIfInBounds_toArray, List.set_cons_zero, List.set_cons_succ, i64_w, i32_w]
            rfl
          refine pure_ (i := 6) (N := some 77) (v := ?_) (a' := ?_) #[true, true, true, true, true, true, true, false, false, false, false, false, false, false] rfl rfl (any_of HT_.out (by kernel_rfl)) (fun _ _ _ h => h) (Or.inl ⟨by rfl, ?_⟩) ?_ ?_
          rotate_left
          · intro w'
            go_simp
            with_reducible rfl
          rotate_left
          · simp only [Act.put, List.setIfInBounds_toArray, List.set_cons_zero, List.set_cons_succ, i64_w, i32_w]
            rfl
          refine take_ (i := 7) (N := some 78) (v := ?_) (a' := ?_) #[true, true, true, true, true, true, true, true, false, false, false, false, false, false] rfl rfl (take_ofW HT_.out HW_.out (by kernel_rfl)) (fun _ _ _ h => h) (Or.inl ⟨by rfl, ?_⟩) hHeld ?_ ?_
          rotate_left
          · rintro w' hS
            have s0 := (hS.cell (World.block_lt_of_cell? _ _ hc1)).trans hc1
            go_simp
            with_reducible rfl
          rotate_left
          · simp only [Act.put, List.setIfInBounds_toArray, List.set_cons_zero, List.set_cons_succ, i64_w, i32_w]
            rfl
          refine pure_ (i := 8) (N := some 79) (v := ?_) (a' := ?_) #[true, true, true, true, true, true, true, true, true, false, false, false, false, false] rfl rfl (any_of HT_.out (by kernel_rfl)) (fun _ _ _ h => h) (Or.inl ⟨by rfl, ?_⟩) ?_ ?_
          rotate_left
          · intro w'
            go_simp
            with_reducible rfl
          rotate_left
          · simp only [Act.put, List.setIfInBounds_toArray, List.set_cons_zero, List.set_cons_succ, i64_w, i32_w]
            rfl
          refine take_ (i := 9) (N := some 80) (v := ?_) (a' := ?_) #[true, true, true, true, true, true, true, true, true, true, false, false, false, false] rfl rfl (take_ofW HT_.out HW_.out (by kernel_rfl)) (fun _ _ _ h => h) (Or.inl ⟨by rfl, ?_⟩) hHeld ?_ ?_
          rotate_left
          · rintro w' hS
            have s0 := (hS.cell (World.block_lt_of_cell? _ _ hy0)).trans hy0
            have s1 := (hS.cell (World.block_lt_of_cell? _ _ hy1)).trans hy1
            have s2 := (hS.cell (World.block_lt_of_cell? _ _ hy2)).trans hy2
            have s3 := (hS.cell (World.block_lt_of_cell? _ _ hy3)).trans hy3
            have s4 := (hS.cell (World.block_lt_of_cell? _ _ hy4)).trans hy4
            have s5 := (hS.cell (World.block_lt_of_cell? _ _ hy5)).trans hy5
            go_simp
            with_reducible rfl
          rotate_left
          · simp only [Act.put, List.setIfInBounds_toArray, List.set_cons_zero, List.set_cons_succ, i64_w, i32_w]
            rfl
          refine join_ (σ := Nat × Nat) 2 #[true, true, true, true, true, true, true, true, true, true, true, true, false, false] (fun s => [(8, .pointer (some ⟨s.1, 0, none⟩)), (9, .pointer (some ⟨s.2, 0, none⟩))]) (fun s w' => w' = ((W2.alloc (.cells #[.int .i64 0, .int .i64 0, .int .i64 0, .int .i64 0, .int .i64 0, .int .i64 0] 37)).alloc (.cells #[.int .i64 0, .int .i64 0, .int .i64 0, .int .i64 0, .int .i64 0, .int .i64 0] 37)) ∧ ((s.1 = W2.heap.size ∧ s.2 = W2.heap.size + 1) ∨ (s.1 = W2.heap.size + 1 ∧ s.2 = W2.heap.size))) ?_ ?_
          · rintro ⟨p8, p9⟩ w' ⟨rfl, hps⟩
            have hb0 : Box ((W2.alloc (.cells #[.int .i64 0, .int .i64 0, .int .i64 0, .int .i64 0, .int .i64 0, .int .i64 0] 37)).alloc (.cells #[.int .i64 0, .int .i64 0, .int .i64 0, .int .i64 0, .int .i64 0, .int .i64 0] 37)) W2.heap.size (⟨0, 0, 0, 0, 0, 0⟩ : S37) := blk_alloc (block_new _ _) _
            have hb1 : Box ((W2.alloc (.cells #[.int .i64 0, .int .i64 0, .int .i64 0, .int .i64 0, .int .i64 0, .int .i64 0] 37)).alloc (.cells #[.int .i64 0, .int .i64 0, .int .i64 0, .int .i64 0, .int .i64 0, .int .i64 0] 37)) (W2.heap.size + 1) (⟨0, 0, 0, 0, 0, 0⟩ : S37) := by
              have h := block_new (W2.alloc (.cells #[.int .i64 0, .int .i64 0, .int .i64 0, .int .i64 0, .int .i64 0, .int .i64 0] 37)) (.cells #[.int .i64 0, .int .i64 0, .int .i64 0, .int .i64 0, .int .i64 0, .int .i64 0] 37)
              rwa [size_alloc] at h
            have h8 : Box ((W2.alloc (.cells #[.int .i64 0, .int .i64 0, .int .i64 0, .int .i64 0, .int .i64 0, .int .i64 0] 37)).alloc (.cells #[.int .i64 0, .int .i64 0, .int .i64 0, .int .i64 0, .int .i64 0, .int .i64 0] 37)) p8 (⟨0, 0, 0, 0, 0, 0⟩ : S37) := by rcases hps with ⟨h, _⟩ | ⟨h, _⟩ <;> (simp only at h; rw [h]; first | exact hb0 | exact hb1)
            have h9 : Box ((W2.alloc (.cells #[.int .i64 0, .int .i64 0, .int .i64 0, .int .i64 0, .int .i64 0, .int .i64 0] 37)).alloc (.cells #[.int .i64 0, .int .i64 0, .int .i64 0, .int .i64 0, .int .i64 0, .int .i64 0] 37)) p9 (⟨0, 0, 0, 0, 0, 0⟩ : S37) := by rcases hps with ⟨_, h⟩ | ⟨_, h⟩ <;> (simp only at h; rw [h]; first | exact hb1 | exact hb0)
            have HPS : Aside0 (p8 ≠ p9 ∧ W2.heap.size ≤ p8 ∧ W2.heap.size ≤ p9) := ⟨by simp only at hps; omega⟩
            have HBW := Aside0.mk (below_alloc (below_alloc (Below.refl W2.heap.size W2) (.cells #[.int .i64 0, .int .i64 0, .int .i64 0, .int .i64 0, .int .i64 0, .int .i64 0] 37)) (.cells #[.int .i64 0, .int .i64 0, .int .i64 0, .int .i64 0, .int .i64 0, .int .i64 0] 37))
            clear hps hb0 hb1 hHeld
            generalize ((W2.alloc (.cells #[.int .i64 0, .int .i64 0, .int .i64 0, .int .i64 0, .int .i64 0, .int .i64 0] 37)).alloc (.cells #[.int .i64 0, .int .i64 0, .int .i64 0, .int .i64 0, .int .i64 0, .int .i64 0] 37)) = W4 at *
            refine norm_ (a' := ?_) ?_ ?_
            rotate_left
            · show putAll _ _ = _
              simp only [putAll, Act.put, List.setIfInBounds_toArray, List.set_cons_zero, List.set_cons_succ, i64_w, i32_w]
              rfl
            obtain ⟨b0, b1, b2, b3, b4, b5⟩ := h8.cells
            obtain ⟨z0, z1, z2, z3, z4, z5⟩ := boxZ h8
            refine one_ (i := 12) (N := none) #[true, true, true, true, true, true, true, true, true, true, true, true, true, false] rfl rfl (one_of HT_.out (by kernel_rfl)) (by decide) (fun K hK => ?_)
            refine skip_ (w1 := ((((((W4.setCell ⟨p8, 0, none⟩ (.int .i64 ya.f0)).setCell ⟨p8, 1, none⟩ (.int .i64 ya.f1)).setCell ⟨p8, 2, none⟩ (.int .i64 ya.f2)).setCell ⟨p8, 3, none⟩ (.int .i64 ya.f3)).setCell ⟨p8, 4, none⟩ (.int .i64 ya.f4)).setCell ⟨p8, 5, none⟩ (.int .i64 ya.f5))) rfl rfl ?_ ?_
            · go_simp
            have hf := fin6 (W := W4) HPS.out.2.1 h8 HBW.out ya
            have h9' : Box ((((((W4.setCell ⟨p8, 0, none⟩ (.int .i64 ya.f0)).setCell ⟨p8, 1, none⟩ (.int .i64 ya.f1)).setCell ⟨p8, 2, none⟩ (.int .i64 ya.f2)).setCell ⟨p8, 3, none⟩ (.int .i64 ya.f3)).setCell ⟨p8, 4, none⟩ (.int .i64 ya.f4)).setCell ⟨p8, 5, none⟩ (.int .i64 ya.f5)) p9 (⟨0, 0, 0, 0, 0, 0⟩ : S37) := (sets6_far W4 p8 p9 ya (fun e => HPS.out.1 e.symm)).trans h9
            refine hK.out _ _ hf.2 (fun hHeld => ?_)
            clear hK K b0 b1 b2 b3 b4 b5 z0 z1 z2 z3 z4 z5 h8 h9 HBW hHeld
            generalize ((((((W4.setCell ⟨p8, 0, none⟩ (.int .i64 ya.f0)).setCell ⟨p8, 1, none⟩ (.int .i64 ya.f1)).setCell ⟨p8, 2, none⟩ (.int .i64 ya.f2)).setCell ⟨p8, 3, none⟩ (.int .i64 ya.f3)).setCell ⟨p8, 4, none⟩ (.int .i64 ya.f4)).setCell ⟨p8, 5, none⟩ (.int .i64 ya.f5)) = W5 at *
            obtain ⟨b0, b1, b2, b3, b4, b5⟩ := Box.cells h9'
            obtain ⟨z0, z1, z2, z3, z4, z5⟩ := boxZ h9'
            refine one_ (i := 13) (N := none) #[true, true, true, true, true, true, true, true, true, true, true, true, true, true] rfl rfl (one_of HT_.out (by kernel_rfl)) (by decide) (fun K hK => ?_)
            refine skip_ (w1 := ((((((W5.setCell ⟨p9, 0, none⟩ (.int .i64 yb.f0)).setCell ⟨p9, 1, none⟩ (.int .i64 yb.f1)).setCell ⟨p9, 2, none⟩ (.int .i64 yb.f2)).setCell ⟨p9, 3, none⟩ (.int .i64 yb.f3)).setCell ⟨p9, 4, none⟩ (.int .i64 yb.f4)).setCell ⟨p9, 5, none⟩ (.int .i64 yb.f5))) rfl rfl ?_ ?_
            · go_simp
            have hf2 := fin6 (W := W5) HPS.out.2.2 h9' hf.2 yb
            have h8' : Box ((((((W5.setCell ⟨p9, 0, none⟩ (.int .i64 yb.f0)).setCell ⟨p9, 1, none⟩ (.int .i64 yb.f1)).setCell ⟨p9, 2, none⟩ (.int .i64 yb.f2)).setCell ⟨p9, 3, none⟩ (.int .i64 yb.f3)).setCell ⟨p9, 4, none⟩ (.int .i64 yb.f4)).setCell ⟨p9, 5, none⟩ (.int .i64 yb.f5)) p8 ya := (sets6_far W5 p9 p8 yb HPS.out.1).trans hf.1
            refine hK.out _ _ hf2.2 (fun hHeld => ?_)
            clear hK K b0 b1 b2 b3 b4 b5 z0 z1 z2 z3 z4 z5 h9' hf hHeld
            generalize ((((((W5.setCell ⟨p9, 0, none⟩ (.int .i64 yb.f0)).setCell ⟨p9, 1, none⟩ (.int .i64 yb.f1)).setCell ⟨p9, 2, none⟩ (.int .i64 yb.f2)).setCell ⟨p9, 3, none⟩ (.int .i64 yb.f3)).setCell ⟨p9, 4, none⟩ (.int .i64 yb.f4)).setCell ⟨p9, 5, none⟩ (.int .i64 yb.f5)) = W6 at *
            refine done_ (by kernel_rfl) ?_
            have HB6 := Aside0.mk (below_step HB4.out hf2.2)
            have HO6 := Aside0.mk (Kd.R_below HO4.out hf2.2)
            have HU6 := Aside0.mk ((hf2.2.block _ (lt_of_some HU4.out)).trans HU4.out)
            have HPB6 := Aside0.mk ((hf2.2.block _ (lt_of_some HPB.out)).trans HPB.out)
            obtain ⟨ha0, ha1, ha2, ha3, ha4, ha5⟩ := Box.cells h8'
            obtain ⟨hb0, hb1, hb2, hb3, hb4, hb5⟩ := Box.cells hf2.1
            have v1 : (ya.f0 != 1) = false := bne_eq_false_iff_eq.mpr HKIN.out.1
            have v2 : (yb.f0 != 2) = false := bne_eq_false_iff_eq.mpr HKIN.out.2.1
            have v3 : (ya.f1 != yb.f2) = false := bne_eq_false_iff_eq.mpr HKIN.out.2.2.1
            have v4 : (ya.f2 != yb.f1) = false := bne_eq_false_iff_eq.mpr HKIN.out.2.2.2.1
            have v5 : (ya.f3 != yb.f3) = false := bne_eq_false_iff_eq.mpr HKIN.out.2.2.2.2
            clear hf2 h8' HB4 HO4 HU4 HPB hc0 hc1 hx0 hx1 hx2 hx3 hx4 hx5 hy0 hy1 hy2 hy3 hy4 hy5 HT_ HW_ HPS
            clear W4 W5
            go_wp2
            have HB7 := Aside0.mk (below_drew1 HB6.out)
            have HO7 := Aside0.mk (Kd.R_drew HO6.out)
            have HU7 := Aside0.mk (blk_drew HU6.out)
            have HPB7 := Aside0.mk (blk_drew HPB6.out)
            refine start_ (n := 10) (S := fun w' => w'.heap[gq]? = some (.cells #[.int .i64 p.f0, .int .i64 p.f1] 33 (0, 0))) (ds := []) #[false, false, false, false, false, false, false, false, false, false] (by kernel_rfl) rfl rfl HPB7.out (fun hHeld => ?_)
            refine with_tabW m14t m14b (fun HT_ HW_ => ?_)
            clear HB6 HO6 HU6 HPB6 ha0 ha1 ha2 ha3 ha4 ha5 hb0 hb1 hb2 hb3 hb4 hb5
            generalize W6.drew = W7 at *
            refine pure_ (i := 0) (N := some 110) (v := ?_) (a' := ?_) #[true, false, false, false, false, false, false, false, false, false] rfl rfl (any_of HT_.out (by kernel_rfl)) (fun _ _ _ h => h) (Or.inl ⟨by rfl, ?_⟩) ?_ ?_
            rotate_left
            · intro w'
              go_simp
              with_reducible rfl
            rotate_left
            · simp only [Act.put, List.setIfInBounds_toArray, List.set_cons_zero, List.set_cons_succ, i64_w, i32_w]
              rfl
            refine pure_ (i := 1) (N := some 111) (v := ?_) (a' := ?_) #[true, true, false, false, false, false, false, false, false, false] rfl rfl (any_of HT_.out (by kernel_rfl)) (fun _ _ _ h => h) (Or.inl ⟨by rfl, ?_⟩) ?_ ?_
            rotate_left
            · intro w'
              go_simp
              with_reducible rfl
            rotate_left
            · simp only [Act.put, List.setIfInBounds_toArray, List.set_cons_zero, List.set_cons_succ, i64_w, i32_w]
              rfl
            refine take_ (i := 2) (N := some 112) (v := ?_) (a' := ?_) #[true, true, true, false, false, false, false, false, false, false] rfl rfl (take_ofW HT_.out HW_.out (by kernel_rfl)) (fun _ _ _ h => h) (Or.inl ⟨by rfl, ?_⟩) hHeld ?_ ?_
            rotate_left
            · rintro w' hS
              have s0 : w'.cell? ⟨gq, 0, none⟩ = some (.int .i64 p.f0) := blk_cell hS 0
              go_simp
              with_reducible rfl
            rotate_left
            · simp only [Act.put, List.setIfInBounds_toArray, List.set_cons_zero, List.set_cons_succ, i64_w, i32_w]
              rfl
            refine pure_ (i := 3) (N := some 113) (v := ?_) (a' := ?_) #[true, true, true, true, false, false, false, false, false, false] rfl rfl (any_of HT_.out (by kernel_rfl)) (fun _ _ _ h => h) (Or.inl ⟨by rfl, ?_⟩) ?_ ?_
            rotate_left
            · intro w'
              go_simp
              with_reducible rfl
            rotate_left
            · simp only [Act.put, List.setIfInBounds_toArray, List.set_cons_zero, List.set_cons_succ, i64_w, i32_w]
              rfl
            refine pure_ (i := 4) (N := some 114) (v := ?_) (a' := ?_) #[true, true, true, true, true, false, false, false, false, false] rfl rfl (any_of HT_.out (by kernel_rfl)) (fun _ _ _ h => h) (Or.inl ⟨by rfl, ?_⟩) ?_ ?_
            rotate_left
            · intro w'
              go_simp
              with_reducible rfl
            rotate_left
            · simp only [Act.put, List.setIfInBounds_toArray, List.set_cons_zero, List.set_cons_succ, i64_w, i32_w]
              rfl
            refine take_ (i := 5) (N := some 115) (v := ?_) (a' := ?_) #[true, true, true, true, true, true, false, false, false, false] rfl rfl (take_ofW HT_.out HW_.out (by kernel_rfl)) (fun _ _ _ h => h) (Or.inl ⟨by rfl, ?_⟩) hHeld ?_ ?_
            rotate_left
            · rintro w' hS
              have s0 : w'.cell? ⟨gq, 1, none⟩ = some (.int .i64 p.f1) := blk_cell hS 1
              go_simp
              with_reducible rfl
            rotate_left
            · simp only [Act.put, List.setIfInBounds_toArray, List.set_cons_zero, List.set_cons_succ, i64_w, i32_w]
              rfl
            refine pure_ (i := 6) (N := some 116) (v := ?_) (a' := ?_) #[true, true, true, true, true, true, true, false, false, false] rfl rfl (any_of HT_.out (by kernel_rfl)) (fun _ _ _ h => h) (Or.inl ⟨by rfl, ?_⟩) ?_ ?_
            rotate_left
            · intro w'
              go_simp
              with_reducible rfl
            rotate_left
            · simp only [Act.put, List.setIfInBounds_toArray, List.set_cons_zero, List.set_cons_succ, i64_w, i32_w]
              rfl
            have hk1 : W7.cell? ⟨bu, p.f0.toNat, none⟩ = some (.bool false) := (blk_cell HU7.out _).trans ((used_get _ _ _ (by have := HLOW.out; omega)).trans (by rw [HFR.out.1]))
            have hf1 : W7.frozen? ⟨bu, p.f0.toNat, none⟩ = false := blk_frozen HU7.out _
            have hput := blk_put HU7.out p.f0.toNat (.bool true) (used_set l0.length (inPairs (P.take z)) p.f0.toNat)
            have hS8 : (W7.setCell ⟨bu, p.f0.toNat, none⟩ (.bool true)).heap[gq]? = some (.cells #[.int .i64 p.f0, .int .i64 p.f1] 33 (0, 0)) := (Below.heap_setCell _ _ _ _ HLT.out).trans HPB7.out
            have HB8 := Aside0.mk (below_set (g := bu) (j := p.f0.toNat) (v := .bool true) HB7.out HBU.out)
            have HO8 := Aside0.mk (Kd.R_move HO7.out (fun k hk => Below.heap_setCell W7 ⟨bu, p.f0.toNat, none⟩ (.bool true) k hk))
            refine one_ (i := 7) (N := none) #[true, true, true, true, true, true, true, true, false, false] rfl rfl (one_of HT_.out (by kernel_rfl)) (by decide) (fun K hK => ?_)
            refine skip_ (w1 := W7.setCell ⟨bu, p.f0.toNat, none⟩ (.bool true)) rfl rfl ?_ ?_
            · go_simp
            refine hK.out _ _ hS8 (fun hHeld => ?_)
            clear hK K hk1 hf1 HB7 HO7 HU7 HPB7
            generalize (W7.setCell ⟨bu, p.f0.toNat, none⟩ (.bool true)) = W8 at *
            refine pure_ (i := 8) (N := some 117) (v := ?_) (a' := ?_) #[true, true, true, true, true, true, true, true, true, false] rfl rfl (any_of HT_.out (by kernel_rfl)) (fun _ _ _ h => h) (Or.inl ⟨by rfl, ?_⟩) ?_ ?_
            rotate_left
            · intro w'
              go_simp
              with_reducible rfl
            rotate_left
            · simp only [Act.put, List.setIfInBounds_toArray, List.set_cons_zero, List.set_cons_succ, i64_w, i32_w]
              rfl
            have hk2 : ∃ b, W8.cell? ⟨bu, p.f1.toNat, none⟩ = some (.bool b) := ⟨_, (blk_cell hput _).trans (used_get _ _ _ (by have := HLOW.out; omega))⟩
            obtain ⟨bz, hk2⟩ := hk2
            have hf2 : W8.frozen? ⟨bu, p.f1.toNat, none⟩ = false := blk_frozen hput _
            have hput2 := blk_put hput p.f1.toNat (.bool true) (used_set l0.length _ p.f1.toNat)
            have hS9 : (W8.setCell ⟨bu, p.f1.toNat, none⟩ (.bool true)).heap[gq]? = some (.cells #[.int .i64 p.f0, .int .i64 p.f1] 33 (0, 0)) := (Below.heap_setCell _ _ _ _ HLT.out).trans hS8
            have HB9 := Aside0.mk (below_set (g := bu) (j := p.f1.toNat) (v := .bool true) HB8.out HBU.out)
            have HO9 := Aside0.mk (Kd.R_move HO8.out (fun k hk => Below.heap_setCell W8 ⟨bu, p.f1.toNat, none⟩ (.bool true) k hk))
            refine one_ (i := 9) (N := none) #[true, true, true, true, true, true, true, true, true, true] rfl rfl (one_of HT_.out (by kernel_rfl)) (by decide) (fun K hK => ?_)
            refine skip_ (w1 := W8.setCell ⟨bu, p.f1.toNat, none⟩ (.bool true)) rfl rfl ?_ ?_
            · go_simp
            refine hK.out _ _ hS9 (fun hHeld => ?_)
            clear hK K hk2 hf2 HB8 HO8 hS8 hput
            generalize (W8.setCell ⟨bu, p.f1.toNat, none⟩ (.bool true)) = W9 at *
            refine done_ (by kernel_rfl) ?_
            have HU9 : Aside0 (W9.heap[bu]? = some (.cells (usedCells l0.length (inPairs (P.take (z + 1)))) 4 (0, 0))) := ⟨by
              rw [hput2, HTK.out, show inPairs (P.take z ++ [p]) = fun j => if j = p.f1.toNat then true else if j = p.f0.toNat then true else inPairs (P.take z) j from funext (inPairs_snoc _ _ HLOW.out.1 HLOW.out.2.2.1)]⟩
            have hc1 : W9.cell? ⟨gq, 1, none⟩ = some (.int .i64 p.f1) := blk_cell hS9 1
            have HPZ : Aside0 (P.length ≤ 100000) := HPL2
            have HZL : Aside0 (z < P.length) := ⟨hz⟩
            have HWZ : Aside0 (wrap64 ((z : Int) + 1) = (z : Int) + 1) := ⟨by have := HPZ.out; have := HZL.out; unfold wrap64; omega⟩
            clear hput2 hS9 hHeld HT_ HW_
            go_wp2
            go_round
            case rel => exact ⟨z + 1, p.f1, by (try rw [HWZ.out]); push_cast; rfl, rfl, ⟨HZL.out⟩, ⟨HFR.out.2.2⟩, HB9, HO9, HU9⟩
            case measure => have := HZL.out; (try rw [HWZ.out]); simp only [intOf]; omega
          · intro hcont
            refine two_ (i := 10) (j := 11) (Ni := some 8) (Nj := some 9) #[true, true, true, true, true, true, true, true, true, true, true, false, false, false] #[true, true, true, true, true, true, true, true, true, true, false, true, false, false] rfl rfl rfl rfl (by kernel_rfl) (by decide) (by decide) (fun K hK => ?_) (fun K hK => ?_)
            · refine value_ (w1 := W2.alloc (.cells #[.int .i64 0, .int .i64 0, .int .i64 0, .int .i64 0, .int .i64 0, .int .i64 0] 37)) (v := .pointer (some ⟨W2.heap.size, 0, none⟩)) rfl rfl ?_ ?_
              · go_simp
              refine hK.out _ _ (below_alloc (Below.refl _ _) _) (fun hHeld => ?_)
              clear hK K
              refine one_ (i := 11) (N := some 9) #[true, true, true, true, true, true, true, true, true, true, true, true, false, false] rfl rfl (one_of HT_.out (by kernel_rfl)) (by decide) (fun K hK => ?_)
              refine value_ (w1 := ((W2.alloc (.cells #[.int .i64 0, .int .i64 0, .int .i64 0, .int .i64 0, .int .i64 0, .int .i64 0] 37)).alloc (.cells #[.int .i64 0, .int .i64 0, .int .i64 0, .int .i64 0, .int .i64 0, .int .i64 0] 37))) (v := .pointer (some ⟨W2.heap.size + 1, 0, none⟩)) rfl rfl ?_ ?_
              · go_simp
              refine hK.out _ _ (below_alloc (below_alloc (Below.refl _ _) _) _) (fun hHeld => ?_)
              exact hcont (W2.heap.size, W2.heap.size + 1) _ ⟨rfl, .inl ⟨rfl, rfl⟩⟩
            · refine value_ (w1 := W2.alloc (.cells #[.int .i64 0, .int .i64 0, .int .i64 0, .int .i64 0, .int .i64 0, .int .i64 0] 37)) (v := .pointer (some ⟨W2.heap.size, 0, none⟩)) rfl rfl ?_ ?_
              · go_simp
              refine hK.out _ _ (below_alloc (Below.refl _ _) _) (fun hHeld => ?_)
              clear hK K
              refine one_ (i := 10) (N := some 8) #[true, true, true, true, true, true, true, true, true, true, true, true, false, false] rfl rfl (one_of HT_.out (by kernel_rfl)) (by decide) (fun K hK => ?_)
              refine value_ (w1 := ((W2.alloc (.cells #[.int .i64 0, .int .i64 0, .int .i64 0, .int .i64 0, .int .i64 0, .int .i64 0] 37)).alloc (.cells #[.int .i64 0, .int .i64 0, .int .i64 0, .int .i64 0, .int .i64 0, .int .i64 0] 37))) (v := .pointer (some ⟨W2.heap.size + 1, 0, none⟩)) rfl rfl ?_ ?_
              · go_simp
              refine hK.out _ _ (below_alloc (below_alloc (Below.refl _ _) _) _) (fun hHeld => ?_)
              exact hcont (W2.heap.size + 1, W2.heap.size) _ ⟨rfl, .inr ⟨rfl, rfl⟩⟩
        · have c3b : decide ((z : Int) < (P.length : Int)) = false := decide_eq_false c3
          have HUF : Aside0 (wr.heap[bu]? = some (.cells (usedCells l0.length (inPairs P)) 4 (0, 0))) := ⟨by
            have h := HU.out
            rwa [List.take_of_length_le (by omega)] at h⟩
          have HBZ := HB
          clear HU HO HM HB HZ
          go_wp2
          go_loopw [123] (fun i wr => ∃ x : Nat, i = .int .i64 (x : Int) ∧ Aside0 (x ≤ l0.length) ∧ Aside0 (Below w.heap.size w wr) ∧ Aside0 (wr.heap[bu]? = some (.cells (usedCells l0.length (inPairs P)) 4 (0, 0)))) (fun i _ => l0.length - (intOf i).toNat)
          case atStart => exact ⟨0, rfl, ⟨by omega⟩, HBZ, HUF⟩
          case round =>
            clear HBZ HUF
            obtain ⟨x, rfl, HX, HB, HU⟩ := hrel
            by_cases c4 : (x : Int) < (l0.length : Int)
            · have c4b : decide ((x : Int) < (l0.length : Int)) = true := decide_eq_true c4
              have x0 : (0 : Int) ≤ (x : Int) := by omega
              have hx00 := eq_true x0
              have hx01 := eq_true c4
              have HXL : Aside0 (x < l0.length) := ⟨by omega⟩
              have HWX : Aside0 (wrap64 ((x : Int) + 1) = (x : Int) + 1) := ⟨by have := HL.out; have := HXL.out; unfold wrap64; omega⟩
              obtain ⟨adx, eax, hx0, hx1, hx2, hx3, hx4, hx5⟩ := at_T37 HR0.out (x : Int) x0 c4
              cases eax
              rw [Int.toNat_natCast] at hx0 hx1 hx2 hx3 hx4 hx5
              have HNA := Aside0.mk (fun h2 hu => HPO.out.none_at x HXL.out h2 hu)
              have lt := fun (A : Addr) (v : Value) (h : w.cell? A = some v) => (HB.out.cell (World.block_lt_of_cell? w _ h)).trans h
              replace hx0 := lt _ _ hx0
              replace hx1 := lt _ _ hx1
              replace hx2 := lt _ _ hx2
              replace hx3 := lt _ _ hx3
              replace hx4 := lt _ _ hx4
              replace hx5 := lt _ _ hx5
              clear lt
              generalize rd_T37 l0 (x : Int) = y at *
              have HU2 := Aside0.mk (blk_alloc HU.out (.cells #[.int .i64 y.f0, .int .i64 y.f1, .int .i64 y.f2, .int .i64 y.f3, .int .i64 y.f4, .int .i64 y.f5] 37))
              have hu2 : (wr.alloc (.cells #[.int .i64 y.f0, .int .i64 y.f1, .int .i64 y.f2, .int .i64 y.f3, .int .i64 y.f4, .int .i64 y.f5] 37)).cell? ⟨bu, x, none⟩ = some (.bool (inPairs P x)) := (blk_cell HU2.out _).trans (used_get _ _ _ HXL.out)
              have HB2 := Aside0.mk (below_alloc HB.out (.cells #[.int .i64 y.f0, .int .i64 y.f1, .int .i64 y.f2, .int .i64 y.f3, .int .i64 y.f4, .int .i64 y.f5] 37))
              by_cases q : y.f0 = 2
              · have qb : (y.f0 != 2) = false := bne_eq_false_iff_eq.mpr q
                have HQ := Aside0.mk q
                clear q
                cases hin : inPairs P x with
                | true =>
                  rw [hin] at hu2
                  clear hin
                  go_wp2
                  go_round
                  case rel => exact ⟨x + 1, by (try rw [HWX.out]); push_cast; rfl, ⟨HXL.out⟩, HB2, HU2⟩
                  case measure => have := HXL.out; (try rw [HWX.out]); simp only [intOf]; omega
                | false =>
                  rw [hin] at hu2
                  have HIN := Aside0.mk hin
                  clear hin
                  have hbx : Box (wr.alloc (.cells #[.int .i64 y.f0, .int .i64 y.f1, .int .i64 y.f2, .int .i64 y.f3, .int .i64 y.f4, .int .i64 y.f5] 37)) wr.heap.size y := block_new _ _
                  have HBX := Aside0.mk hbx
                  clear hbx
                  go_wp2
                  clear hx0 hx1 hx2 hx3 hx4 hx5 hu2 HB HU
                  generalize (wr.alloc (.cells #[.int .i64 y.f0, .int .i64 y.f1, .int .i64 y.f2, .int .i64 y.f3, .int .i64 y.f4, .int .i64 y.f5] 37)) = W5 at *
                  generalize wr.heap.size = gy at *
                  go_loopw [139] (fun i wq => ∃ j : Nat, i = .int .i64 (j : Int) ∧ Aside0 (j ≤ l0.length) ∧ Aside0 (Below w.heap.size w wq) ∧ Aside0 (Box wq gy y) ∧ Aside0 (wq.heap[bu]? = some (.cells (usedCells l0.length (inPairs P)) 4 (0, 0)))) (fun i _ => l0.length - (intOf i).toNat)
                  case atStart => exact ⟨0, rfl, ⟨by omega⟩, HB2, HBX, HU2⟩
                  case round =>
                    clear HB2 HBX HU2
                    obtain ⟨j, rfl, HJ, HB, HBX, HU⟩ := hrel
                    by_cases c5 : (j : Int) < (l0.length : Int)
                    · have c5b : decide ((j : Int) < (l0.length : Int)) = true := decide_eq_true c5
                      have j0 : (0 : Int) ≤ (j : Int) := by omega
                      have hj00 := eq_true j0
                      have hj01 := eq_true c5
                      have HJL : Aside0 (j < l0.length) := ⟨by omega⟩
                      have HWJ : Aside0 (wrap64 ((j : Int) + 1) = (j : Int) + 1) := ⟨by have := HL.out; have := HJL.out; unfold wrap64; omega⟩
                      have HNJ := Aside0.mk (HNA.out HQ.out HIN.out j HJL.out)
                      obtain ⟨adj, eaj, hj0, hj1, hj2, hj3, hj4, hj5⟩ := at_T37 HR0.out (j : Int) j0 c5
                      obtain rfl := Option.some.inj eaj
                      rw [Int.toNat_natCast] at hj0 hj1 hj2 hj3 hj4 hj5
                      have lt := fun (A : Addr) (v : Value) (h : w.cell? A = some v) => (HB.out.cell (World.block_lt_of_cell? w _ h)).trans h
                      replace hj0 := lt _ _ hj0
                      replace hj1 := lt _ _ hj1
                      replace hj2 := lt _ _ hj2
                      replace hj3 := lt _ _ hj3
                      replace hj4 := lt _ _ hj4
                      replace hj5 := lt _ _ hj5
                      clear lt eaj
                      generalize rd_T37 l0 (j : Int) = a at *
                      have HUQ := Aside0.mk (blk_alloc HU.out (.cells #[.int .i64 a.f0, .int .i64 a.f1, .int .i64 a.f2, .int .i64 a.f3, .int .i64 a.f4, .int .i64 a.f5] 37))
                      have HBQ := Aside0.mk (below_alloc HB.out (.cells #[.int .i64 a.f0, .int .i64 a.f1, .int .i64 a.f2, .int .i64 a.f3, .int .i64 a.f4, .int .i64 a.f5] 37))
                      have HBXQ := Aside0.mk (HBX.out.alloc (.cells #[.int .i64 a.f0, .int .i64 a.f1, .int .i64 a.f2, .int .i64 a.f3, .int .i64 a.f4, .int .i64 a.f5] 37))
                      obtain ⟨y0, y1, y2, y3, y4, y5⟩ := HBXQ.out.cells
                      by_cases r1 : a.f0 = 1
                      · have r1b : (a.f0 == 1) = true := beq_iff_eq.mpr r1
                        by_cases r2 : a.f1 = y.f2
                        · have r2b : (a.f1 == y.f2) = true := beq_iff_eq.mpr r2
                          by_cases r3 : a.f2 = y.f1
                          · have r3b : (a.f2 == y.f1) = true := beq_iff_eq.mpr r3
                            have r4b : (a.f3 == y.f3) = false := beq_eq_false_iff_ne.mpr (fun r4 => HNJ.out ⟨r1, r2, r3, r4⟩)
                            clear r1 r2 r3
                            go_wp2
                            go_round
                            case rel => exact ⟨j + 1, by (try rw [HWJ.out]); push_cast; rfl, ⟨HJL.out⟩, HBQ, HBXQ, HUQ⟩
                            case measure => have := HJL.out; (try rw [HWJ.out]); simp only [intOf]; omega
                          · have r3b : (a.f2 == y.f1) = false := beq_eq_false_iff_ne.mpr r3
                            clear r1 r2 r3
                            go_wp2
                            go_round
                            case rel => exact ⟨j + 1, by (try rw [HWJ.out]); push_cast; rfl, ⟨HJL.out⟩, HBQ, HBXQ, HUQ⟩
                            case measure => have := HJL.out; (try rw [HWJ.out]); simp only [intOf]; omega
                        · have r2b : (a.f1 == y.f2) = false := beq_eq_false_iff_ne.mpr r2
                          clear r1 r2
                          go_wp2
                          go_round
                          case rel => exact ⟨j + 1, by (try rw [HWJ.out]); push_cast; rfl, ⟨HJL.out⟩, HBQ, HBXQ, HUQ⟩
                          case measure => have := HJL.out; (try rw [HWJ.out]); simp only [intOf]; omega
                      · have r1b : (a.f0 == 1) = false := beq_eq_false_iff_ne.mpr r1
                        clear r1
                        go_wp2
                        go_round
                        case rel => exact ⟨j + 1, by (try rw [HWJ.out]); push_cast; rfl, ⟨HJL.out⟩, HBQ, HBXQ, HUQ⟩
                        case measure => have := HJL.out; (try rw [HWJ.out]); simp only [intOf]; omega
                    · have c5b : decide ((j : Int) < (l0.length : Int)) = false := decide_eq_false c5
                      go_wp2
                      go_round
                      case rel => exact ⟨x + 1, by (try rw [HWX.out]); push_cast; rfl, ⟨HXL.out⟩, HB, HU⟩
                      case measure => have := HXL.out; (try rw [HWX.out]); simp only [intOf]; omega
              · have qb : (y.f0 != 2) = true := bne_iff_ne.mpr q
                clear q
                go_wp2
                go_round
                case rel => exact ⟨x + 1, by (try rw [HWX.out]); push_cast; rfl, ⟨HXL.out⟩, HB2, HU2⟩
                case measure => have := HXL.out; (try rw [HWX.out]); simp only [intOf]; omega
            · have c4b : decide ((x : Int) < (l0.length : Int)) = false := decide_eq_false c4
              go_wp2_with fail
              refine (timesynclaw50_awake.calls 200 true _ (HG.out.below HB.out) awake_true).mono ?_
              rintro e w9 ⟨rfl, hb9⟩
              have HB9 := Aside0.mk (below_step HB.out hb9)
              go_wp2
              go_ret
              exact ⟨rfl, HB9.out⟩
    · have c2b : (chk l0 != 0) = true := bne_iff_ne.mpr c2
      clear c2
      go_wp2_with fail
      refine (timesynclaw50_awake.calls 200 true _ (HG.out.below HB1.out) awake_true).mono ?_
      rintro e w2 ⟨rfl, hb1⟩
      have HB2 := Aside0.mk (below_step HB1.out hb1)
      go_wp2
      go_ret
      exact ⟨rfl, HB2.out⟩
/-- The law's value: true. -/
def timesynclaw50_LogbookMatches.f (k : Nat) (l0 : List S37) : Option Bool := some true
theorem timesynclaw50_LogbookMatches.calls (k : Nat) (A0 : Option Addr) (c0 : Nat) (l0 : List S37) (r : Bool) (w : World) (hG : Glob w) (hr0 : Kd.C k37 w A0 l0.length l0) (hc0 : l0.length ≤ c0) (h : timesynclaw50_LogbookMatches.f k l0 = some r) :
    Calls Tryd.prog 6 #[.slice A0 l0.length c0] w fun e w' => e = .returned (.bool r) ∧ Below w.heap.size w w' := by
  obtain rfl := Option.some.inj h
  exact matches_calls A0 c0 l0 w hG hr0 hc0
end Go.Proofs.YtjhifhnjkpoofaaDoor.M
