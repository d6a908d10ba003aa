/-
  logbook.Pairs by hand: a map from a message to where it was sent, and a slice of pairs.
-/
import Derived.Test.YtjhifhnjkpoofaaDoorExtC
namespace Go.Proofs.YtjhifhnjkpoofaaDoor.M
open Go.RowKit Go.Proofs.YtjhifhnjkpoofaaDoorG Go.Proofs.YtjhifhnjkpoofaaDoorW.PrintWords Go.Proofs.YtjhifhnjkpoofaaDoorW.PrintLast Go.Proofs.YtjhifhnjkpoofaaDoorW.PrintMore
set_option linter.unusedVariables false
set_option linter.unusedSimpArgs false

theorem zero3 (w : World) : (zeroValue 3).run Tryd.prog w = .ok (.int .i64 0) w := by kernel_rfl
/-- What the map answers: at a name of a sending, its index. -/
def gOf (f : Int × Int × Int → Option Int) (k : Int × Int × Int × Int) : Option Int := if k.1 = 1 then f k.2 else none
theorem sent_snoc (l : List S37) (x : S37) (k : Int × Int × Int) : ∀ (i : Int) (r : Option Int), sentFrom (l ++ [x]) i r k = if x.f0 = 1 ∧ (x.f1, x.f2, x.f3) = k then some (i + l.length) else sentFrom l i r k := by
  induction l with
  | nil => intro i r; simp [sentFrom]
  | cons a l ih =>
    intro i r
    rw [List.cons_append, sentFrom, ih, sentFrom]
    simp only [List.length_cons]
    rw [show i + 1 + (l.length : Int) = i + ((l.length + 1 : Nat) : Int) by omega]
theorem take_snoc (l : List S37) (x : Int) (h0 : 0 ≤ x) (h1 : x < l.length) : l.take (x + 1).toNat = l.take x.toNat ++ [rd_T37 l x] := by
  have hl : x.toNat < l.length := by omega
  have e : rd_T37 l x = l[x.toNat] := by simp [rd_T37, List.getD, hl]
  rw [e, show (x + 1).toNat = x.toNat + 1 by omega]
  exact List.take_succ_eq_append_getElem hl
theorem sent_step (l : List S37) (x : Int) (h0 : 0 ≤ x) (h1 : x < l.length) (k : Int × Int × Int) : sentFrom (l.take (x + 1).toNat) 0 none k = if (rd_T37 l x).f0 = 1 ∧ ((rd_T37 l x).f1, (rd_T37 l x).f2, (rd_T37 l x).f3) = k then some x else sentFrom (l.take x.toNat) 0 none k := by
  rw [take_snoc l x h0 h1, sent_snoc]
  have : (0 : Int) + ((l.take x.toNat).length : Int) = x := by rw [List.length_take]; omega
  rw [this]
theorem pairs_snoc (g : Int × Int × Int → Option Int) (l : List S37) (x : S37) : ∀ (i : Int), pairsFrom g (l ++ [x]) i = pairsFrom g l i ++ pairsFrom g [x] (i + l.length) := by
  induction l with
  | nil => intro i; simp [pairsFrom]
  | cons a l ih =>
    intro i
    rw [List.cons_append, pairsFrom, ih]
    simp only [List.length_cons]
    rw [show i + 1 + (l.length : Int) = i + ((l.length + 1 : Nat) : Int) by omega]
    conv => rhs; rw [pairsFrom]
    split
    · split <;> simp
    · rfl
theorem pairsOf_step (g : Int × Int × Int → Option Int) (l : List S37) (x : Int) (h0 : 0 ≤ x) (h1 : x < l.length) : pairsFrom g (l.take (x + 1).toNat) 0 = pairsFrom g (l.take x.toNat) 0 ++ pairsFrom g [rd_T37 l x] x := by
  rw [take_snoc l x h0 h1, pairs_snoc]
  have : (0 : Int) + ((l.take x.toNat).length : Int) = x := by rw [List.length_take]; omega
  rw [this]
theorem pairs_len (g : Int × Int × Int → Option Int) (l : List S37) : ∀ i, (pairsFrom g l i).length ≤ l.length := by
  induction l with
  | nil => intro i; simp [pairsFrom]
  | cons a l ih =>
    intro i
    rw [pairsFrom]
    have := ih (i + 1)
    split
    · split <;> simp <;> omega
    · simp; omega
set_option maxHeartbeats 3200000 in
set_option maxRecDepth 100000 in
theorem pairs_calls (A0 : Option Addr) (c0 : Nat) (l0 : List S37) (w : World) (hr0 : Kd.C k37 w A0 l0.length l0) (hc0 : l0.length ≤ c0) :
    Calls Tryd.prog 17 #[.slice A0 l0.length c0] w fun e w' => ∃ v0_ : Value, e = .returned v0_ ∧ Kd.R k33 33 w' w.heap.size (fun _ => True) v0_ (if chk l0 = 0 then pairsFrom (sentFrom l0 0 none) l0 0 else []) ∧ Below w.heap.size w w' := by
  have hu37 := Tryd.underlying37
  have hu33 := Tryd.underlying33
  have hu46 := Tryd.underlying46
  have HR0 := Aside0.mk hr0
  have HC0 := Aside0.mk hc0
  clear hr0 hc0
  have HB := Aside0.mk (Below.refl w.heap.size w)
  generalize hrs : (if chk l0 = 0 then pairsFrom (sentFrom l0 0 none) l0 0 else []) = rs
  have HRS := Aside0.mk hrs
  clear hrs
  go_enter Tryd.func17, Tryd.ntmps17
  go_wp2_with fail
  refine (check_calls _ _ l0 _ HR0.out HC0.out).mono ?_
  rintro e w1 ⟨rfl, hb1⟩
  have HB1 := Aside0.mk hb1
  clear hb1 HB
  by_cases c2 : chk l0 = 0
  · have c2b : (chk l0 != 0) = false := bne_eq_false_iff_eq.mpr c2
    have HL : Aside0 (l0.length ≤ 512) := ⟨by
      have h := c2
      unfold chk at h
      split at h
      · cases h
      · omega⟩
    have HRZ : Aside0 (rs = pairsFrom (sentFrom l0 0 none) l0 0) := ⟨by rw [← HRS.out, if_pos c2]⟩
    clear c2 HRS
    have hmm := @run_makeMap Tryd.prog
    have HM : Aside0 (MapIs encName (Value.int .i64) (w1.alloc (.map #[] 0)) w1.heap.size (fun _ => none)) := ⟨MapIs.made w1⟩
    have HB2 := Aside0.mk (below_alloc HB1.out (.map #[] 0))
    have HS := Aside0.mk HB1.out.size
    go_wp2
    clear hmm
    generalize hW : w1.alloc (.map #[] 0) = W at *
    generalize w1.heap.size = b at *
    go_loopw [17] (fun i wr => ∃ x : Int, i = .int .i64 x ∧ Aside0 (0 ≤ x ∧ x ≤ l0.length) ∧ Aside0 (Below w.heap.size w wr) ∧ Aside0 (MapIs encName (Value.int .i64) wr b (gOf (sentFrom (l0.take x.toNat) 0 none)))) (fun i _ => l0.length - (intOf i).toNat)
    case atStart => exact ⟨0, rfl, ⟨by omega, by omega⟩, HB2, ⟨HM.out.congr (fun k => by unfold gOf; split <;> rfl)⟩⟩
    case round =>
      clear HM HB2 HB1
      obtain ⟨x, rfl, HX, HB, HM⟩ := hrel
      by_cases c3 : x < (l0.length : Int)
      · have x0 := HX.out.1
        have c3b0 : decide (x < (l0.length : Int)) = true := decide_eq_true c3
        have p0 : decide (0 ≤ x) = true := decide_eq_true x0
        have HX2 := Aside0.mk c3
        have HWX : Aside0 (wrap64 (x + 1) = x + 1) := ⟨by have := HL.out; have := HX2.out; unfold wrap64; omega⟩
        obtain ⟨ad, ead, hx0, hx1, hx2, hx3, hx4, hx5⟩ := at_T37 HR0.out x x0 c3
        cases ead
        replace hx0 := (HB.out.cell (World.block_lt_of_cell? w _ hx0)).trans hx0
        replace hx1 := (HB.out.cell (World.block_lt_of_cell? w _ hx1)).trans hx1
        replace hx2 := (HB.out.cell (World.block_lt_of_cell? w _ hx2)).trans hx2
        replace hx3 := (HB.out.cell (World.block_lt_of_cell? w _ hx3)).trans hx3
        replace hx4 := (HB.out.cell (World.block_lt_of_cell? w _ hx4)).trans hx4
        replace hx5 := (HB.out.cell (World.block_lt_of_cell? w _ hx5)).trans hx5
        have p := eq_true x0
        have q := eq_true c3
        have HST := Aside0.mk (sent_step l0 x x0 c3)
        generalize rd_T37 l0 x = y at *
        have hmr : MapIs encName (Value.int .i64) (wr.alloc (.cells #[.int .i64 y.f0, .int .i64 y.f1, .int .i64 y.f2, .int .i64 y.f3, .int .i64 y.f4, .int .i64 y.f5] 37)) b (gOf (sentFrom (l0.take x.toNat) 0 none)) := HM.out.block (block_alloc_lt HM.out.lt)
        have HMR := Aside0.mk hmr
        clear hmr
        by_cases c4 : y.f0 = 1
        · have c4b : (y.f0 == 1) = true := beq_iff_eq.mpr c4
          have C4 := Aside0.mk c4
          clear c4
          go_wp2_with (first | (at_mapUpdate; refine wp_put _ rfl _ _ _ 53 rfl 46 3 key_name Tryd.underlying53 b _ rfl HMR.out (1, y.f1, y.f2, y.f3) x rfl rfl ?_; intro w2 hp1 hg1) | go_in)
          go_round
          case rel =>
            refine ⟨x + 1, by rw [HWX.out], ⟨by have := HX.out; omega, by have := HX2.out; omega⟩, ⟨?_⟩, ⟨?_⟩⟩
            · have hbl : w.heap.size ≤ b := HS.out
              exact Below.grown (below_alloc HB.out _) hg1 (below_alloc HB.out _).size (fun k hk => by injection hk with hk; omega)
            · refine hp1.congr (fun k => ?_)
              obtain ⟨k0, k1, k2, k3⟩ := k
              unfold gOf
              rw [HST.out]
              by_cases e0 : k0 = 1
              · simp only [e0, if_true, C4.out, true_and]
                by_cases e1 : (y.f1, y.f2, y.f3) = (k1, k2, k3)
                · rw [if_pos e1, if_pos (by rw [← e1])]
                · rw [if_neg e1, if_neg (fun h => e1 (by injection h with _ h; exact h.symm))]
              · simp only [e0, if_false]
                rw [if_neg (fun h => e0 (by injection h))]
          case measure => have := HX2.out; have := HX.out; simp only [intOf, HWX.out]; omega
        · have c4b : (y.f0 == 1) = false := beq_eq_false_iff_ne.mpr c4
          go_wp2
          go_round
          case rel => exact ⟨x + 1, by rw [HWX.out], ⟨by have := HX.out; omega, by have := HX2.out; omega⟩, ⟨below_alloc HB.out _⟩, ⟨HMR.out.congr (fun k => by have h := HST.out k.2; rw [if_neg (fun h => c4 h.1)] at h; unfold gOf; rw [h])⟩⟩
          case measure => have := HX2.out; have := HX.out; simp only [intOf, HWX.out]; omega
      · have c3b0 : decide (x < (l0.length : Int)) = false := decide_eq_false c3
        have HMZ : Aside0 (MapIs encName (Value.int .i64) wr b (gOf (sentFrom l0 0 none))) := ⟨by
          have h := HM.out
          rwa [List.take_of_length_le (by omega)] at h⟩
        have HBZ := HB
        clear HM c3 HB
        generalize hgg : sentFrom l0 0 none = gg at *
        clear hgg
        go_wp2
        go_loopw [6, 37] (fun v i wr => ∃ x : Int, i = .int .i64 x ∧ Aside0 (0 ≤ x ∧ x ≤ l0.length) ∧ Aside0 (Below w.heap.size w wr) ∧ Aside0 (MapIs encName (Value.int .i64) wr b (gOf gg)) ∧ Aside0 (Kd.R k33 33 wr w.heap.size (fun k => k ≠ b) v (pairsFrom gg (l0.take x.toNat) 0))) (fun _ i _ => l0.length - (intOf i).toNat)
        case atStart => exact ⟨0, rfl, ⟨by omega, by omega⟩, HBZ, HMZ, ⟨Kd.R_nil _ _ _ _ _⟩⟩
        case round =>
          clear HMZ HBZ
          obtain ⟨x, rfl, HX, HB, HM, HO⟩ := hrel
          by_cases c3 : x < (l0.length : Int)
          · have x0 := HX.out.1
            have c3b0 : decide (x < (l0.length : Int)) = true := decide_eq_true c3
            have p0 : decide (0 ≤ x) = true := decide_eq_true x0
            have HX2 := Aside0.mk c3
            have HWX : Aside0 (wrap64 (x + 1) = x + 1) := ⟨by have := HL.out; have := HX2.out; unfold wrap64; omega⟩
            obtain ⟨ad, ead, hx0, hx1, hx2, hx3, hx4, hx5⟩ := at_T37 HR0.out x x0 c3
            cases ead
            replace hx0 := (HB.out.cell (World.block_lt_of_cell? w _ hx0)).trans hx0
            replace hx1 := (HB.out.cell (World.block_lt_of_cell? w _ hx1)).trans hx1
            replace hx2 := (HB.out.cell (World.block_lt_of_cell? w _ hx2)).trans hx2
            replace hx3 := (HB.out.cell (World.block_lt_of_cell? w _ hx3)).trans hx3
            replace hx4 := (HB.out.cell (World.block_lt_of_cell? w _ hx4)).trans hx4
            replace hx5 := (HB.out.cell (World.block_lt_of_cell? w _ hx5)).trans hx5
            have p := eq_true x0
            have q := eq_true c3
            have HST := Aside0.mk (pairsOf_step gg l0 x x0 c3)
            have HVL : Aside0 ((pairsFrom gg (l0.take x.toNat) 0).length ≤ 512) := ⟨by have h := pairs_len gg (l0.take x.toNat) 0; rw [List.length_take] at h; have := HL.out; omega⟩
            generalize rd_T37 l0 x = y at *
            have HMM : Aside0 (MapIs encName (Value.int .i64) (wr.alloc (.cells #[.int .i64 y.f0, .int .i64 y.f1, .int .i64 y.f2, .int .i64 y.f3, .int .i64 y.f4, .int .i64 y.f5] 37)) b (gOf gg)) := ⟨HM.out.block (block_alloc_lt HM.out.lt)⟩
            by_cases c4 : y.f0 = 2
            · have c4b : (y.f0 != 2) = false := bne_eq_false_iff_eq.mpr c4
              cases hg2 : gg (y.f2, y.f1, y.f3) with
              | none =>
                have hg3 : gOf gg (1, y.f2, y.f1, y.f3) = none := hg2
                have HN : Aside0 (pairsFrom gg (l0.take (x + 1).toNat) 0 = pairsFrom gg (l0.take x.toNat) 0) := ⟨by rw [HST.out]; simp [pairsFrom, c4, hg2]⟩
                clear c4 hg2
                go_wp2_with (first | (at_lookup; refine wp_look2 _ rfl _ _ 53 rfl 46 3 key_name Tryd.underlying53 _ (zero3 _) b _ rfl (HMM.out) (1, y.f2, y.f1, y.f3) rfl (.int .i64 0) (by simp [hg3]) false (by simp [hg3]) ?_) | go_in)
                go_round
                case rel => exact ⟨x + 1, by rw [HWX.out], ⟨by have := HX.out; omega, by have := HX2.out; omega⟩, ⟨(by repeat (first | (with_reducible first | exact HB.out | apply below_alloc | apply pw_below_drewN | apply below_drew1) | exact HB.out))⟩, HMM, ⟨by rw [HN.out]; (with_reducible repeat (first | apply Kd.R_alloc | apply Kd.R_drewN | apply Kd.R_drew)); exact HO.out⟩⟩
                case measure => have := HX2.out; have := HX.out; simp only [intOf, HWX.out]; omega
              | some kk =>
                have hg3 : gOf gg (1, y.f2, y.f1, y.f3) = some kk := hg2
                have HN : Aside0 (pairsFrom gg (l0.take (x + 1).toNat) 0 = pairsFrom gg (l0.take x.toNat) 0 ++ [⟨kk, x⟩]) := ⟨by rw [HST.out]; simp [pairsFrom, c4, hg2]⟩
                clear c4 hg2
                generalize pairsFrom gg (l0.take x.toNat) 0 = ps at *
                have HNE : Aside0 (some b ≠ u6.ownBlock) := ⟨fun e => HO.out.1 b e.symm rfl⟩
                go_wp2_with (first | (at_lookup; refine wp_look2 _ rfl _ _ 53 rfl 46 3 key_name Tryd.underlying53 _ (zero3 _) b _ rfl (HMM.out) (1, y.f2, y.f1, y.f3) rfl (.int .i64 kk) (by simp [hg3]) true (by simp [hg3]) ?_) | ((with_reducible refine gate_builtin (b := .append) (xs := #[.tmp 58, .tmp 62]) rfl ?_); at_builtin; refine Kd.R_append k33 (w0 := w) w.heap.size rfl (.tmp 58) (.tmp 62) 32 33 (.agg #[(.int .i64 0), (.int .i64 0)]) 16 rfl Tryd.underlying32 info33 rfl (by decide) (by omega) u6 ps (⟨kk, x⟩ : S33) [.int .i64 kk, .int .i64 x] (fun k => k ≠ b) (fun _ => False) rfl ?aX ?aP (fun _ hk => hk.elim) ?aF ?aO ?aB ?aS ?aL ?_; (case aX => (rw [size_alloc]; rfl)); (case aP => exact k33_mkM _ _ _ (⟨kk, x⟩ : S33)); (case aB => exact (by repeat (first | (with_reducible first | exact HB.out | apply below_alloc | apply pw_below_drewN | apply below_drew1) | exact HB.out))); (case aF => exact (fun k hk (e : k = b) => absurd HMM.out.lt (by rw [← e]; exact Nat.not_lt.2 hk))); (case aO => exact (by (with_reducible repeat (first | apply Kd.R_alloc | apply Kd.R_drewN | apply Kd.R_drew)); exact HO.out)); (case aS => exact (below_size (by repeat (first | (with_reducible first | exact HB.out | apply below_alloc | apply pw_below_drewN | apply below_drew1) | exact HB.out)))); (case aL => have := HVL.out; omega); intro v125 w8 ho hb hg hat; have HB8 := Aside0.mk (hb); have HO8 := Aside0.mk (ho); have HG8 := Aside0.mk hg; clear HB; clear HO; clear ho hb hg hat) | go_in)
                go_round
                case rel => exact ⟨x + 1, by rw [HWX.out], ⟨by have := HX.out; omega, by have := HX2.out; omega⟩, HB8, ⟨HMM.out.block (HG8.out.block b HMM.out.lt HNE.out)⟩, ⟨by rw [HN.out]; exact HO8.out⟩⟩
                case measure => have := HX2.out; have := HX.out; simp only [intOf, HWX.out]; omega
            · have c4b : (y.f0 != 2) = true := bne_iff_ne.mpr c4
              have HN : Aside0 (pairsFrom gg (l0.take (x + 1).toNat) 0 = pairsFrom gg (l0.take x.toNat) 0) := ⟨by rw [HST.out]; simp [pairsFrom, c4]⟩
              clear c4
              go_wp2
              go_round
              case rel => exact ⟨x + 1, by rw [HWX.out], ⟨by have := HX.out; omega, by have := HX2.out; omega⟩, ⟨(by repeat (first | (with_reducible first | exact HB.out | apply below_alloc | apply pw_below_drewN | apply below_drew1) | exact HB.out))⟩, HMM, ⟨by rw [HN.out]; (with_reducible repeat (first | apply Kd.R_alloc | apply Kd.R_drewN | apply Kd.R_drew)); exact HO.out⟩⟩
              case measure => have := HX2.out; have := HX.out; simp only [intOf, HWX.out]; omega
          · have c3b0 : decide (x < (l0.length : Int)) = false := decide_eq_false c3
            have HN : Aside0 (pairsFrom gg (l0.take x.toNat) 0 = pairsFrom gg l0 0) := ⟨by rw [List.take_of_length_le (by omega)]⟩
            go_wp2
            go_ret
            exact ⟨_, rfl, by rw [HRZ.out, ← HN.out]; exact Kd.R_mono HO.out (fun _ _ => trivial), HB.out⟩
  · have c2b : (chk l0 != 0) = true := bne_iff_ne.mpr c2
    have HRZ : Aside0 (rs = []) := ⟨by rw [← HRS.out, if_neg c2]⟩
    clear c2 HRS
    go_wp2
    go_ret
    exact ⟨_, rfl, by rw [HRZ.out]; exact Kd.R_nil _ _ _ _ _, HB1.out⟩
theorem logbook_Pairs.calls (A0 : Option Addr) (c0 : Nat) (l0 : List S37) (r : List S33) (w : World) (hr0 : Kd.C k37 w A0 l0.length l0) (hc0 : l0.length ≤ c0) (h : logbook_Pairs.f l0 = some r) :
    Calls Tryd.prog 17 #[.slice A0 l0.length c0] w fun e w' => ∃ v0_ : Value, e = .returned v0_ ∧ Kd.R k33 33 w' w.heap.size (fun _ => True) v0_ r ∧ Below w.heap.size w w' := by
  obtain rfl := Option.some.inj h
  exact pairs_calls A0 c0 l0 w hr0 hc0
end Go.Proofs.YtjhifhnjkpoofaaDoor.M
