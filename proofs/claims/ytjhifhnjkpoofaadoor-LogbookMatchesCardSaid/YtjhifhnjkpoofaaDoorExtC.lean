/-
  logbook.Check by hand: two maps that the call makes.
-/
import Derived.Test.YtjhifhnjkpoofaaDoorExtO
import Derived.Test.YtjhifhnjkpoofaaDoorMap
import Derived.LoopTactic
import Derived.Lib.Hide
namespace Go.Proofs.YtjhifhnjkpoofaaDoor.M
open Go.RowKit Go.Proofs.YtjhifhnjkpoofaaDoorG Go.Proofs.YtjhifhnjkpoofaaDoorW.PrintWords Go.Proofs.YtjhifhnjkpoofaaDoorW.PrintLast Go.Proofs.YtjhifhnjkpoofaaDoorW.PrintMore
set_option linter.unusedVariables false
set_option linter.unusedSimpArgs false

theorem errs_step (l : List S37) (x : Int) (h0 : 0 ≤ x) (h1 : x < l.length) : firstErr (l.drop x.toNat) = if errOf (rd_T37 l x) = 0 then firstErr (l.drop (x + 1).toNat) else errOf (rd_T37 l x) := by
  have hl : x.toNat < l.length := by omega
  rw [List.drop_eq_getElem_cons hl, firstErr, show (x + 1).toNat = x.toNat + 1 by omega]
  have : rd_T37 l x = l[x.toNat] := by simp [rd_T37, List.getD, hl]
  rw [this]

def encEntry (x : S37) : Value := .agg #[.int .i64 x.f0, .int .i64 x.f1, .int .i64 x.f2, .int .i64 x.f3, .int .i64 x.f4, .int .i64 x.f5]
theorem block_alloc_lt {w : World} {o : Obj} {b : Nat} (h : b < w.heap.size) : (w.alloc o).heap[b]? = w.heap[b]? := by
  show (w.heap.push o)[b]? = _
  rw [Array.getElem?_push, if_neg (by omega)]
theorem size_alloc (w : World) (o : Obj) : (w.alloc o).heap.size = w.heap.size + 1 := by
  show (w.heap.push o).size = _
  simp
theorem block_new (w : World) (o : Obj) : (w.alloc o).heap[w.heap.size]? = some o := by
  show (w.heap.push o)[w.heap.size]? = _
  simp
theorem zero4 (w : World) : (zeroValue 4).run Tryd.prog w = .ok (.bool false) w := by kernel_rfl
theorem zero37 (w : World) : (zeroValue 37).run Tryd.prog w = .ok (encEntry ⟨0, 0, 0, 0, 0, 0⟩) w := by kernel_rfl
/-- A variable of the call's own that holds an entry. -/
def Box (w : World) (b : Nat) (x : S37) : Prop := w.heap[b]? = some (.cells #[.int .i64 x.f0, .int .i64 x.f1, .int .i64 x.f2, .int .i64 x.f3, .int .i64 x.f4, .int .i64 x.f5] 37 (0, 0))
theorem Box.cells {w : World} {b : Nat} {x : S37} (h : Box w b x) : w.cell? ⟨b, 0, none⟩ = some (.int .i64 x.f0) ∧ w.cell? ⟨b, 1, none⟩ = some (.int .i64 x.f1) ∧ w.cell? ⟨b, 2, none⟩ = some (.int .i64 x.f2) ∧
    w.cell? ⟨b, 3, none⟩ = some (.int .i64 x.f3) ∧ w.cell? ⟨b, 4, none⟩ = some (.int .i64 x.f4) ∧ w.cell? ⟨b, 5, none⟩ = some (.int .i64 x.f5) := by
  unfold Box at h
  simp [World.cell?, h]
def BoxN (w : World) (b : Nat) (x : S37) : Prop := w.heap[b]? = some (.cells #[.int .i64 x.f0, .int .i64 x.f1, .int .i64 x.f2, .int .i64 x.f3] 46 (0, 0))
theorem BoxN.cells {w : World} {b : Nat} {x : S37} (h : BoxN w b x) : w.cell? ⟨b, 0, none⟩ = some (.int .i64 x.f0) ∧ w.cell? ⟨b, 1, none⟩ = some (.int .i64 x.f1) ∧ w.cell? ⟨b, 2, none⟩ = some (.int .i64 x.f2) ∧
    w.cell? ⟨b, 3, none⟩ = some (.int .i64 x.f3) := by
  unfold BoxN at h
  simp [World.cell?, h]
theorem lt_of_some {w : World} {b : Nat} {o : Obj} (h : w.heap[b]? = some o) : b < w.heap.size := (Array.getElem?_eq_some_iff.1 h).1
theorem Box.alloc {w : World} {b : Nat} {x : S37} (h : Box w b x) (o : Obj) : Box (w.alloc o) b x := (block_alloc_lt (lt_of_some h)).trans h
theorem BoxN.alloc {w : World} {b : Nat} {x : S37} (h : BoxN w b x) (o : Obj) : BoxN (w.alloc o) b x := (block_alloc_lt (lt_of_some h)).trans h
theorem step_seen (pre : List S37) (y : S37) (k : Int × Int × Int × Int) : (if seenIn (y :: pre) k = true then some true else none) = if k = nameOf y then some true else if seenIn pre k = true then some true else none := by
  unfold seenIn
  rw [List.any_cons]
  by_cases h : k = nameOf y
  · subst h; simp
  · have : (nameOf y == k) = false := by simp; exact fun e => h e.symm
    rw [this, if_neg h, Bool.false_or]
theorem step_last (pre : List S37) (y : S37) (n : Int) : lastAt (y :: pre) n = if n = y.f1 then some y else lastAt pre n := by
  unfold lastAt
  rw [List.find?_cons]
  by_cases h : n = y.f1
  · subst h; simp
  · have : (y.f1 == n) = false := by simp; exact fun e => h e.symm
    rw [this, if_neg h]
theorem chk_step (l : List S37) (x : Int) (h0 : 0 ≤ x) (h1 : x < l.length) :
    chkFrom (l.take x.toNat).reverse (l.drop x.toNat) = if ((rd_T37 l x).f0 = 1 ∨ (rd_T37 l x).f0 = 2) ∧ seenIn (l.take x.toNat).reverse (nameOf (rd_T37 l x)) = true then 10
      else match lastAt (l.take x.toNat).reverse (rd_T37 l x).f1 with
        | some b => if b.f0 ≠ 3 ∧ (rd_T37 l x).f4 < b.f4 then 12 else chkFrom (l.take (x + 1).toNat).reverse (l.drop (x + 1).toNat)
        | none => chkFrom (l.take (x + 1).toNat).reverse (l.drop (x + 1).toNat) := by
  have hl : x.toNat < l.length := by omega
  have e : rd_T37 l x = l[x.toNat] := by simp [rd_T37, List.getD, hl]
  have et : (l.take (x + 1).toNat).reverse = l[x.toNat] :: (l.take x.toNat).reverse := by
    rw [show (x + 1).toNat = x.toNat + 1 by omega, List.take_succ_eq_append_getElem hl]
    simp
  rw [List.drop_eq_getElem_cons hl, chkFrom, et, show (x + 1).toNat = x.toNat + 1 by omega, e]
  rfl
theorem pre_step (l : List S37) (x : Int) (h0 : 0 ≤ x) (h1 : x < l.length) : (l.take (x + 1).toNat).reverse = rd_T37 l x :: (l.take x.toNat).reverse := by
  have hl : x.toNat < l.length := by omega
  have e : rd_T37 l x = l[x.toNat] := by simp [rd_T37, List.getD, hl]
  rw [show (x + 1).toNat = x.toNat + 1 by omega, List.take_succ_eq_append_getElem hl, e]
  simp

set_option maxHeartbeats 3200000 in
set_option maxRecDepth 100000 in
theorem check_calls (A0 : Option Addr) (c0 : Nat) (l0 : List S37) (w : World) (hr0 : Kd.C k37 w A0 l0.length l0) (hc0 : l0.length ≤ c0) :
    Calls Tryd.prog 10 #[.slice A0 l0.length c0] w fun e w' => e = .returned (.int .i64 (chk l0)) ∧ Below w.heap.size w w' := by
  have hu37 := Tryd.underlying37
  have HR0 := Aside0.mk hr0
  have HC0 := Aside0.mk hc0
  clear hr0 hc0
  have HB := Aside0.mk (Below.refl w.heap.size w)
  by_cases c2 : l0.length > 512
  · have c2b0 : decide (512 < (l0.length : Int)) = true := decide_eq_true (by omega)
    have c2b1 : decide (512 < l0.length) = true := decide_eq_true (by omega)
    have HF : Hid (chk l0 = 6) := by unfold chk; rw [if_pos c2]; rfl
    clear c2
    go_enter Tryd.func10, Tryd.ntmps10
    go_wp2
    go_ret
    exact ⟨by rw [HF.out]; rfl, HB.out⟩
  · have c2b0 : decide (512 < (l0.length : Int)) = false := decide_eq_false (by omega)
    have c2b1 : decide (512 < l0.length) = false := decide_eq_false (by omega)
    have HF : Hid (chk l0 = if firstErr l0 = 0 then chkFrom [] l0 else firstErr l0) := by unfold chk; rw [if_neg c2]; rfl
    have HL : Hid (l0.length ≤ 512) := by show _ ≤ _; omega
    clear c2
    go_enter Tryd.func10, Tryd.ntmps10
    go_wp2
    go_loopw [18] (fun i wr => ∃ x : Int, i = .int .i64 x ∧ Aside0 (0 ≤ x ∧ x ≤ l0.length) ∧ Aside0 (firstErr (l0.drop x.toNat) = firstErr l0) ∧ Aside0 (Below w.heap.size w wr)) (fun i _ => l0.length - (intOf i).toNat)
    case atStart => exact ⟨0, rfl, ⟨by omega, by omega⟩, ⟨rfl⟩, HB⟩
    case round =>
      obtain ⟨x, rfl, HX, HE, HB⟩ := hrel
      obtain ⟨x0, x1⟩ := HX.out
      by_cases c3 : x < l0.length
      · have hst := errs_step l0 x x0 c3
        rw [HE.out] at hst
        obtain ⟨ad, ead, hx0, hx1, hx2, hx3, hx4, hx5⟩ := at_T37 HR0.out x x0 c3
        cases ead
        replace hx0 := (HB.out.cell (World.block_lt_of_cell? w _ hx0)).trans hx0
        replace hx1 := (HB.out.cell (World.block_lt_of_cell? w _ hx1)).trans hx1
        replace hx2 := (HB.out.cell (World.block_lt_of_cell? w _ hx2)).trans hx2
        replace hx3 := (HB.out.cell (World.block_lt_of_cell? w _ hx3)).trans hx3
        replace hx4 := (HB.out.cell (World.block_lt_of_cell? w _ hx4)).trans hx4
        replace hx5 := (HB.out.cell (World.block_lt_of_cell? w _ hx5)).trans hx5
        have HX2 := Aside0.mk c3
        have HWX : Aside0 (wrap64 (x + 1) = x + 1) := ⟨by have := HL.out; have := HX2.out; unfold wrap64; omega⟩
        have HCE := Aside0.mk (fun V : World => checkEntry_walk (rd_T37 l0 x) V)
        generalize errOf (rd_T37 l0 x) = er at hst HCE
        have p := eq_true x0
        have q := eq_true c3
        have c3b0 : decide (x < (l0.length : Int)) = true := decide_eq_true c3
        have p0 : decide (0 ≤ x) = true := decide_eq_true x0
        have HST := Lib.hid hst
        clear hst
        go_wp2_with fail
        refine (HCE.out _).mono ?_
        rintro e w1 ⟨rfl, hb1⟩
        have HB1 := Aside0.mk (below_then (below_alloc HB.out _) (below_alloc HB.out _).size hb1)
        clear hb1
        by_cases c4 : er = 0
        · have e1 : (er != 0) = false := bne_eq_false_iff_eq.mpr c4
          have HN : Aside0 (firstErr (l0.drop (x + 1).toNat) = firstErr l0) := ⟨by rw [HST.out, if_pos c4]⟩
          go_wp2
          go_round
          case rel => exact ⟨x + 1, by rw [HWX.out], ⟨by have := HX.out; omega, by have := HX2.out; omega⟩, HN, HB1⟩
          case measure => have := HX2.out; have := HX.out; simp only [intOf, HWX.out]; omega
        · have e1 : (er != 0) = true := bne_iff_ne.mpr c4
          have HN : Aside0 (chk l0 = er) := ⟨by rw [HF.out, HST.out, if_neg c4, if_neg c4]⟩
          go_wp2
          go_ret
          exact ⟨by rw [HN.out]; rfl, HB1.out⟩
      · have c3b0 : decide (x < (l0.length : Int)) = false := decide_eq_false c3
        have HZ : Aside0 (chk l0 = chkFrom [] l0) := ⟨by
          have h1 := HE.out
          rw [List.drop_eq_nil_of_le (by omega)] at h1
          have h2 : firstErr l0 = 0 := h1.symm
          rw [HF.out, if_pos h2]⟩
        have hmm := @run_makeMap Tryd.prog
        have HM1 : Aside0 (MapIs encName Value.bool ((wr.alloc (.map #[] 0)).alloc (.map #[] 0)) wr.heap.size (fun _ => none)) := ⟨(MapIs.made wr).block (block_alloc_lt (by rw [size_alloc]; omega))⟩
        have HM2 : Aside0 (MapIs encInt encEntry ((wr.alloc (.map #[] 0)).alloc (.map #[] 0)) (wr.heap.size + 1) (fun _ => none)) := ⟨by
          have := MapIs.made (enc := encInt) (encv := encEntry) (wr.alloc (.map #[] 0))
          rw [size_alloc] at this
          exact this⟩
        have HB2 := Aside0.mk (below_alloc (below_alloc HB.out (.map #[] 0)) (.map #[] 0))
        have HS := Aside0.mk HB.out.size
        go_wp2
        clear hmm
        generalize hW : (wr.alloc (.map #[] 0)).alloc (.map #[] 0) = W at *
        generalize wr.heap.size = b at *
        go_loopw [32] (fun i w2 => ∃ x : Int, i = .int .i64 x ∧ Aside0 (0 ≤ x ∧ x ≤ l0.length) ∧ Aside0 (chkFrom (l0.take x.toNat).reverse (l0.drop x.toNat) = chkFrom [] l0) ∧ Aside0 (Below w.heap.size w w2) ∧
          Aside0 (MapIs encName Value.bool w2 b (fun k => if seenIn (l0.take x.toNat).reverse k = true then some true else none)) ∧ Aside0 (MapIs encInt encEntry w2 (b + 1) (fun n => lastAt (l0.take x.toNat).reverse n))) (fun i _ => l0.length - (intOf i).toNat)
        case atStart => exact ⟨0, rfl, ⟨by omega, by omega⟩, ⟨rfl⟩, HB2, HM1, HM2⟩
        case round =>
          clear HM1 HM2 HB2 HB
          obtain ⟨x, rfl, HX, HE, HB, HM1, HM2⟩ := hrel
          obtain ⟨x0, x1⟩ := HX.out
          by_cases c3 : x < l0.length
          · have hst := chk_step l0 x x0 c3
            rw [HE.out] at hst
            obtain ⟨ad, ead, hx0, hx1, hx2, hx3, hx4, hx5⟩ := at_T37 HR0.out x x0 c3
            cases ead
            replace hx0 := (HB.out.cell (World.block_lt_of_cell? w _ hx0)).trans hx0
            replace hx1 := (HB.out.cell (World.block_lt_of_cell? w _ hx1)).trans hx1
            replace hx2 := (HB.out.cell (World.block_lt_of_cell? w _ hx2)).trans hx2
            replace hx3 := (HB.out.cell (World.block_lt_of_cell? w _ hx3)).trans hx3
            replace hx4 := (HB.out.cell (World.block_lt_of_cell? w _ hx4)).trans hx4
            replace hx5 := (HB.out.cell (World.block_lt_of_cell? w _ hx5)).trans hx5
            have p := eq_true x0
            have q := eq_true c3
            have c3b0 : decide (x < (l0.length : Int)) = true := decide_eq_true c3
            have p0 : decide (0 ≤ x) = true := decide_eq_true x0
            generalize hy : rd_T37 l0 x = y at *
            have HST := Lib.hid hst
            clear hst
            have hmsg : logbook_message.f y.f0 y.f1 y.f2 y.f3 y.f4 y.f5 = some (decide (y.f0 = 1 ∨ y.f0 = 2)) := by
              unfold logbook_message.f
              by_cases h1 : y.f0 = 1 <;> by_cases h2 : y.f0 = 2 <;> simp [h1, h2]
            have HMS := Lib.hid hmsg
            clear hmsg
            have HX2 := Aside0.mk c3
            go_wp2_with fail
            refine (logbook_message.calls _ _ _ _ _ _ _ _ HMS.out).mono ?_
            rintro e w1 ⟨rfl, hb1⟩
            generalize hW0 : ((wr.alloc _).alloc _) = W0 at hb1
            have hx : Box w1 wr.heap.size y := by
              have h1 : W0.heap[wr.heap.size]? = some (.cells #[.int .i64 y.f0, .int .i64 y.f1, .int .i64 y.f2, .int .i64 y.f3, .int .i64 y.f4, .int .i64 y.f5] 37 (0, 0)) := by rw [← hW0]; exact (block_alloc_lt (by rw [size_alloc]; omega)).trans (block_new _ _)
              exact (hb1.block _ (lt_of_some h1)).trans h1
            have hn : BoxN w1 (wr.heap.size + 1) y := by
              have h1 : W0.heap[wr.heap.size + 1]? = some (.cells #[.int .i64 y.f0, .int .i64 y.f1, .int .i64 y.f2, .int .i64 y.f3] 46 (0, 0)) := by rw [← hW0, ← size_alloc]; exact block_new _ _
              exact (hb1.block _ (lt_of_some h1)).trans h1
            have hm1 : MapIs encName Value.bool w1 b _ := HM1.out.block (by
              have h0 := HM1.out.lt
              rw [hb1.block b (by rw [← hW0, size_alloc, size_alloc]; omega), ← hW0, block_alloc_lt (by rw [size_alloc]; omega), block_alloc_lt h0])
            have hm2 : MapIs encInt encEntry w1 (b + 1) _ := HM2.out.block (by
              have h0 := HM2.out.lt
              rw [hb1.block (b + 1) (by rw [← hW0, size_alloc, size_alloc]; omega), ← hW0, block_alloc_lt (by rw [size_alloc]; omega), block_alloc_lt h0])
            have hbel : Below w.heap.size w w1 := below_then (by rw [← hW0]; exact below_alloc (below_alloc HB.out _) _) (by rw [← hW0]; exact (below_alloc (below_alloc HB.out _) _).size) hb1
            have HWX : Aside0 (wrap64 (x + 1) = x + 1) := ⟨by have := HL.out; have := HX2.out; unfold wrap64; omega⟩
            have HWS := HB.out.size
            obtain ⟨y0, y1, y2, y3, y4, y5⟩ := hx.cells
            obtain ⟨n0, n1, n2, n3⟩ := hn.cells
            have ya0 := fun o : Obj => (hx.alloc o).cells.1
            have ya1 := fun o : Obj => (hx.alloc o).cells.2.1
            have ya2 := fun o : Obj => (hx.alloc o).cells.2.2.1
            have ya3 := fun o : Obj => (hx.alloc o).cells.2.2.2.1
            have ya4 := fun o : Obj => (hx.alloc o).cells.2.2.2.2.1
            have ya5 := fun o : Obj => (hx.alloc o).cells.2.2.2.2.2
            have na0 := fun o : Obj => (hn.alloc o).cells.1
            have na1 := fun o : Obj => (hn.alloc o).cells.2.1
            have na2 := fun o : Obj => (hn.alloc o).cells.2.2.1
            have na3 := fun o : Obj => (hn.alloc o).cells.2.2.2
            have hb0 : b ≠ wr.heap.size := by have := HM1.out.lt; omega
            have hb2 : b + 1 ≠ wr.heap.size := by have := HM2.out.lt; omega
            clear hx0 hx1 hx2 hx3 hx4 hx5 hb1 hW0
            by_cases m : y.f0 = 1 ∨ y.f0 = 2
            · rw [decide_eq_true m]
              by_cases hs' : seenIn (l0.take x.toNat).reverse (nameOf y) = true
              · have hs : seenIn (l0.take x.toNat).reverse (y.f0, y.f1, y.f2, y.f3) = true := hs'
                have HN : Aside0 (chk l0 = 10) := ⟨by have h := HST.out; rw [if_pos ⟨m, hs'⟩] at h; rw [HZ.out, h]⟩
                clear m
                go_wp2_with (first | (at_lookup; refine gate_guard rfl ?_; refine wp_look1 _ rfl _ _ 43 rfl 46 4 key_name Tryd.underlying43 _ (zero4 _) b _ rfl hm1 (y.f0, y.f1, y.f2, y.f3) rfl (.bool true) (by simp [hs]) ?_) | go_in)
                go_ret
                exact ⟨by rw [HN.out]; rfl, hbel⟩
              · have hs : seenIn (l0.take x.toNat).reverse (y.f0, y.f1, y.f2, y.f3) = false := Bool.eq_false_iff.2 hs'
                cases hlast : lastAt (l0.take x.toNat).reverse y.f1 with
                | none =>
                  have HN : Aside0 (chkFrom (l0.take (x + 1).toNat).reverse (l0.drop (x + 1).toNat) = chkFrom [] l0) := ⟨by have h := HST.out; rw [if_neg (fun e => hs' e.2)] at h; simp only [hlast] at h; exact h.symm⟩
                  go_wp2_with (first | (at_lookup; refine gate_guard rfl ?_; refine wp_look1 _ rfl _ _ 43 rfl 46 4 key_name Tryd.underlying43 _ (zero4 _) b _ rfl hm1 (y.f0, y.f1, y.f2, y.f3) rfl (.bool false) (by simp [hs]) ?_) | (at_lookup; refine wp_look2 _ rfl _ _ 44 rfl 3 37 key_int Tryd.underlying44 _ (zero37 _) (b + 1) _ rfl hm2 y.f1 rfl (encEntry (⟨0, 0, 0, 0, 0, 0⟩ : S37)) (by simp [hlast]) false (by simp [hlast]) ?_; unfold encEntry) | (at_mapUpdate; refine wp_put _ rfl _ _ _ 43 rfl 46 4 key_name Tryd.underlying43 b _ rfl (hm1.block (block_alloc_lt hm1.lt)) (y.f0, y.f1, y.f2, y.f3) true rfl rfl ?_; intro w2 hp1 hg1; have hx2 : Box w2 wr.heap.size y := (hg1.block _ (by rw [size_alloc]; have := lt_of_some hx; omega) (by intro e; injection e with e; omega)).trans ((block_alloc_lt (lt_of_some hx)).trans hx); have hm22 := hm2.block ((hg1.block (b + 1) (by rw [size_alloc]; have := hm2.lt; omega) (by intro e; injection e with e; omega)).trans (block_alloc_lt hm2.lt)); obtain ⟨z0, z1, z2, z3, z4, z5⟩ := hx2.cells) | (at_mapUpdate; refine wp_put _ rfl _ _ _ 44 rfl 3 37 key_int Tryd.underlying44 (b + 1) _ rfl hm22 y.f1 y rfl rfl ?_; intro w3 hp2 hg2) | go_in)
                  go_round
                  case rel =>
                    refine ⟨x + 1, by rw [HWX.out], ⟨by omega, by have := HX2.out; omega⟩, HN, ⟨?_⟩, ⟨?_⟩, ⟨?_⟩⟩
                    · have hbl : w.heap.size ≤ b := HS.out
                      have h2 : Below w.heap.size w w2 := Below.grown (below_alloc hbel _) hg1 (below_alloc hbel _).size (fun k hk => by injection hk with hk; omega)
                      exact h2.grown hg2 h2.size (fun k hk => by injection hk with hk; omega)
                    · exact (hp1.block (hg2.block b hp1.lt (by intro e; injection e with e; omega))).congr (fun k => by rw [pre_step l0 x HX.out.1 HX2.out, hy]; exact step_seen _ y k)
                    · exact hp2.congr (fun k => by rw [pre_step l0 x HX.out.1 HX2.out, hy]; exact step_last _ y k)
                  case measure => have := HX2.out; have := HX.out; simp only [intOf, HWX.out]; omega

                | some v =>
                  by_cases c5 : v.f0 = 3
                  · have e5 : (v.f0 != 3) = false := bne_eq_false_iff_eq.mpr c5
                    have HN : Aside0 (chkFrom (l0.take (x + 1).toNat).reverse (l0.drop (x + 1).toNat) = chkFrom [] l0) := ⟨by have h := HST.out; rw [if_neg (fun e => hs' e.2)] at h; simp only [hlast] at h; rw [if_neg (fun e => e.1 c5)] at h; exact h.symm⟩
                    go_wp2_with (first | (at_lookup; refine gate_guard rfl ?_; refine wp_look1 _ rfl _ _ 43 rfl 46 4 key_name Tryd.underlying43 _ (zero4 _) b _ rfl hm1 (y.f0, y.f1, y.f2, y.f3) rfl (.bool false) (by simp [hs]) ?_) | (at_lookup; refine wp_look2 _ rfl _ _ 44 rfl 3 37 key_int Tryd.underlying44 _ (zero37 _) (b + 1) _ rfl hm2 y.f1 rfl (encEntry v) (by simp [hlast]) true (by simp [hlast]) ?_; unfold encEntry) | (at_mapUpdate; refine wp_put _ rfl _ _ _ 43 rfl 46 4 key_name Tryd.underlying43 b _ rfl (hm1.block (block_alloc_lt hm1.lt)) (y.f0, y.f1, y.f2, y.f3) true rfl rfl ?_; intro w2 hp1 hg1; have hx2 : Box w2 wr.heap.size y := (hg1.block _ (by rw [size_alloc]; have := lt_of_some hx; omega) (by intro e; injection e with e; omega)).trans ((block_alloc_lt (lt_of_some hx)).trans hx); have hm22 := hm2.block ((hg1.block (b + 1) (by rw [size_alloc]; have := hm2.lt; omega) (by intro e; injection e with e; omega)).trans (block_alloc_lt hm2.lt)); obtain ⟨z0, z1, z2, z3, z4, z5⟩ := hx2.cells) | (at_mapUpdate; refine wp_put _ rfl _ _ _ 44 rfl 3 37 key_int Tryd.underlying44 (b + 1) _ rfl hm22 y.f1 y rfl rfl ?_; intro w3 hp2 hg2) | go_in)
                    go_round
                    case rel =>
                      refine ⟨x + 1, by rw [HWX.out], ⟨by omega, by have := HX2.out; omega⟩, HN, ⟨?_⟩, ⟨?_⟩, ⟨?_⟩⟩
                      · have hbl : w.heap.size ≤ b := HS.out
                        have h2 : Below w.heap.size w w2 := Below.grown (below_alloc hbel _) hg1 (below_alloc hbel _).size (fun k hk => by injection hk with hk; omega)
                        exact h2.grown hg2 h2.size (fun k hk => by injection hk with hk; omega)
                      · exact (hp1.block (hg2.block b hp1.lt (by intro e; injection e with e; omega))).congr (fun k => by rw [pre_step l0 x HX.out.1 HX2.out, hy]; exact step_seen _ y k)
                      · exact hp2.congr (fun k => by rw [pre_step l0 x HX.out.1 HX2.out, hy]; exact step_last _ y k)
                    case measure => have := HX2.out; have := HX.out; simp only [intOf, HWX.out]; omega

                  · have e5 : (v.f0 != 3) = true := bne_iff_ne.mpr c5
                    by_cases c6 : y.f4 < v.f4
                    · have e6 : decide (y.f4 < v.f4) = true := decide_eq_true c6
                      have HN : Aside0 (chk l0 = 12) := ⟨by have h := HST.out; rw [if_neg (fun e => hs' e.2)] at h; simp only [hlast] at h; rw [if_pos ⟨c5, c6⟩] at h; rw [HZ.out, h]⟩
                      go_wp2_with (first | (at_lookup; refine gate_guard rfl ?_; refine wp_look1 _ rfl _ _ 43 rfl 46 4 key_name Tryd.underlying43 _ (zero4 _) b _ rfl hm1 (y.f0, y.f1, y.f2, y.f3) rfl (.bool false) (by simp [hs]) ?_) | (at_lookup; refine wp_look2 _ rfl _ _ 44 rfl 3 37 key_int Tryd.underlying44 _ (zero37 _) (b + 1) _ rfl hm2 y.f1 rfl (encEntry v) (by simp [hlast]) true (by simp [hlast]) ?_; unfold encEntry) | go_in)
                      go_ret
                      exact ⟨by rw [HN.out]; rfl, below_alloc hbel _⟩
                    · have e6 : decide (y.f4 < v.f4) = false := decide_eq_false c6
                      have HN : Aside0 (chkFrom (l0.take (x + 1).toNat).reverse (l0.drop (x + 1).toNat) = chkFrom [] l0) := ⟨by have h := HST.out; rw [if_neg (fun e => hs' e.2)] at h; simp only [hlast] at h; rw [if_neg (fun e => c6 e.2)] at h; exact h.symm⟩
                      go_wp2_with (first | (at_lookup; refine gate_guard rfl ?_; refine wp_look1 _ rfl _ _ 43 rfl 46 4 key_name Tryd.underlying43 _ (zero4 _) b _ rfl hm1 (y.f0, y.f1, y.f2, y.f3) rfl (.bool false) (by simp [hs]) ?_) | (at_lookup; refine wp_look2 _ rfl _ _ 44 rfl 3 37 key_int Tryd.underlying44 _ (zero37 _) (b + 1) _ rfl hm2 y.f1 rfl (encEntry v) (by simp [hlast]) true (by simp [hlast]) ?_; unfold encEntry) | (at_mapUpdate; refine wp_put _ rfl _ _ _ 43 rfl 46 4 key_name Tryd.underlying43 b _ rfl (hm1.block (block_alloc_lt hm1.lt)) (y.f0, y.f1, y.f2, y.f3) true rfl rfl ?_; intro w2 hp1 hg1; have hx2 : Box w2 wr.heap.size y := (hg1.block _ (by rw [size_alloc]; have := lt_of_some hx; omega) (by intro e; injection e with e; omega)).trans ((block_alloc_lt (lt_of_some hx)).trans hx); have hm22 := hm2.block ((hg1.block (b + 1) (by rw [size_alloc]; have := hm2.lt; omega) (by intro e; injection e with e; omega)).trans (block_alloc_lt hm2.lt)); obtain ⟨z0, z1, z2, z3, z4, z5⟩ := hx2.cells) | (at_mapUpdate; refine wp_put _ rfl _ _ _ 44 rfl 3 37 key_int Tryd.underlying44 (b + 1) _ rfl hm22 y.f1 y rfl rfl ?_; intro w3 hp2 hg2) | go_in)
                      go_round
                      case rel =>
                        refine ⟨x + 1, by rw [HWX.out], ⟨by omega, by have := HX2.out; omega⟩, HN, ⟨?_⟩, ⟨?_⟩, ⟨?_⟩⟩
                        · have hbl : w.heap.size ≤ b := HS.out
                          have h2 : Below w.heap.size w w2 := Below.grown (below_alloc hbel _) hg1 (below_alloc hbel _).size (fun k hk => by injection hk with hk; omega)
                          exact h2.grown hg2 h2.size (fun k hk => by injection hk with hk; omega)
                        · exact (hp1.block (hg2.block b hp1.lt (by intro e; injection e with e; omega))).congr (fun k => by rw [pre_step l0 x HX.out.1 HX2.out, hy]; exact step_seen _ y k)
                        · exact hp2.congr (fun k => by rw [pre_step l0 x HX.out.1 HX2.out, hy]; exact step_last _ y k)
                      case measure => have := HX2.out; have := HX.out; simp only [intOf, HWX.out]; omega

            · rw [decide_eq_false m]
              cases hlast : lastAt (l0.take x.toNat).reverse y.f1 with
              | none =>
                have HN : Aside0 (chkFrom (l0.take (x + 1).toNat).reverse (l0.drop (x + 1).toNat) = chkFrom [] l0) := ⟨by have h := HST.out; rw [if_neg (fun e => m e.1)] at h; simp only [hlast] at h; exact h.symm⟩
                go_wp2_with (first | (at_lookup; refine wp_look2 _ rfl _ _ 44 rfl 3 37 key_int Tryd.underlying44 _ (zero37 _) (b + 1) _ rfl hm2 y.f1 rfl (encEntry (⟨0, 0, 0, 0, 0, 0⟩ : S37)) (by simp [hlast]) false (by simp [hlast]) ?_; unfold encEntry) | (at_mapUpdate; refine wp_put _ rfl _ _ _ 43 rfl 46 4 key_name Tryd.underlying43 b _ rfl (hm1.block (block_alloc_lt hm1.lt)) (y.f0, y.f1, y.f2, y.f3) true rfl rfl ?_; intro w2 hp1 hg1; have hx2 : Box w2 wr.heap.size y := (hg1.block _ (by rw [size_alloc]; have := lt_of_some hx; omega) (by intro e; injection e with e; omega)).trans ((block_alloc_lt (lt_of_some hx)).trans hx); have hm22 := hm2.block ((hg1.block (b + 1) (by rw [size_alloc]; have := hm2.lt; omega) (by intro e; injection e with e; omega)).trans (block_alloc_lt hm2.lt)); obtain ⟨z0, z1, z2, z3, z4, z5⟩ := hx2.cells) | (at_mapUpdate; refine wp_put _ rfl _ _ _ 44 rfl 3 37 key_int Tryd.underlying44 (b + 1) _ rfl hm22 y.f1 y rfl rfl ?_; intro w3 hp2 hg2) | go_in)
                go_round
                case rel =>
                  refine ⟨x + 1, by rw [HWX.out], ⟨by omega, by have := HX2.out; omega⟩, HN, ⟨?_⟩, ⟨?_⟩, ⟨?_⟩⟩
                  · have hbl : w.heap.size ≤ b := HS.out
                    have h2 : Below w.heap.size w w2 := Below.grown (below_alloc hbel _) hg1 (below_alloc hbel _).size (fun k hk => by injection hk with hk; omega)
                    exact h2.grown hg2 h2.size (fun k hk => by injection hk with hk; omega)
                  · exact (hp1.block (hg2.block b hp1.lt (by intro e; injection e with e; omega))).congr (fun k => by rw [pre_step l0 x HX.out.1 HX2.out, hy]; exact step_seen _ y k)
                  · exact hp2.congr (fun k => by rw [pre_step l0 x HX.out.1 HX2.out, hy]; exact step_last _ y k)
                case measure => have := HX2.out; have := HX.out; simp only [intOf, HWX.out]; omega

              | some v =>
                by_cases c5 : v.f0 = 3
                · have e5 : (v.f0 != 3) = false := bne_eq_false_iff_eq.mpr c5
                  have HN : Aside0 (chkFrom (l0.take (x + 1).toNat).reverse (l0.drop (x + 1).toNat) = chkFrom [] l0) := ⟨by have h := HST.out; rw [if_neg (fun e => m e.1)] at h; simp only [hlast] at h; rw [if_neg (fun e => e.1 c5)] at h; exact h.symm⟩
                  go_wp2_with (first | (at_lookup; refine wp_look2 _ rfl _ _ 44 rfl 3 37 key_int Tryd.underlying44 _ (zero37 _) (b + 1) _ rfl hm2 y.f1 rfl (encEntry v) (by simp [hlast]) true (by simp [hlast]) ?_; unfold encEntry) | (at_mapUpdate; refine wp_put _ rfl _ _ _ 43 rfl 46 4 key_name Tryd.underlying43 b _ rfl (hm1.block (block_alloc_lt hm1.lt)) (y.f0, y.f1, y.f2, y.f3) true rfl rfl ?_; intro w2 hp1 hg1; have hx2 : Box w2 wr.heap.size y := (hg1.block _ (by rw [size_alloc]; have := lt_of_some hx; omega) (by intro e; injection e with e; omega)).trans ((block_alloc_lt (lt_of_some hx)).trans hx); have hm22 := hm2.block ((hg1.block (b + 1) (by rw [size_alloc]; have := hm2.lt; omega) (by intro e; injection e with e; omega)).trans (block_alloc_lt hm2.lt)); obtain ⟨z0, z1, z2, z3, z4, z5⟩ := hx2.cells) | (at_mapUpdate; refine wp_put _ rfl _ _ _ 44 rfl 3 37 key_int Tryd.underlying44 (b + 1) _ rfl hm22 y.f1 y rfl rfl ?_; intro w3 hp2 hg2) | go_in)
                  go_round
                  case rel =>
                    refine ⟨x + 1, by rw [HWX.out], ⟨by omega, by have := HX2.out; omega⟩, HN, ⟨?_⟩, ⟨?_⟩, ⟨?_⟩⟩
                    · have hbl : w.heap.size ≤ b := HS.out
                      have h2 : Below w.heap.size w w2 := Below.grown (below_alloc hbel _) hg1 (below_alloc hbel _).size (fun k hk => by injection hk with hk; omega)
                      exact h2.grown hg2 h2.size (fun k hk => by injection hk with hk; omega)
                    · exact (hp1.block (hg2.block b hp1.lt (by intro e; injection e with e; omega))).congr (fun k => by rw [pre_step l0 x HX.out.1 HX2.out, hy]; exact step_seen _ y k)
                    · exact hp2.congr (fun k => by rw [pre_step l0 x HX.out.1 HX2.out, hy]; exact step_last _ y k)
                  case measure => have := HX2.out; have := HX.out; simp only [intOf, HWX.out]; omega

                · have e5 : (v.f0 != 3) = true := bne_iff_ne.mpr c5
                  by_cases c6 : y.f4 < v.f4
                  · have e6 : decide (y.f4 < v.f4) = true := decide_eq_true c6
                    have HN : Aside0 (chk l0 = 12) := ⟨by have h := HST.out; rw [if_neg (fun e => m e.1)] at h; simp only [hlast] at h; rw [if_pos ⟨c5, c6⟩] at h; rw [HZ.out, h]⟩
                    go_wp2_with (first | (at_lookup; refine wp_look2 _ rfl _ _ 44 rfl 3 37 key_int Tryd.underlying44 _ (zero37 _) (b + 1) _ rfl hm2 y.f1 rfl (encEntry v) (by simp [hlast]) true (by simp [hlast]) ?_; unfold encEntry) | go_in)
                    go_ret
                    exact ⟨by rw [HN.out]; rfl, below_alloc hbel _⟩
                  · have e6 : decide (y.f4 < v.f4) = false := decide_eq_false c6
                    have HN : Aside0 (chkFrom (l0.take (x + 1).toNat).reverse (l0.drop (x + 1).toNat) = chkFrom [] l0) := ⟨by have h := HST.out; rw [if_neg (fun e => m e.1)] at h; simp only [hlast] at h; rw [if_neg (fun e => c6 e.2)] at h; exact h.symm⟩
                    go_wp2_with (first | (at_lookup; refine wp_look2 _ rfl _ _ 44 rfl 3 37 key_int Tryd.underlying44 _ (zero37 _) (b + 1) _ rfl hm2 y.f1 rfl (encEntry v) (by simp [hlast]) true (by simp [hlast]) ?_; unfold encEntry) | (at_mapUpdate; refine wp_put _ rfl _ _ _ 43 rfl 46 4 key_name Tryd.underlying43 b _ rfl (hm1.block (block_alloc_lt hm1.lt)) (y.f0, y.f1, y.f2, y.f3) true rfl rfl ?_; intro w2 hp1 hg1; have hx2 : Box w2 wr.heap.size y := (hg1.block _ (by rw [size_alloc]; have := lt_of_some hx; omega) (by intro e; injection e with e; omega)).trans ((block_alloc_lt (lt_of_some hx)).trans hx); have hm22 := hm2.block ((hg1.block (b + 1) (by rw [size_alloc]; have := hm2.lt; omega) (by intro e; injection e with e; omega)).trans (block_alloc_lt hm2.lt)); obtain ⟨z0, z1, z2, z3, z4, z5⟩ := hx2.cells) | (at_mapUpdate; refine wp_put _ rfl _ _ _ 44 rfl 3 37 key_int Tryd.underlying44 (b + 1) _ rfl hm22 y.f1 y rfl rfl ?_; intro w3 hp2 hg2) | go_in)
                    go_round
                    case rel =>
                      refine ⟨x + 1, by rw [HWX.out], ⟨by omega, by have := HX2.out; omega⟩, HN, ⟨?_⟩, ⟨?_⟩, ⟨?_⟩⟩
                      · have hbl : w.heap.size ≤ b := HS.out
                        have h2 : Below w.heap.size w w2 := Below.grown (below_alloc hbel _) hg1 (below_alloc hbel _).size (fun k hk => by injection hk with hk; omega)
                        exact h2.grown hg2 h2.size (fun k hk => by injection hk with hk; omega)
                      · exact (hp1.block (hg2.block b hp1.lt (by intro e; injection e with e; omega))).congr (fun k => by rw [pre_step l0 x HX.out.1 HX2.out, hy]; exact step_seen _ y k)
                      · exact hp2.congr (fun k => by rw [pre_step l0 x HX.out.1 HX2.out, hy]; exact step_last _ y k)
                    case measure => have := HX2.out; have := HX.out; simp only [intOf, HWX.out]; omega
          · have c3b0 : decide (x < (l0.length : Int)) = false := decide_eq_false c3
            have HN : Aside0 (chk l0 = 0) := ⟨by
              have h := HE.out
              rw [List.drop_eq_nil_of_le (by omega), chkFrom] at h
              rw [HZ.out, ← h]⟩
            go_wp2
            go_ret
            exact ⟨by rw [HN.out]; rfl, HB.out⟩

theorem logbook_Check.calls (A0 : Option Addr) (c0 : Nat) (l0 : List S37) (r : Int) (w : World) (hr0 : Kd.C k37 w A0 l0.length l0) (hc0 : l0.length ≤ c0) (h : logbook_Check.f l0 = some r) :
    Calls Tryd.prog 10 #[.slice A0 l0.length c0] w fun e w' => e = .returned (.int .i64 r) ∧ Below w.heap.size w w' := by
  obtain rfl := Option.some.inj h
  exact check_calls A0 c0 l0 w hr0 hc0
end Go.Proofs.YtjhifhnjkpoofaaDoor.M
