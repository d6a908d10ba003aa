/-
  logbook.Text by hand: a strings.Builder, an inner loop over an entry's numbers.
-/
import Derived.Test.YtjhifhnjkpoofaaDoorExtS
namespace Go.Proofs.YtjhifhnjkpoofaaDoor.M
open Go.RowKit Go.Proofs.YtjhifhnjkpoofaaDoorG Go.Proofs.YtjhifhnjkpoofaaDoorW.PrintWords Go.Proofs.YtjhifhnjkpoofaaDoorW.PrintLast Go.Proofs.YtjhifhnjkpoofaaDoorW.PrintMore
set_option linter.unusedVariables false
set_option linter.unusedSimpArgs false
def text19T : Bool × List (List Nat × List Nat) := (true, [([], []), ([], []), ([1], [1]), ([2], [2]), ([0, 3], [0, 3]), ([4], [4]), ([5, 0], [5])])
def text19B : List Nat := [0, 0, 2, 6, 15, 31, 63]
theorem text19t : rtab .any (opsOf Tryd.f19 7) = text19T := by kernel_rfl
theorem text19b : waitsOk text19T.2 text19B = true := by kernel_rfl
set_option maxHeartbeats 3200000 in
set_option maxRecDepth 100000 in
theorem text_calls (A0 : Option Addr) (c0 : Nat) (l0 : List S37) (w : World) (hG : Glob w) (hr0 : Kd.C k37 w A0 l0.length l0) (hc0 : l0.length ≤ c0) (s : ByteArray) (n : Int)
    (hres : (if chk l0 = 0 then ((⟨(l0.flatMap lineOf).toArray⟩ : ByteArray), (0 : Int)) else (⟨#[]⟩, 2)) = (s, n)) :
    Calls Tryd.prog 19 #[.slice A0 l0.length c0] w fun e w' => e = .returned (.tuple #[.string s, .int .i64 n]) ∧ Below w.heap.size w w' := by
  have hu37 := Tryd.underlying37
  have HR0 := Aside0.mk hr0
  have HC0 := Aside0.mk hc0
  have HG := Aside0.mk hG
  clear hr0 hc0 hG
  have HB := Aside0.mk (Below.refl w.heap.size w)
  have HRS := Aside0.mk hres
  clear hres
  go_enter Tryd.func19, Tryd.ntmps19
  go_wp2_with fail
  refine (check_calls _ _ l0 _ HR0.out HC0.out).mono ?_
  rintro e w1 ⟨rfl, hb1⟩
  have HB1 := Aside0.mk hb1
  clear hb1 HB
  by_cases c2 : chk l0 = 0
  · have c2b : (chk l0 != 0) = false := bne_eq_false_iff_eq.mpr c2
    have HL := Aside0.mk (chk_ok c2)
    have HRZ : Aside0 (s = ⟨(l0.flatMap lineOf).toArray⟩ ∧ n = 0) := ⟨by
      have h := HRS.out
      rw [if_pos c2] at h
      injection h with h1 h2
      exact ⟨h1.symm, h2.symm⟩⟩
    clear c2 HRS
    have HBD : Aside0 (Lib.IsBuilderF 58 5 w.heap.size w1.heap.size (Lib.byteCells []) (w1.alloc (.cells #[.pointer none, .slice none 0 0] 58))) := ⟨Lib.IsBuilderF.of (by
      rcases Lib.fresh_isBuilder 58 5 w1 with h | h
      · exact .inl ⟨HB1.out.size, h.2.imp (fun v h => ⟨h.1, own_weaken h.2.1 HB1.out.size, h.2.2⟩)⟩
      · exact .inr ⟨HB1.out.size, h.2.imp (fun v h => ⟨h.1, own_weaken h.2.1 HB1.out.size, h.2.2⟩)⟩)⟩
    have HB2 := Aside0.mk (below_alloc HB1.out (.cells #[.pointer none, .slice none 0 0] 58))
    have HS := Aside0.mk HB1.out.size
    go_wp2
    generalize hW : w1.alloc (.cells #[.pointer none, .slice none 0 0] 58) = W at *
    generalize w1.heap.size = b at *
    clear hW HB1
    go_loopw [14] (fun i wr => ∃ x : Int, i = .int .i64 x ∧ Aside0 (0 ≤ x ∧ x ≤ l0.length) ∧ Aside0 (Below w.heap.size w wr) ∧ Aside0 (Lib.IsBuilderF 58 5 w.heap.size b (Lib.byteCells ((l0.take x.toNat).flatMap lineOf)) wr)) (fun i _ => l0.length - (intOf i).toNat)
    case atStart => exact ⟨0, rfl, ⟨by omega, by omega⟩, HB2, HBD⟩
    case round =>
      clear HBD HB2
      obtain ⟨x, rfl, HX, HB, HD⟩ := hrel
      by_cases c3 : x < (l0.length : Int)
      · have x0 := HX.out.1
        have c3b0 : decide (x < (l0.length : Int)) = true := decide_eq_true c3
        have p0 : decide (0 ≤ x) = true := decide_eq_true x0
        have HX2 := Aside0.mk c3
        have HWX : Aside0 (wrap64 (x + 1) = x + 1) := ⟨by have := HL.out.1; have := HX2.out; unfold wrap64; omega⟩
        obtain ⟨ad, ead, hx0, hx1, hx2, hx3, hx4, hx5⟩ := at_T37 HR0.out x x0 c3
        cases ead
        replace hx0 := (HB.out.cell (World.block_lt_of_cell? w _ hx0)).trans hx0
        replace hx1 := (HB.out.cell (World.block_lt_of_cell? w _ hx1)).trans hx1
        replace hx2 := (HB.out.cell (World.block_lt_of_cell? w _ hx2)).trans hx2
        replace hx3 := (HB.out.cell (World.block_lt_of_cell? w _ hx3)).trans hx3
        replace hx4 := (HB.out.cell (World.block_lt_of_cell? w _ hx4)).trans hx4
        replace hx5 := (HB.out.cell (World.block_lt_of_cell? w _ hx5)).trans hx5
        have p := eq_true x0
        have q := eq_true c3
        have HST := Aside0.mk (lines_step l0 x x0 c3)
        have HYE := Aside0.mk (HL.out.2 _ (mem_rd x0 c3))
        have HAL : Aside0 (((l0.take x.toNat).flatMap lineOf).length ≤ 512 * 93) := ⟨by
          have h := lines_len (l0.take x.toNat) (fun y hy => HL.out.2 y (List.mem_of_mem_take hy))
          rw [List.length_take] at h
          have := HL.out.1
          omega⟩
        generalize rd_T37 l0 x = y at *
        generalize hacc : (l0.take x.toNat).flatMap lineOf = acc at *
        go_wp2
        have hyr := err_ok HYE.out
        have HWK : Aside0 (wrap64 (y.f0 - 1) = y.f0 - 1) := ⟨by have := hyr.1; unfold wrap64; omega⟩
        have hbx : Box ((wr.alloc (.cells #[.int .i64 y.f0, .int .i64 y.f1, .int .i64 y.f2, .int .i64 y.f3, .int .i64 y.f4, .int .i64 y.f5] 37)).drew) wr.heap.size y := block_new _ _
        have HBX := Aside0.mk hbx
        have HBY := Aside0.mk (below_drew (below_alloc HB.out (.cells #[.int .i64 y.f0, .int .i64 y.f1, .int .i64 y.f2, .int .i64 y.f3, .int .i64 y.f4, .int .i64 y.f5] 37)))
        have HDY := Aside0.mk (bd_below HD.out (below_drew (below_alloc (Below.refl _ _) (.cells #[.int .i64 y.f0, .int .i64 y.f1, .int .i64 y.f2, .int .i64 y.f3, .int .i64 y.f4, .int .i64 y.f5] 37))))
        have hkk : y.f0 - 1 < 4 ∧ 0 ≤ y.f0 - 1 := by have := hyr.1; omega
        have HBL : Aside0 (wr.heap.size ≠ b) := ⟨by
          have h := HD.out
          rcases h with h | h
          · have := lt_of_some h.2.choose_spec.1; omega
          · have := lt_of_some h.2.choose_spec.1; omega⟩
        clear hbx hx0 hx1 hx2 hx3 hx4 hx5 HB HD hyr
        refine start_ (n := 7) (S := fun w' => w'.cell? ⟨wr.heap.size, 0, none⟩ = some (.int .i64 y.f0)) (ds := []) #[false, false, false, false, false, false, false] (by kernel_rfl) rfl rfl (HBX.out.cells.1) (fun hHeld => ?_)
        refine with_tabW text19t text19b (fun HT_ HW_ => ?_)
        have HNE : Aside0 (wr.heap.size ≠ b) := ⟨HBL.out⟩
        generalize (wr.alloc (.cells #[.int .i64 y.f0, .int .i64 y.f1, .int .i64 y.f2, .int .i64 y.f3, .int .i64 y.f4, .int .i64 y.f5] 37)).drew = W2 at *
        generalize wr.heap.size = g at *
        refine pure_ (i := 1) (N := some 19) (v := ?_) (a' := ?_) #[false, true, false, false, false, false, false] rfl rfl (any_of HT_.out (by kernel_rfl)) (fun _ _ _ h => h) (Or.inl ⟨by rfl, ?_⟩) ?_ ?_
        rotate_left
        · intro w'
          go_simp
          with_reducible rfl
        rotate_left
        · simp only [Act.put, List.setIfInBounds_toArray, List.set_cons_zero, List.set_cons_succ, i64_w, i32_w]
          rfl
        refine take_ (i := 2) (N := some 20) (v := ?_) (a' := ?_) #[false, true, true, false, false, false, false] rfl rfl (take_ofW HT_.out HW_.out (by kernel_rfl)) (fun _ _ _ h => h) (Or.inl ⟨by rfl, ?_⟩) hHeld ?_ ?_
        rotate_left
        · rintro w' s0
          go_simp
          with_reducible rfl
        rotate_left
        · simp only [Act.put, List.setIfInBounds_toArray, List.set_cons_zero, List.set_cons_succ, i64_w, i32_w]
          rfl
        refine pure_ (i := 3) (N := some 21) (v := ?_) (a' := ?_) #[false, true, true, true, false, false, false] rfl rfl (any_of HT_.out (by kernel_rfl)) (fun _ _ _ h => h) (Or.inl ⟨by rfl, ?_⟩) ?_ ?_
        rotate_left
        · intro w'
          go_simp
          with_reducible rfl
        rotate_left
        · simp only [Act.put, List.setIfInBounds_toArray, List.set_cons_zero, List.set_cons_succ, i64_w, i32_w]
          rfl
        rw [HWK.out]
        generalize hkq : y.f0 - 1 = kk at hkk ⊢
        have HKQ := Aside0.mk hkq
        clear hkq
        refine one_ (i := 0) (N := some 18) #[true, true, true, true, false, false, false] rfl rfl (one_of HT_.out (by kernel_rfl)) (by decide) (fun K hK => ?_)
        refine goes_ Tryd.func31 (by kernel_rfl) rfl #[] (by rfl) rfl rfl (by simp) ?_
        refine (logbook_words.calls _ _ rfl).mono ?_
        rintro e w3 ⟨v0, rfl, ho, hb⟩
        refine ⟨_, rfl, ?_⟩
        have hbx3 : Box w3 g y := (hb.block _ (lt_of_some HBX.out)).trans HBX.out
        have HBX3 := Aside0.mk hbx3
        have HB3 := Aside0.mk (below_step HBY.out hb)
        have HD3 := Aside0.mk (bd_below HDY.out hb)
        have HO3 := Aside0.mk ho
        clear ho hb HBX HBY HDY
        refine hK.out _ _ hbx3.cells.1 (fun hHeld => ?_)
        clear hbx3
        clear hK K
        obtain ⟨A2, k2, hv⟩ := Kd.R_slice HO3.out
        subst hv
        obtain ⟨ad2, ea2, hs2⟩ := Kd.at_string (Kd.R_reads' HO3.out).2.2 kk hkk.2 (by simpa using hkk.1)
        cases ea2
        have HWD : rdOf ByteArray.empty [(⟨#[115, 101, 110, 100]⟩ : ByteArray), ⟨#[114, 101, 99, 118]⟩, ⟨#[115, 116, 101, 112]⟩, ⟨#[109, 97, 114, 107]⟩] kk = ⟨(wordOf y.f0).toArray⟩ := by
          have h1 : y.f0 = kk + 1 := by have := HKQ.out; omega
          have h2 : kk = 0 ∨ kk = 1 ∨ kk = 2 ∨ kk = 3 := by omega
          rw [h1]
          rcases h2 with h | h | h | h <;> subst h <;> rfl
        rw [HWD] at hs2
        clear HWD
        have HS2 := Aside0.mk hs2
        have q1 := eq_true hkk.1
        have q2 := eq_true hkk.2
        clear hs2
        refine norm_ (a' := ?_) ?_ ?_
        rotate_left
        · show Act.put _ (some 18) _ = _
          simp only [Act.put, List.setIfInBounds_toArray, List.set_cons_zero, List.set_cons_succ, i64_w, i32_w]
          rfl
        refine pure_ (i := 4) (N := some 22) (v := ?_) (a' := ?_) #[true, true, true, true, true, false, false] rfl rfl (any_of HT_.out (by kernel_rfl)) (fun _ _ _ h => h) (Or.inl ⟨by rfl, ?_⟩) ?_ ?_
        rotate_left
        · intro w'
          go_simp
          with_reducible rfl
        rotate_left
        · simp only [Act.put, List.setIfInBounds_toArray, List.set_cons_zero, List.set_cons_succ, i64_w, i32_w]
          rfl
        refine one_ (i := 5) (N := some 23) #[true, true, true, true, true, true, false] rfl rfl (one_of HT_.out (by kernel_rfl)) (by decide) (fun K hK => ?_)
        refine value_ (w1 := w3) (v := .string ⟨(wordOf y.f0).toArray⟩) rfl rfl ?_ ?_
        · have hs2 := HS2.out
          go_simp
        refine hK.out _ _ hHeld (fun hHeld => ?_)
        clear hK K
        refine norm_ (a' := ?_) ?_ ?_
        rotate_left
        · show Act.put _ (some 23) _ = _
          simp only [Act.put, List.setIfInBounds_toArray, List.set_cons_zero, List.set_cons_succ, i64_w, i32_w]
          rfl
        refine one_ (i := 6) (N := some 24) #[true, true, true, true, true, true, true] rfl rfl (one_of HT_.out (by kernel_rfl)) (by decide) (fun K hK => ?_)
        refine goes_ Tryd.func30 (by kernel_rfl) rfl #[.pointer (some ⟨b, 0, none⟩), .string ⟨(wordOf y.f0).toArray⟩] (by rfl) rfl rfl (by simp only [List.map_toArray, List.map_cons, List.map_nil]; rfl) ?_
        refine (Tryd.bd_write w.heap.size b _ _ _ HD3.out (by have h1 := HAL.out; have h2 := word_len y.f0; rw [cells_len]; show _ + (wordOf y.f0).toArray.size ≤ _; rw [List.size_toArray]; omega) HB3.out.size).mono ?_
        rintro e w4 ⟨rfl, hd, hb, hk⟩
        refine ⟨_, rfl, ?_⟩
        rw [cells_add] at hd
        have hbx4 : Box w4 g y := hk g _ HBX3.out (by have := HNE.out; exact fun e => this (Option.some.inj e)) (fun c fz e => by cases e)
        have HBX4 := Aside0.mk hbx4
        have HB4 := Aside0.mk (HB3.out.trans hb)
        have HD4 := Aside0.mk hd
        clear hd hb hk HB3 HD3 HBX3 HO3 HS2
        refine hK.out _ _ hbx4.cells.1 (fun hHeld => ?_)
        clear hK K
        refine norm_ (a' := ?_) ?_ ?_
        rotate_left
        · show Act.put _ (some 24) _ = _
          simp only [Act.put, List.setIfInBounds_toArray, List.set_cons_zero, List.set_cons_succ, i64_w, i32_w]
          rfl
        refine done_ (by kernel_rfl) ?_
        obtain ⟨e0, e1, e2, e3, e4, e5⟩ := hbx4.cells
        clear hbx4 hHeld HT_ HW_
        have hnu := nums_f y
        go_wp2_with fail
        refine (logbook_numbers.calls y.f0 y.f1 y.f2 y.f3 y.f4 y.f5 _ _ hnu).mono ?_
        rintro e w5 ⟨v1, rfl, ho, hb⟩
        have HB5 := Aside0.mk (below_step HB4.out hb)
        have HD5 := Aside0.mk (bd_below HD4.out hb)
        have HN5 := Aside0.mk (ints_apart (Kd.R_lower ho HB4.out.size) HD5.out)
        have HNL := Aside0.mk (nums_len y)
        have HNO := Aside0.mk (nums_ok HYE.out)
        have HLY := Aside0.mk (lineOf_eq y (err_ok HYE.out).1.1 (err_ok HYE.out).1.2)
        clear ho hb HB4 HD4 HBX4 hnu e0 e1 e2 e3 e4 e5 HYE
        generalize numsOf y = ns at *
        generalize hwd : wordOf y.f0 = wd at *
        have HWL : Aside0 (wd.length = 4) := ⟨by rw [← hwd]; exact word_len _⟩
        clear hwd
        obtain ⟨A5, k5, hv⟩ := Kd.R_slice HN5.out
        subst hv
        go_wp2
        go_loopw [28] (fun i wr => ∃ j : Int, i = .int .i64 j ∧ Aside0 (0 ≤ j ∧ j ≤ ns.length) ∧ Aside0 (Below w.heap.size w wr) ∧ Aside0 (Lib.IsBuilderF 58 5 w.heap.size b (Lib.byteCells (acc ++ wd ++ (ns.take j.toNat).flatMap numB)) wr) ∧ Aside0 (Kd.R (Kd.int .i64) 3 wr w.heap.size (fun k => k ≠ b) (.slice A5 ns.length k5) ns)) (fun i _ => ns.length - (intOf i).toNat)
        case atStart => exact ⟨0, rfl, ⟨by omega, by omega⟩, HB5, ⟨by simpa using HD5.out⟩, HN5⟩
        case round =>
          clear HB5 HD5 HN5
          obtain ⟨j, rfl, HJ, HB, HD, HN⟩ := hrel
          by_cases c5 : j < (ns.length : Int)
          · have j0 := HJ.out.1
            have c5b0 : decide (j < (ns.length : Int)) = true := decide_eq_true c5
            have p5 : decide (0 ≤ j) = true := decide_eq_true j0
            have HJ2 := Aside0.mk c5
            have HWJ : Aside0 (wrap64 (j + 1) = j + 1) := ⟨by have := HNL.out; have := HJ2.out; unfold wrap64; omega⟩
            obtain ⟨ad5, ea5, hn5⟩ := Kd.at_int (k := .i64) (Kd.R_reads' HN.out).2.2 j j0 c5
            cases ea5
            have HSJ := Aside0.mk (nums_step ns j j0 c5)
            have HNJ : Aside0 (-9223372036854775808 ≤ rd ns j ∧ rd ns j ≤ 9223372036854775807) := ⟨by
              have hl : j.toNat < ns.length := by omega
              have e : rd ns j = ns[j.toNat] := by simp [rd, List.getD, hl]
              rw [e]; exact HNO.out _ (List.getElem_mem hl)⟩
            have HTL : Aside0 (((ns.take j.toNat).flatMap numB).length ≤ 4 * 22) := ⟨by
              have h := numBs_len (ns.take j.toNat) (fun m hm => HNO.out m (List.mem_of_mem_take hm))
              rw [List.length_take] at h
              have := HNL.out
              omega⟩
            have pj := eq_true j0
            have qj := eq_true c5
            replace HSJ : Aside0 ((ns.take (j + 1).toNat).flatMap numB = (ns.take j.toNat).flatMap numB ++ numB (rd ns j)) := HSJ
            generalize rd ns j = m at *
            generalize (ns.take j.toNat).flatMap numB = done at *
            go_wp2_with fail
            refine (strconv_Itoa.calls m ⟨(Lib.itoa m).toArray⟩ _ (HG.out.below HB.out) (by unfold strconv_Itoa.f; rw [if_pos HNJ.out])).mono ?_
            rintro e w6 ⟨rfl, hb⟩
            have HB6 := Aside0.mk (below_step HB.out hb)
            have HD6 := Aside0.mk (bd_below HD.out hb)
            have HN6 := Aside0.mk (Kd.R_below HN.out hb)
            clear hb HB HD HN hn5
            have HIL := Aside0.mk (Lib.itoa_length_le m HNJ.out.1 HNJ.out.2)
            have hno : (9223372036854775807 < 1 + (Lib.itoa m).length) = False := eq_false (by have := HIL.out; omega)
            go_wp2_with fail
            have hcat : ((⟨#[32]⟩ : ByteArray) ++ ⟨(Lib.itoa m).toArray⟩) = ⟨(numB m).toArray⟩ := by
              apply ByteArray.ext
              simp [numB]
            rw [hcat]
            refine (Tryd.bd_write w.heap.size b _ (⟨(numB m).toArray⟩ : ByteArray) _ HD6.out (by have h1 := HAL.out; have h2 := HWL.out; have h3 := HTL.out; have h4 := HIL.out; rw [cells_len]; simp only [List.length_append]; show _ + (numB m).toArray.size ≤ _; rw [List.size_toArray]; simp only [numB, List.length_cons]; omega) HB6.out.size).mono ?_
            rintro e w7 ⟨rfl, hd, hb, hk⟩
            rw [cells_add] at hd
            have HB7 := Aside0.mk (HB6.out.trans hb)
            have HD7 := Aside0.mk hd
            have HN7 := Aside0.mk (ints_kept HN6.out hk)
            clear hd hb hk HB6 HD6 HN6 hcat
            go_wp2
            go_round
            case rel => exact ⟨j + 1, by rw [HWJ.out], ⟨by have := HJ.out; omega, by have := HJ2.out; omega⟩, HB7, ⟨by rw [HSJ.out, ← List.append_assoc]; exact HD7.out⟩, HN7⟩
            case measure => have := HJ2.out; have := HJ.out; simp only [intOf, HWJ.out]; omega
          · have c5b0 : decide (j < (ns.length : Int)) = false := decide_eq_false c5
            have HT : Aside0 ((ns.take j.toNat).flatMap numB = ns.flatMap numB) := ⟨by rw [List.take_of_length_le (by omega)]⟩
            rw [HT.out] at HD
            have HTL := Aside0.mk (numBs_len ns HNO.out)
            go_wp2_with fail
            refine (Tryd.bd_write w.heap.size b _ (⟨#[10]⟩ : ByteArray) _ HD.out (by have h1 := HAL.out; have h2 := HWL.out; have h3 := HTL.out; have h4 := HNL.out; rw [cells_len]; simp only [List.length_append]; show _ + 1 ≤ _; omega) HB.out.size).mono ?_
            rintro e w7 ⟨rfl, hd, hb, hk⟩
            have HB7 := Aside0.mk (HB.out.trans hb)
            have hd2 := (cells_add _ [10]) ▸ hd
            have HD7 := Aside0.mk hd2
            clear hd hd2 hb hk
            go_wp2
            go_round
            case rel => exact ⟨x + 1, by rw [HWX.out], ⟨by have := HX.out; omega, by have := HX2.out; omega⟩, HB7, ⟨by rw [HST.out, HLY.out]; simpa using HD7.out⟩⟩
            case measure => have := HX2.out; have := HX.out; simp only [intOf, HWX.out]; omega
      · have c3b0 : decide (x < (l0.length : Int)) = false := decide_eq_false c3
        have HN : Aside0 ((l0.take x.toNat).flatMap lineOf = l0.flatMap lineOf) := ⟨by rw [List.take_of_length_le (by omega)]⟩
        go_wp2_with fail
        refine (Tryd.Builder_String_any_k w.heap.size b _ _ HD.out HB.out.size).mono ?_
        rintro e w4 ⟨rfl, _, hb, _⟩
        have HB4 := Aside0.mk (HB.out.trans hb)
        obtain ⟨rfl, rfl⟩ := HRZ.out
        go_wp2
        go_ret2
        exact ⟨by rw [HN.out]; rfl, HB4.out⟩
  · have c2b : (chk l0 != 0) = true := bne_iff_ne.mpr c2
    have HRZ : Aside0 (s = ⟨#[]⟩ ∧ n = 2) := ⟨by
      have h := HRS.out
      rw [if_neg c2] at h
      injection h with h1 h2
      exact ⟨h1.symm, h2.symm⟩⟩
    clear c2 HRS
    obtain ⟨rfl, rfl⟩ := HRZ.out
    go_wp2
    go_ret2
    exact ⟨rfl, HB1.out⟩
theorem logbook_Text.calls (A0 : Option Addr) (c0 : Nat) (l0 : List S37) (r1 : ByteArray) (r2 : Int) (w : World) (hG : Glob w) (hr0 : Kd.C k37 w A0 l0.length l0) (hc0 : l0.length ≤ c0) (h : logbook_Text.f l0 = some (r1, r2)) :
    Calls Tryd.prog 19 #[.slice A0 l0.length c0] w fun e w' => e = .returned (.tuple #[.string r1, .int .i64 r2]) ∧ Below w.heap.size w w' :=
  text_calls A0 c0 l0 w hG hr0 hc0 r1 r2 (Option.some.inj h)
end Go.Proofs.YtjhifhnjkpoofaaDoor.M
