/-
-- tight (tight.py)
 leap.Text by hand: a strings.Builder.
-/
import Derived.Test.YtipbkcilpnlgnaaDoorExtS
import Derived.Test.YtipbkcilpnlgnaaDoorExtA
import Derived.Test.YtipbkcilpnlgnaaDoorM3
namespace Go.Proofs.YtipbkcilpnlgnaaDoor.M
open Go.RowKit Go.Proofs.YtipbkcilpnlgnaaDoorG Go.Proofs.YtipbkcilpnlgnaaDoorW.PA Go.Proofs.YtipbkcilpnlgnaaDoorW.PB Go.Proofs.YtipbkcilpnlgnaaDoorW.PC
open List renaming setIfInBounds_toArray → sA, set_cons_zero → sB, set_cons_succ → sC
set_option linter.unusedVariables false
set_option linter.unusedSimpArgs false
def text4T : Bool × List (List Nat × List Nat) := (true, [([], []), ([0], [0]), ([1], [1]), ([2], [2]), ([3], [3]), ([], []), ([5], [5]), ([6, 2], [6]), ([4, 7], [4, 7]), ([8], [8]), ([9, 7], [9])])
def text4B : List Nat := [0, 1, 3, 7, 15, 0, 32, 103, 255, 511, 1023]
theorem text4t : rtab .any (opsOf Tryd.f19 4) = text4T := by kernel_rfl
theorem text4b : waitsOk text4T.2 text4B = true := by kernel_rfl
def text8T : Bool × List (List Nat × List Nat) := (true, [([], []), ([0], [0]), ([1], [1]), ([2], [2]), ([], []), ([4], [4]), ([5, 2], [5]), ([3, 6], [3, 6]), ([7], [7]), ([8, 6], [8])])
def text8B : List Nat := [0, 1, 3, 7, 0, 16, 55, 127, 255, 511]
theorem text8t : rtab .any (opsOf Tryd.f19 8) = text8T := by kernel_rfl
theorem text8b : waitsOk text8T.2 text8B = true := by kernel_rfl
theorem block_new' (w : World) (o : Obj) : (w.alloc o).heap[w.heap.size]? = some o := heap_alloc_new w o
set_option maxHeartbeats 6400000 in
set_option maxRecDepth 100000 in
theorem text_calls (b e : Int) (A : Option Addr) (c : Nat) (l : List S44) (s : ByteArray) (w : World) (hG : Glob w) (hr : Kd.C k44 w A l.length l) (hc : l.length ≤ c) (hres : leap_Text.f b e l = some s) :
  Calls Tryd.prog 19 #[.agg #[.int .i64 b, .int .i64 e, .slice A l.length c]] w fun ee w' => ee = .returned (.string s) ∧ Below w.heap.size w w' := by
 have hu24 := Tryd.underlying24
 have hu44 := Tryd.underlying44
 have HG := Ad.mk hG
 have HR := Ad.mk hr
 have HC := Ad.mk hc
 unfold leap_Text.f at hres
 obtain ⟨er, hE, hres⟩ := Option.bind_eq_some_iff.1 hres
 have HE := Ad.mk hE
 have HRS := Ad.mk hres
 have HB := Ad.mk (Below.refl w.heap.size w)
 clear hG hr hc hE hres
 go_enter Tryd.func19, Tryd.ntmps19
 go_wp2_with fail
 refine (leap_Check.calls 1000 b e A c l er _ (Kd.C_alloc HR.out _) HC.out HE.out).mono ?_
 rintro ee w1 ⟨rfl, hb1⟩
 have HBX := Ad.mk ((hb1.block _ (by rw [World.size_alloc]; omega)).trans (block_new' w (.cells #[.int .i64 b, .int .i64 e, .slice A l.length c] 24)))
 have HB1 := Ad.mk (pbt (pba HB.out (.cells #[.int .i64 b, .int .i64 e, .slice A l.length c] 24)) hb1)
 clear hb1 HB
 by_cases c2 : er = 0
 ·subst c2
  have HOK := Ad.mk (check_ok 1000 b e l HE.out)
  have HRZ : Ad (s = ⟨(tableText b e l).toArray⟩) := ⟨by
   have h := HRS.out
   rw [if_pos rfl] at h
   exact (Option.some.inj h).symm⟩
  have HBD : Ad (Lib.IsBuilderF 70 5 w.heap.size w1.heap.size (Lib.byteCells []) (w1.alloc (.cells #[.pointer none, .slice none 0 0] 70))) := ⟨Lib.IsBuilderF.of (by
   rcases Lib.fresh_isBuilder 70 5 w1 with h | h
   ·exact .inl ⟨HB1.out.size, h.2.imp (fun v h => ⟨h.1, own_weaken h.2.1 HB1.out.size, h.2.2⟩)⟩
   ·exact .inr ⟨HB1.out.size, h.2.imp (fun v h => ⟨h.1, own_weaken h.2.1 HB1.out.size, h.2.2⟩)⟩)⟩
  have HB2 := Ad.mk (pb1 (pba HB1.out (.cells #[.pointer none, .slice none 0 0] 70)))
  have HBX2 := Ad.mk (bkd (bka HBX.out (.cells #[.pointer none, .slice none 0 0] 70)))
  have HD2 := Ad.mk (bd_below HBD.out (pb1 (Below.refl _ _)))
  have HGT : Ad (w.heap.size ≠ w1.heap.size) := ⟨fun h => by have := blk_lt HBX.out; omega⟩
  clear HBD HB1 HBX HRS HE
  go_wp2
  refine start_ (n := 11) (S := fun w' => w'.heap[w.heap.size]? = some (.cells #[.int .i64 b, .int .i64 e, .slice A l.length c] 24 (0, 0))) (ds := []) #[false, false, false, false, false, false, false, false, false, false, false] (by kernel_rfl) rfl rfl HBX2.out (fun hHeld => ?_)
  refine with_tabW text4t text4b (fun HT_ HW_ => ?_)
  generalize (w1.alloc (.cells #[.pointer none, .slice none 0 0] 70)).drew = W2 at *
  generalize w1.heap.size = bd at *
  have h1 := Lib.itoa_length_le e (by have := HOK.out.2.1; omega) (by have := HOK.out.2.1; omega)
  have h2 := Lib.itoa_length_le b (by have := HOK.out.1; omega) (by have := HOK.out.1; omega)
  clear HBX2
  refine pure_ (i := 0) (N := some 9) (v := ?_) (a' := ?_) #[true, false, false, false, false, false, false, false, false, false, false] rfl rfl (any_of HT_.out (by kernel_rfl)) (fun _ _ _ h => h) (Or.inl ⟨by rfl, ?_⟩) ?_ ?_
  rotate_left
  ·intro w'
   go_simp
   with_reducible rfl
  rotate_left
  ·simp only [Act.put, sA, sB, sC, i64_w, i32_w]
   rfl
  refine take_ (i := 1) (N := some 10) (v := ?_) (a' := ?_) #[true, true, false, false, false, false, false, false, false, false, false] rfl rfl (take_ofW HT_.out HW_.out (by kernel_rfl)) (fun _ _ _ h => h) (Or.inl ⟨by rfl, ?_⟩) hHeld ?_ ?_
  rotate_left
  ·rintro w' hS
   have s0 : w'.cell? ⟨w.heap.size, 1, none⟩ = some (.int .i64 e) := bcl hS 1
   go_simp
   with_reducible rfl
  rotate_left
  ·simp only [Act.put, sA, sB, sC, i64_w, i32_w]
   rfl
  refine pure_ (i := 5) (N := some 14) (v := ?_) (a' := ?_) #[true, true, false, false, false, true, false, false, false, false, false] rfl rfl (any_of HT_.out (by kernel_rfl)) (fun _ _ _ h => h) (Or.inl ⟨by rfl, ?_⟩) ?_ ?_
  rotate_left
  ·intro w'
   go_simp
   with_reducible rfl
  rotate_left
  ·simp only [Act.put, sA, sB, sC, i64_w, i32_w]
   rfl
  refine take_ (i := 6) (N := some 15) (v := ?_) (a' := ?_) #[true, true, false, false, false, true, true, false, false, false, false] rfl rfl (take_ofW HT_.out HW_.out (by kernel_rfl)) (fun _ _ _ h => h) (Or.inl ⟨by rfl, ?_⟩) hHeld ?_ ?_
  rotate_left
  ·rintro w' hS
   have s0 : w'.cell? ⟨w.heap.size, 0, none⟩ = some (.int .i64 b) := bcl hS 0
   go_simp
   with_reducible rfl
  rotate_left
  ·simp only [Act.put, sA, sB, sC, i64_w, i32_w]
   rfl
  refine one_ (i := 2) (N := some 11) #[true, true, true, false, false, true, true, false, false, false, false] rfl rfl (one_of HT_.out (by kernel_rfl)) (by decide) (fun K hK => ?_)
  refine goes_ Tryd.func40 (by kernel_rfl) rfl #[.int .i64 e] (by rfl) rfl rfl (by simp only [List.map_toArray, List.map_cons, List.map_nil]; rfl) ?_
  refine (strconv_Itoa.calls e ⟨(Lib.itoa e).toArray⟩ _ (HG.out.below HB2.out) (by unfold strconv_Itoa.f; rw [if_pos (by have := HOK.out.2.1; omega)])).mono ?_
  rintro ee w3 ⟨rfl, hb⟩
  refine ⟨_, rfl, ?_⟩
  have HB3 := Ad.mk (pbt HB2.out hb)
  have HD3 := Ad.mk (bd_below HD2.out hb)
  have hS3 := (hb.block _ (blk_lt hHeld)).trans hHeld
  clear hb HB2 HD2 hHeld
  refine hK.out _ _ hS3 (fun hHeld => ?_)
  clear hK K hS3
  refine norm_ (a' := ?_) ?_ ?_
  rotate_left
  ·show Act.put _ (some 11) _ = _
   simp only [Act.put, sA, sB, sC, i64_w, i32_w]
   rfl
  obtain ⟨t1, HT_1⟩ : ∃ t, Ad (t = [35, 64, 32] ++ Lib.itoa e) := ⟨_, ⟨rfl⟩⟩
  have hcat1 : ((⟨#[35, 64, 32]⟩ : ByteArray) ++ ⟨(Lib.itoa e).toArray⟩ : ByteArray) = ⟨t1.toArray⟩ := by
   apply ByteArray.ext
   rw [HT_1.out]
   simp
  have hl1 : t1.length ≤ 60 := by
   rw [HT_1.out]
   simp only [List.length_append, List.length_cons, List.length_nil]
   omega
  have hno1 : (9223372036854775807 < 3 + (Lib.itoa e).length) = False := eq_false (by omega)
  refine pure_ (i := 3) (N := some 12) (v := ?_) (a' := ?_) #[true, true, true, true, false, true, true, false, false, false, false] rfl rfl (any_of HT_.out (by kernel_rfl)) (fun _ _ _ h => h) (Or.inl ⟨by rfl, ?_⟩) ?_ ?_
  rotate_left
  ·intro w'
   go_simp
   with_reducible rfl
  rotate_left
  ·simp only [Act.put, sA, sB, sC, i64_w, i32_w]
   rfl
  try first | rw [hcat1] | rw [← HT_1.out] | rw [show 35 :: 64 :: 32 :: Lib.itoa e = t1 from HT_1.out.symm]
  clear hcat1 hno1
  obtain ⟨t2, HT_2⟩ : ∃ t, Ad (t = t1 ++ [10, 35, 61, 32]) := ⟨_, ⟨rfl⟩⟩
  have hcat2 : ((⟨t1.toArray⟩ : ByteArray) ++ ⟨#[10, 35, 61, 32]⟩ : ByteArray) = ⟨t2.toArray⟩ := by
   apply ByteArray.ext
   rw [HT_2.out]
   simp
  have hl2 : t2.length ≤ 70 := by
   rw [HT_2.out]
   simp only [List.length_append, List.length_cons, List.length_nil]
   omega
  have hno2 : (9223372036854775807 < t1.length + 4) = False := eq_false (by omega)
  refine pure_ (i := 4) (N := some 13) (v := ?_) (a' := ?_) #[true, true, true, true, true, true, true, false, false, false, false] rfl rfl (any_of HT_.out (by kernel_rfl)) (fun _ _ _ h => h) (Or.inl ⟨by rfl, ?_⟩) ?_ ?_
  rotate_left
  ·intro w'
   go_simp
   with_reducible rfl
  rotate_left
  ·simp only [Act.put, sA, sB, sC, i64_w, i32_w]
   rfl
  try first | rw [hcat2] | rw [← HT_2.out] | rw [show 35 :: 64 :: 32 :: Lib.itoa e = t1 from HT_1.out.symm]
  clear hcat2 hno2
  refine one_ (i := 7) (N := some 16) #[true, true, true, true, true, true, true, true, false, false, false] rfl rfl (one_of HT_.out (by kernel_rfl)) (by decide) (fun K hK => ?_)
  refine goes_ Tryd.func40 (by kernel_rfl) rfl #[.int .i64 b] (by rfl) rfl rfl (by simp only [List.map_toArray, List.map_cons, List.map_nil]; rfl) ?_
  refine (strconv_Itoa.calls b ⟨(Lib.itoa b).toArray⟩ _ (HG.out.below HB3.out) (by unfold strconv_Itoa.f; rw [if_pos (by have := HOK.out.1; omega)])).mono ?_
  rintro ee w4 ⟨rfl, hb⟩
  refine ⟨_, rfl, ?_⟩
  have HB4 := Ad.mk (pbt HB3.out hb)
  have HD4 := Ad.mk (bd_below HD3.out hb)
  have hS4 := (hb.block _ (blk_lt hHeld)).trans hHeld
  clear hb HB3 HD3 hHeld
  refine hK.out _ _ hS4 (fun hHeld => ?_)
  clear hK K hS4
  refine norm_ (a' := ?_) ?_ ?_
  rotate_left
  ·show Act.put _ (some 16) _ = _
   simp only [Act.put, sA, sB, sC, i64_w, i32_w]
   rfl
  obtain ⟨t3, HT_3⟩ : ∃ t, Ad (t = t2 ++ Lib.itoa b) := ⟨_, ⟨rfl⟩⟩
  have hcat3 : ((⟨t2.toArray⟩ : ByteArray) ++ ⟨(Lib.itoa b).toArray⟩ : ByteArray) = ⟨t3.toArray⟩ := by
   apply ByteArray.ext
   rw [HT_3.out]
   simp
  have hl3 : t3.length ≤ 100 := by
   rw [HT_3.out]
   simp only [List.length_append, List.length_cons, List.length_nil]
   omega
  have hno3 : (9223372036854775807 < t2.length + (Lib.itoa b).length) = False := eq_false (by omega)
  refine pure_ (i := 8) (N := some 17) (v := ?_) (a' := ?_) #[true, true, true, true, true, true, true, true, true, false, false] rfl rfl (any_of HT_.out (by kernel_rfl)) (fun _ _ _ h => h) (Or.inl ⟨by rfl, ?_⟩) ?_ ?_
  rotate_left
  ·intro w'
   go_simp
   with_reducible rfl
  rotate_left
  ·simp only [Act.put, sA, sB, sC, i64_w, i32_w]
   rfl
  try first | rw [hcat3] | rw [← HT_3.out] | rw [show 35 :: 64 :: 32 :: Lib.itoa e = t1 from HT_1.out.symm]
  clear hcat3 hno3
  obtain ⟨t4, HT_4⟩ : ∃ t, Ad (t = t3 ++ [10]) := ⟨_, ⟨rfl⟩⟩
  have hcat4 : ((⟨t3.toArray⟩ : ByteArray) ++ ⟨#[10]⟩ : ByteArray) = ⟨t4.toArray⟩ := by
   apply ByteArray.ext
   rw [HT_4.out]
   simp
  have hl4 : t4.length ≤ 110 := by
   rw [HT_4.out]
   simp only [List.length_append, List.length_cons, List.length_nil]
   omega
  have hno4 : (9223372036854775807 < t3.length + 1) = False := eq_false (by omega)
  refine pure_ (i := 9) (N := some 18) (v := ?_) (a' := ?_) #[true, true, true, true, true, true, true, true, true, true, false] rfl rfl (any_of HT_.out (by kernel_rfl)) (fun _ _ _ h => h) (Or.inl ⟨by rfl, ?_⟩) ?_ ?_
  rotate_left
  ·intro w'
   go_simp
   with_reducible rfl
  rotate_left
  ·simp only [Act.put, sA, sB, sC, i64_w, i32_w]
   rfl
  try first | rw [hcat4] | rw [← HT_4.out] | rw [show 35 :: 64 :: 32 :: Lib.itoa e = t1 from HT_1.out.symm]
  clear hcat4 hno4
  refine one_ (i := 10) (N := some 19) #[true, true, true, true, true, true, true, true, true, true, true] rfl rfl (one_of HT_.out (by kernel_rfl)) (by decide) (fun K hK => ?_)
  refine goes_ Tryd.func39 (by kernel_rfl) rfl #[.pointer (some ⟨bd, 0, none⟩), .string ⟨t4.toArray⟩] (by rfl) rfl rfl (by simp only [List.map_toArray, List.map_cons, List.map_nil]; rfl) ?_
  refine (Tryd.bd_write w.heap.size bd _ _ _ HD4.out (by rw [cells_len]; show _ + t4.toArray.size ≤ _; rw [List.size_toArray]; simp only [List.length_nil]; omega) HB4.out.size).mono ?_
  rintro ee w5 ⟨rfl, hd, hb, hk⟩
  refine ⟨_, rfl, ?_⟩
  rw [cells_add] at hd
  have hS5 := hk w.heap.size _ hHeld (fun h => HGT.out (Option.some.inj h)) (fun cc fz h => by cases h)
  have HB5 := Ad.mk (HB4.out.trans hb)
  have HD5 := Ad.mk hd
  clear hd hb hk HB4 HD4 hHeld
  refine hK.out _ _ hS5 (fun hHeld => ?_)
  clear hK K
  refine norm_ (a' := ?_) ?_ ?_
  rotate_left
  ·show Act.put _ (some 19) _ = _
   simp only [Act.put, sA, sB, sC, i64_w, i32_w]
   rfl
  refine done_ (by kernel_rfl) ?_
  have HHD : Ad (tableText b e l = t4 ++ l.flatMap entLine) := ⟨by rw [HT_4.out, HT_3.out, HT_2.out, HT_1.out]; simp [tableText]⟩
  have HT4 := Ad.mk hl4
  have k2 : w5.cell? ⟨w.heap.size, 2, none⟩ = some (.slice A l.length c) := bcl hS5 2
  rw [List.nil_append] at HD5
  clear hS5 hHeld HT_ HW_ HT_1 HT_2 HT_3 HT_4 hl1 hl2 hl3 hl4 h1 h2
  go_wp2
  go_loopw [23] (fun i wr => ∃ x : Int, i = .int .i64 x ∧ Ad (0 ≤ x ∧ x ≤ l.length) ∧ Ad (Below w.heap.size w wr) ∧ Ad (Lib.IsBuilderF 70 5 w.heap.size bd (Lib.byteCells (t4 ++ (l.take x.toNat).flatMap entLine)) wr)) (fun i _ => l.length - (intOf i).toNat)
  case atStart => exact ⟨0, rfl, ⟨by omega, by omega⟩, HB5, ⟨by simpa using HD5.out⟩⟩
  case round =>
   clear HB5 HD5 k2
   obtain ⟨x, rfl, HX, HB6, HD6⟩ := hrel
   by_cases c3 : x < (l.length : Int)
   ·have x0 := HX.out.1
    have c3b0 : decide (x < (l.length : Int)) = true := decide_eq_true c3
    have p0 : decide (0 ≤ x) = true := decide_eq_true x0
    have HX2 := Ad.mk c3
    have HWX : Ad (wrap64 (x + 1) = x + 1) := ⟨by have := HOK.out.2.2.1; have := HX2.out; unfold wrap64; omega⟩
    obtain ⟨ad, ead, hx0, hx1⟩ := at_T44 HR.out x x0 c3
    cases ead
    replace hx0 := (HB6.out.cell (World.block_lt_of_cell? w _ hx0)).trans hx0
    replace hx1 := (HB6.out.cell (World.block_lt_of_cell? w _ hx1)).trans hx1
    have p := eq_true x0
    have q := eq_true c3
    have HST := Ad.mk (ents_step l x x0 c3)
    have HYE := Ad.mk (HOK.out.2.2.2 _ (mem_rd x0 c3))
    have HAL : Ad (((l.take x.toNat).flatMap entLine).length ≤ 64 * 50) := ⟨by
     have h := ents_len (l.take x.toNat) (fun y hy => by
      have h := HOK.out.2.2.2 y (List.mem_of_mem_take hy)
      obtain ⟨g1, g2⟩ := h
      exact ⟨by omega, by omega⟩)
     rw [List.length_take] at h
     have := HOK.out.2.2.1
     omega⟩
    generalize rd_T44 l x = y at *
    generalize (l.take x.toNat).flatMap entLine = acc at *
    have h1 := Lib.itoa_length_le y.f0 (by have := HYE.out.1; omega) (by have := HYE.out.1; omega)
    have h2 := Lib.itoa_length_le y.f1 (by have := HYE.out.2; omega) (by have := HYE.out.2; omega)
    go_wp2
    have hS7 : (wr.alloc (.cells #[.int .i64 y.f0, .int .i64 y.f1] 44)).drew.heap[wr.heap.size]? = some (.cells #[.int .i64 y.f0, .int .i64 y.f1] 44 (0, 0)) := block_new' _ _
    have HB7 := Ad.mk (pb1 (pba HB6.out (.cells #[.int .i64 y.f0, .int .i64 y.f1] 44)))
    have HD7 := Ad.mk (bd_below HD6.out (pb1 (pba (Below.refl _ _) (.cells #[.int .i64 y.f0, .int .i64 y.f1] 44))))
    have HNE : Ad (wr.heap.size ≠ bd) := ⟨by
     rcases HD6.out with h | h
     ·have := blk_lt h.2.choose_spec.1; omega
     ·have := blk_lt h.2.choose_spec.1; omega⟩
    clear HB6 HD6 hx0 hx1
    refine start_ (n := 10) (S := fun w' => w'.heap[wr.heap.size]? = some (.cells #[.int .i64 y.f0, .int .i64 y.f1] 44 (0, 0))) (ds := []) #[false, false, false, false, false, false, false, false, false, false] (by kernel_rfl) rfl rfl hS7 (fun hHeld => ?_)
    refine with_tabW text8t text8b (fun HT_ HW_ => ?_)
    clear hS7
    generalize (wr.alloc (.cells #[.int .i64 y.f0, .int .i64 y.f1] 44)).drew = W7 at *
    generalize wr.heap.size = gy at *
    refine pure_ (i := 0) (N := some 27) (v := ?_) (a' := ?_) #[true, false, false, false, false, false, false, false, false, false] rfl rfl (any_of HT_.out (by kernel_rfl)) (fun _ _ _ h => h) (Or.inl ⟨by rfl, ?_⟩) ?_ ?_
    rotate_left
    ·intro w'
     go_simp
     with_reducible rfl
    rotate_left
    ·simp only [Act.put, sA, sB, sC, i64_w, i32_w]
     rfl
    refine take_ (i := 1) (N := some 28) (v := ?_) (a' := ?_) #[true, true, false, false, false, false, false, false, false, false] rfl rfl (take_ofW HT_.out HW_.out (by kernel_rfl)) (fun _ _ _ h => h) (Or.inl ⟨by rfl, ?_⟩) hHeld ?_ ?_
    rotate_left
    ·rintro w' hS
     have s0 : w'.cell? ⟨gy, 0, none⟩ = some (.int .i64 y.f0) := bcl hS 0
     go_simp
     with_reducible rfl
    rotate_left
    ·simp only [Act.put, sA, sB, sC, i64_w, i32_w]
     rfl
    refine pure_ (i := 4) (N := some 31) (v := ?_) (a' := ?_) #[true, true, false, false, true, false, false, false, false, false] rfl rfl (any_of HT_.out (by kernel_rfl)) (fun _ _ _ h => h) (Or.inl ⟨by rfl, ?_⟩) ?_ ?_
    rotate_left
    ·intro w'
     go_simp
     with_reducible rfl
    rotate_left
    ·simp only [Act.put, sA, sB, sC, i64_w, i32_w]
     rfl
    refine take_ (i := 5) (N := some 32) (v := ?_) (a' := ?_) #[true, true, false, false, true, true, false, false, false, false] rfl rfl (take_ofW HT_.out HW_.out (by kernel_rfl)) (fun _ _ _ h => h) (Or.inl ⟨by rfl, ?_⟩) hHeld ?_ ?_
    rotate_left
    ·rintro w' hS
     have s0 : w'.cell? ⟨gy, 1, none⟩ = some (.int .i64 y.f1) := bcl hS 1
     go_simp
     with_reducible rfl
    rotate_left
    ·simp only [Act.put, sA, sB, sC, i64_w, i32_w]
     rfl
    refine one_ (i := 2) (N := some 29) #[true, true, true, false, true, true, false, false, false, false] rfl rfl (one_of HT_.out (by kernel_rfl)) (by decide) (fun K hK => ?_)
    refine goes_ Tryd.func40 (by kernel_rfl) rfl #[.int .i64 y.f0] (by rfl) rfl rfl (by simp only [List.map_toArray, List.map_cons, List.map_nil]; rfl) ?_
    refine (strconv_Itoa.calls y.f0 ⟨(Lib.itoa y.f0).toArray⟩ _ (HG.out.below HB7.out) (by unfold strconv_Itoa.f; rw [if_pos (by have := HYE.out.1; omega)])).mono ?_
    rintro ee w8 ⟨rfl, hb⟩
    refine ⟨_, rfl, ?_⟩
    have HB8 := Ad.mk (pbt HB7.out hb)
    have HD8 := Ad.mk (bd_below HD7.out hb)
    have hS8 := (hb.block _ (blk_lt hHeld)).trans hHeld
    clear hb HB7 HD7 hHeld
    refine hK.out _ _ hS8 (fun hHeld => ?_)
    clear hK K hS8
    refine norm_ (a' := ?_) ?_ ?_
    rotate_left
    ·show Act.put _ (some 29) _ = _
     simp only [Act.put, sA, sB, sC, i64_w, i32_w]
     rfl
    obtain ⟨t5, HT_5⟩ : ∃ t, Ad (t = Lib.itoa y.f0 ++ [32]) := ⟨_, ⟨rfl⟩⟩
    have hcat5 : ((⟨(Lib.itoa y.f0).toArray⟩ : ByteArray) ++ ⟨#[32]⟩ : ByteArray) = ⟨t5.toArray⟩ := by
     apply ByteArray.ext
     rw [HT_5.out]
     simp
    have hl5 : t5.length ≤ 60 := by
     rw [HT_5.out]
     simp only [List.length_append, List.length_cons, List.length_nil]
     omega
    have hno5 : (9223372036854775807 < (Lib.itoa y.f0).length + 1) = False := eq_false (by omega)
    refine pure_ (i := 3) (N := some 30) (v := ?_) (a' := ?_) #[true, true, true, true, true, true, false, false, false, false] rfl rfl (any_of HT_.out (by kernel_rfl)) (fun _ _ _ h => h) (Or.inl ⟨by rfl, ?_⟩) ?_ ?_
    rotate_left
    ·intro w'
     go_simp
     with_reducible rfl
    rotate_left
    ·simp only [Act.put, sA, sB, sC, i64_w, i32_w]
     rfl
    try first | rw [hcat5] | rw [← HT_5.out] | rw [show 35 :: 64 :: 32 :: Lib.itoa e = t1 from HT_1.out.symm]
    clear hcat5 hno5
    refine one_ (i := 6) (N := some 33) #[true, true, true, true, true, true, true, false, false, false] rfl rfl (one_of HT_.out (by kernel_rfl)) (by decide) (fun K hK => ?_)
    refine goes_ Tryd.func40 (by kernel_rfl) rfl #[.int .i64 y.f1] (by rfl) rfl rfl (by simp only [List.map_toArray, List.map_cons, List.map_nil]; rfl) ?_
    refine (strconv_Itoa.calls y.f1 ⟨(Lib.itoa y.f1).toArray⟩ _ (HG.out.below HB8.out) (by unfold strconv_Itoa.f; rw [if_pos (by have := HYE.out.2; omega)])).mono ?_
    rintro ee w9 ⟨rfl, hb⟩
    refine ⟨_, rfl, ?_⟩
    have HB9 := Ad.mk (pbt HB8.out hb)
    have HD9 := Ad.mk (bd_below HD8.out hb)
    have hS9 := (hb.block _ (blk_lt hHeld)).trans hHeld
    clear hb HB8 HD8 hHeld
    refine hK.out _ _ hS9 (fun hHeld => ?_)
    clear hK K hS9
    refine norm_ (a' := ?_) ?_ ?_
    rotate_left
    ·show Act.put _ (some 33) _ = _
     simp only [Act.put, sA, sB, sC, i64_w, i32_w]
     rfl
    obtain ⟨t6, HT_6⟩ : ∃ t, Ad (t = t5 ++ Lib.itoa y.f1) := ⟨_, ⟨rfl⟩⟩
    have hcat6 : ((⟨t5.toArray⟩ : ByteArray) ++ ⟨(Lib.itoa y.f1).toArray⟩ : ByteArray) = ⟨t6.toArray⟩ := by
     apply ByteArray.ext
     rw [HT_6.out]
     simp
    have hl6 : t6.length ≤ 90 := by
     rw [HT_6.out]
     simp only [List.length_append, List.length_cons, List.length_nil]
     omega
    have hno6 : (9223372036854775807 < t5.length + (Lib.itoa y.f1).length) = False := eq_false (by omega)
    refine pure_ (i := 7) (N := some 34) (v := ?_) (a' := ?_) #[true, true, true, true, true, true, true, true, false, false] rfl rfl (any_of HT_.out (by kernel_rfl)) (fun _ _ _ h => h) (Or.inl ⟨by rfl, ?_⟩) ?_ ?_
    rotate_left
    ·intro w'
     go_simp
     with_reducible rfl
    rotate_left
    ·simp only [Act.put, sA, sB, sC, i64_w, i32_w]
     rfl
    try first | rw [hcat6] | rw [← HT_6.out] | rw [show 35 :: 64 :: 32 :: Lib.itoa e = t1 from HT_1.out.symm]
    clear hcat6 hno6
    obtain ⟨t7, HT_7⟩ : ∃ t, Ad (t = t6 ++ [10]) := ⟨_, ⟨rfl⟩⟩
    have hcat7 : ((⟨t6.toArray⟩ : ByteArray) ++ ⟨#[10]⟩ : ByteArray) = ⟨t7.toArray⟩ := by
     apply ByteArray.ext
     rw [HT_7.out]
     simp
    have hl7 : t7.length ≤ 100 := by
     rw [HT_7.out]
     simp only [List.length_append, List.length_cons, List.length_nil]
     omega
    have hno7 : (9223372036854775807 < t6.length + 1) = False := eq_false (by omega)
    refine pure_ (i := 8) (N := some 35) (v := ?_) (a' := ?_) #[true, true, true, true, true, true, true, true, true, false] rfl rfl (any_of HT_.out (by kernel_rfl)) (fun _ _ _ h => h) (Or.inl ⟨by rfl, ?_⟩) ?_ ?_
    rotate_left
    ·intro w'
     go_simp
     with_reducible rfl
    rotate_left
    ·simp only [Act.put, sA, sB, sC, i64_w, i32_w]
     rfl
    try first | rw [hcat7] | rw [← HT_7.out] | rw [show 35 :: 64 :: 32 :: Lib.itoa e = t1 from HT_1.out.symm]
    clear hcat7 hno7
    refine one_ (i := 9) (N := some 36) #[true, true, true, true, true, true, true, true, true, true] rfl rfl (one_of HT_.out (by kernel_rfl)) (by decide) (fun K hK => ?_)
    refine goes_ Tryd.func39 (by kernel_rfl) rfl #[.pointer (some ⟨bd, 0, none⟩), .string ⟨t7.toArray⟩] (by rfl) rfl rfl (by simp only [List.map_toArray, List.map_cons, List.map_nil]; rfl) ?_
    refine (Tryd.bd_write w.heap.size bd _ _ _ HD9.out (by rw [cells_len]; show _ + t7.toArray.size ≤ _; rw [List.size_toArray]; have g1 := HAL.out; have g2 := HT4.out; rw [List.length_append]; omega) HB9.out.size).mono ?_
    rintro ee w10 ⟨rfl, hd, hb, hk⟩
    refine ⟨_, rfl, ?_⟩
    rw [cells_add] at hd
    have hS10 := hk gy _ hHeld (fun h => HNE.out (Option.some.inj h)) (fun cc fz h => by cases h)
    have HB10 := Ad.mk (HB9.out.trans hb)
    have HD10 := Ad.mk hd
    clear hd hb hk HB9 HD9 hHeld
    refine hK.out _ _ hS10 (fun hHeld => ?_)
    clear hK K
    refine norm_ (a' := ?_) ?_ ?_
    rotate_left
    ·show Act.put _ (some 36) _ = _
     simp only [Act.put, sA, sB, sC, i64_w, i32_w]
     rfl
    refine done_ (by kernel_rfl) ?_
    have HLY : Ad (entLine y = t7) := ⟨by rw [HT_7.out, HT_6.out, HT_5.out]; simp [entLine]⟩
    clear hS10 hHeld HT_ HW_ HT_5 HT_6 HT_7 hl5 hl6 hl7 h1 h2
    go_wp2
    go_round
    case rel => exact ⟨x + 1, by (try rw [HWX.out]), ⟨by have := HX.out; omega, by have := HX2.out; omega⟩, HB10, ⟨by rw [HST.out, HLY.out, ← List.append_assoc]; exact HD10.out⟩⟩
    case measure => have := HX2.out; have := HX.out; (try rw [HWX.out]); simp only [intOf]; omega
   ·have c3b0 : decide (x < (l.length : Int)) = false := decide_eq_false c3
    have HN : Ad (t4 ++ (l.take x.toNat).flatMap entLine = tableText b e l) := ⟨by rw [HHD.out, List.take_of_length_le (by omega)]⟩
    go_wp2_with fail
    refine (Tryd.Builder_String_any_k w.heap.size bd _ _ HD6.out HB6.out.size).mono ?_
    rintro ee w11 ⟨rfl, _, hb, _⟩
    have HB11 := Ad.mk (HB6.out.trans hb)
    go_wp2
    go_ret
    exact ⟨by rw [HRZ.out, ← HN.out]; rfl, HB11.out⟩
 ·have c2b : (er != 0) = true := bne_iff_ne.mpr c2
  have HRZ : Ad (s = ⟨#[]⟩) := ⟨by
   have h := HRS.out
   rw [if_neg c2] at h
   exact (Option.some.inj h).symm⟩
  clear c2 HRS
  go_wp2
  go_ret
  exact ⟨by rw [HRZ.out]; rfl, HB1.out⟩
theorem leap_Text.calls (a0_0 : Int) (a0_1 : Int) (A0_2 : Option Addr) (c0_2 : Nat) (l0_2 : List S44) (r : ByteArray) (w : World) (hG : Glob w) (hr0_2 : Kd.C k44 w A0_2 l0_2.length l0_2) (hc0_2 : l0_2.length ≤ c0_2) (h : leap_Text.f a0_0 a0_1 l0_2 = some r) :
  Calls Tryd.prog 19 #[.agg #[.int .i64 a0_0, .int .i64 a0_1, .slice A0_2 l0_2.length c0_2]] w fun ee w' => ee = .returned (.string r) ∧ Below w.heap.size w w' :=
 text_calls a0_0 a0_1 A0_2 c0_2 l0_2 r w hG hr0_2 hc0_2 h
end Go.Proofs.YtipbkcilpnlgnaaDoor.M
