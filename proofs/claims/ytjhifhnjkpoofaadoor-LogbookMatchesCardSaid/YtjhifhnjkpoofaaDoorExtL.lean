/-
  logbook.readLine by hand.
-/
import Derived.Test.YtjhifhnjkpoofaaDoorExtB
import Derived.Test.YtjhifhnjkpoofaaDoorExtC
namespace Go.Proofs.YtjhifhnjkpoofaaDoor.M
open Go.RowKit Go.Proofs.YtjhifhnjkpoofaaDoorG Go.Proofs.YtjhifhnjkpoofaaDoorW.PrintWords Go.Proofs.YtjhifhnjkpoofaaDoorW.PrintLast Go.Proofs.YtjhifhnjkpoofaaDoorW.PrintMore
set_option linter.unusedVariables false
set_option linter.unusedSimpArgs false
theorem split_small (sep : ByteArray) : ∀ (k : Nat) (s t : ByteArray), t ∈ Lib.splitB sep 0 k s → t.size ≤ s.size
  | 0, s, t, h => by
    rw [Lib.splitB_zero, List.mem_singleton] at h
    rw [h]; exact Nat.le_refl _
  | k + 1, s, t, h => by
    unfold Lib.splitB at h
    split at h
    · rw [List.mem_singleton] at h
      rw [h]; exact Nat.le_refl _
    · rcases List.mem_cons.1 h with h | h
      · rw [h, ByteArray.size_extract]; omega
      · have := split_small sep k _ t h
        rw [ByteArray.size_extract] at this
        omega
theorem boxZ {w : World} {b : Nat} {x : S37} (h : Box w b x) : w.frozen? ⟨b, 0, none⟩ = false ∧ w.frozen? ⟨b, 1, none⟩ = false ∧ w.frozen? ⟨b, 2, none⟩ = false ∧ w.frozen? ⟨b, 3, none⟩ = false ∧ w.frozen? ⟨b, 4, none⟩ = false ∧ w.frozen? ⟨b, 5, none⟩ = false := by
  unfold Box at h
  simp [World.frozen?, h]
theorem fin6 {w W : World} {b : Nat} {z : S37} (hb : w.heap.size ≤ b) (h : Box W b z) (hB : Below w.heap.size w W) (x : S37) :
    Box ((((((W.setCell ⟨b, 0, none⟩ (.int .i64 x.f0)).setCell ⟨b, 1, none⟩ (.int .i64 x.f1)).setCell ⟨b, 2, none⟩ (.int .i64 x.f2)).setCell ⟨b, 3, none⟩ (.int .i64 x.f3)).setCell ⟨b, 4, none⟩ (.int .i64 x.f4)).setCell ⟨b, 5, none⟩ (.int .i64 x.f5)) b x ∧
    Below w.heap.size w ((((((W.setCell ⟨b, 0, none⟩ (.int .i64 x.f0)).setCell ⟨b, 1, none⟩ (.int .i64 x.f1)).setCell ⟨b, 2, none⟩ (.int .i64 x.f2)).setCell ⟨b, 3, none⟩ (.int .i64 x.f3)).setCell ⟨b, 4, none⟩ (.int .i64 x.f4)).setCell ⟨b, 5, none⟩ (.int .i64 x.f5)) := by
  constructor
  · exact blk_put (blk_put (blk_put (blk_put (blk_put (blk_put h 0 _ rfl) 1 _ rfl) 2 _ rfl) 3 _ rfl) 4 _ rfl) 5 _ rfl
  · exact below_set (below_set (below_set (below_set (below_set (below_set hB hb) hb) hb) hb) hb) hb
theorem box_drew {W : World} {b : Nat} {x : S37} (h : Box W b x) : Box W.drew b x := h
theorem fin6d {w W : World} {b : Nat} {z : S37} (hb : w.heap.size ≤ b) (h : Box W b z) (hB : Below w.heap.size w W) (x : S37) :
    Box ((((((W.setCell ⟨b, 0, none⟩ (.int .i64 x.f0)).setCell ⟨b, 1, none⟩ (.int .i64 x.f1)).setCell ⟨b, 2, none⟩ (.int .i64 x.f2)).setCell ⟨b, 3, none⟩ (.int .i64 x.f3)).setCell ⟨b, 4, none⟩ (.int .i64 x.f4)).setCell ⟨b, 5, none⟩ (.int .i64 x.f5)).drew b x ∧
    Below w.heap.size w ((((((W.setCell ⟨b, 0, none⟩ (.int .i64 x.f0)).setCell ⟨b, 1, none⟩ (.int .i64 x.f1)).setCell ⟨b, 2, none⟩ (.int .i64 x.f2)).setCell ⟨b, 3, none⟩ (.int .i64 x.f3)).setCell ⟨b, 4, none⟩ (.int .i64 x.f4)).setCell ⟨b, 5, none⟩ (.int .i64 x.f5)).drew :=
  ⟨box_drew (fin6 hb h hB x).1, below_drew (fin6 hb h hB x).2⟩
set_option maxHeartbeats 3200000 in
set_option maxRecDepth 100000 in
theorem line_calls (a0 : ByteArray) (w : World) (hG : Glob w) (hs : a0.size ≤ 100000) :
    Calls Tryd.prog 28 #[.string a0] w fun e w' => e = .returned (.tuple #[encEntry (outL a0).1, .bool (outL a0).2]) ∧ Below w.heap.size w w' := by
  have hu37 := Tryd.underlying37
  have HG := Aside0.mk hG
  have HB := Aside0.mk (Below.refl w.heap.size w)
  have HSP : Aside0 (strings_Split.f a0 spc = some (wordsL a0)) := ⟨by unfold strings_Split.f; rw [if_pos ⟨by omega, by decide⟩]; rfl⟩
  have hsz := hs
  clear hG hs
  have HL : Aside0 (1 ≤ (wordsL a0).length ∧ (wordsL a0).length < 1000000) := ⟨by
    have h1 := Lib.splitB_all spc (by decide) 0 _ a0 rfl
    have h2 := Lib.countB_le spc (by decide) _ a0 (Nat.le_refl _)
    unfold wordsL
    omega⟩
  have HSZ : Aside0 (∀ s ∈ wordsL a0, s.size ≤ 1000000) := ⟨fun s hm => by have := split_small spc _ a0 s hm; omega⟩
  generalize hws : wordsL a0 = ws at *
  have HOUT : Aside0 (outL a0 = match entryOf ws with
    | some x => (x, true)
    | none => (⟨0, 0, 0, 0, 0, 0⟩, false)) := ⟨by unfold outL; rw [hws]; cases entryOf ws <;> rfl⟩
  clear hws hsz
  go_enter Tryd.func28, Tryd.ntmps28
  go_wp2_with fail
  refine (strings_Split.calls a0 spc ws _ (HG.out.below (below_alloc HB.out _)) HSP.out).mono ?_
  rintro e w1 ⟨v0, rfl, ho0, hb1⟩
  have hbx : Box w1 w.heap.size ⟨0, 0, 0, 0, 0, 0⟩ := (hb1.block _ (by rw [size_alloc]; omega)).trans (block_new _ _)
  have HB1 := Aside0.mk (below_step (below_alloc HB.out _) hb1)
  have HO1 := Aside0.mk (Kd.R_lower ho0 (by rw [size_alloc]; exact Nat.le_succ _) : Kd.R Kd.string 9 w1 w.heap.size (fun _ => True) v0 ws)
  clear ho0 hb1 HB
  obtain ⟨A, c, hv⟩ := Kd.R_slice HO1.out
  subst hv
  have q9 : (1 : Int) ≤ (ws.length : Int) := by have := HL.out.1; omega
  obtain ⟨i09, hi09, _, hsz9, _⟩ := info_parts info9
  have hroom : ws.length ≤ c := (Kd.R_reads' HO1.out).2.1
  have hC := (Kd.R_reads' HO1.out).2.2
  have hcut := cut_from (P := Tryd.prog) 63 9 .i64 Tryd.underlying63 hi09 1 hsz9 A ws.length c 1 (by omega) q9
  have hr9 := Kd.C_drop (m := (1 : Int).toNat) (c := c) hC (by omega) hroom
  obtain ⟨A9, hA9⟩ : ∃ A1, A1 = (if c = (1 : Int).toNat then A else (A : Option Addr).map (·.add ((1 : Int).toNat * 1))) := ⟨_, rfl⟩
  obtain ⟨c9, hc9⟩ : ∃ c1, c1 = c - (1 : Int).toNat := ⟨_, rfl⟩
  rw [← hA9, ← hc9] at hcut
  have hdl : (ws.drop 1).length = ws.length - 1 := List.length_drop ..
  replace hr9 : Kd.C Kd.string w1 A9 (ws.drop 1).length (ws.drop 1) := by rw [hA9]; exact hr9
  have HRN := numbers_calls A9 c9 (ws.drop 1) w1 (HG.out.below HB1.out) hr9 (by have := HL.out.2; omega) (fun s hs => HSZ.out s (List.mem_of_mem_drop hs))
  rw [hdl] at HRN
  have p9 : decide ((1 : Int) ≤ (ws.length : Int)) = true := decide_eq_true q9
  have q9' := eq_true q9
  clear hr9 hC hroom hi09 hsz9 hc9 hA9 hdl
  go_wp2_with fail
  refine HRN.mono ?_
  rintro e w2 ⟨v1, rfl, hoN, hb2⟩
  clear HRN hcut
  have hbx2 : Box w2 w.heap.size ⟨0, 0, 0, 0, 0, 0⟩ := (hb2.block _ (lt_of_some hbx)).trans hbx
  have HB2 := Aside0.mk (below_step HB1.out hb2)
  have HO2 := Aside0.mk (Kd.R_below HO1.out hb2)
  have HN2 := Aside0.mk (Kd.R_lower hoN HB1.out.size : Kd.R (Kd.int .i64) 3 w2 w.heap.size (fun _ => True) v1 (outs (ws.drop 1)).1)
  clear hoN hb2 HB1 HO1 hbx
  obtain ⟨b0, b1, b2, b3, b4, b5⟩ := hbx2.cells
  obtain ⟨z0, z1, z2, z3, z4, z5⟩ := boxZ hbx2
  obtain ⟨w0, wl, rfl⟩ : ∃ w0 wl, ws = w0 :: wl := by
    cases ws with
    | nil => exact absurd HL.out.1 (by simp)
    | cons a l => exact ⟨a, l, rfl⟩
  rw [show (w0 :: wl).drop 1 = wl from rfl] at *
  cases hcan : canons wl with
  | none =>
    have ho : outs wl = ([], false) := by unfold outs; rw [hcan]
    have HZ : Aside0 (outL a0 = (⟨0, 0, 0, 0, 0, 0⟩, false)) := ⟨by rw [HOUT.out]; simp only [entryOf, hcan]⟩
    rw [ho] at HN2 ⊢
    go_wp2
    have hf := fin6 (W := w2) (Nat.le_refl w.heap.size) hbx2 HB2.out (⟨0, 0, 0, 0, 0, 0⟩ : S37)
    refine bodyPost_ret (results_ct rfl _ _ w.heap.size 37 _ (0, 0) _ rfl hf.1 Tryd.underlying37 rfl (by kernel_rfl)) rfl ?_
    exact ⟨by rw [HZ.out]; rfl, hf.2⟩

  | some ns =>
    have ho : outs wl = (ns, true) := by unfold outs; rw [hcan]
    have HN3 : Aside0 (Kd.R (Kd.int .i64) 3 w2 w.heap.size (fun _ => True) v1 ns) := ⟨by have h := HN2.out; rw [ho] at h; exact h⟩
    rw [ho]
    clear HN2 ho
    obtain ⟨ad, ea, hs0⟩ := Kd.at_string (Kd.R_reads' HO2.out).2.2 0 (by decide) (by simp only [List.length_cons]; omega)
    cases ea
    replace hs0 : w2.cell? ad = some (.string w0) := by rw [show ((0 : Int)).toNat = 0 from rfl, Addr.add_zero'] at hs0; exact hs0
    obtain ⟨A2, c2, hv2⟩ := Kd.R_slice HN3.out
    subst hv2
    have hwl : (0 < wl.length + 1) = True := eq_true (by omega)
    have HD := Aside0.mk (ByteArray.toList_eq w0)
    by_cases ks1 : w0.toList = [115, 101, 110, 100]
    · have sb1 : (w0.toList == ([115, 101, 110, 100] : List UInt8)) = true := beq_iff_eq.mpr ks1
      by_cases kl1 : ns.length = 4
      · have lb1 : ((ns.length : Int) == 4) = true := beq_iff_eq.mpr (by omega)
        obtain ⟨n0, n1, n2, n3, rfl⟩ : ∃ n0 n1 n2 n3, ns = [n0, n1, n2, n3] := by
          match ns, kl1 with
          | [n0, n1, n2, n3], _ => exact ⟨n0, n1, n2, n3, rfl⟩
        have HZ : Aside0 (outL a0 = (⟨1, n0, n1, n2, n3, 0⟩, true)) := ⟨by rw [HOUT.out]; simp only [entryOf, hcan]; rw [← HD.out]; simp [ks1]⟩
        obtain ⟨ad0, ea0, hn0⟩ := Kd.at_int (k := .i64) (Kd.R_reads' HN3.out).2.2 0 (by decide) (by simp)
        obtain ⟨ad1, ea1, hn1⟩ := Kd.at_int (k := .i64) (Kd.R_reads' HN3.out).2.2 1 (by decide) (by simp)
        obtain ⟨ad2, ea2, hn2⟩ := Kd.at_int (k := .i64) (Kd.R_reads' HN3.out).2.2 2 (by decide) (by simp)
        obtain ⟨ad3, ea3, hn3⟩ := Kd.at_int (k := .i64) (Kd.R_reads' HN3.out).2.2 3 (by decide) (by simp)
        cases ea0
        obtain rfl := Option.some.inj ea1
        obtain rfl := Option.some.inj ea2
        obtain rfl := Option.some.inj ea3
        replace hn0 : w2.cell? ad0 = some (.int .i64 n0) := by rw [show ((0 : Int)).toNat = 0 from rfl, Addr.add_zero'] at hn0; exact hn0
        replace hn1 : w2.cell? ⟨ad0.block, ad0.off + 1, none⟩ = some (.int .i64 n1) := hn1
        replace hn2 : w2.cell? ⟨ad0.block, ad0.off + 2, none⟩ = some (.int .i64 n2) := hn2
        replace hn3 : w2.cell? ⟨ad0.block, ad0.off + 3, none⟩ = some (.int .i64 n3) := hn3
        clear hcan
        go_wp2
        go_region
        go_wp2

        have hf := fin6d (W := w2) (Nat.le_refl w.heap.size) hbx2 HB2.out (⟨1, n0, n1, n2, n3, 0⟩ : S37)
        refine bodyPost_ret (results_ct rfl _ _ w.heap.size 37 _ (0, 0) _ rfl hf.1 Tryd.underlying37 rfl (by kernel_rfl)) rfl ?_
        exact ⟨by rw [HZ.out]; rfl, hf.2⟩

      · have lb1 : ((ns.length : Int) == 4) = false := beq_eq_false_iff_ne.mpr (by omega)
        have sb2 : (w0.toList == ([114, 101, 99, 118] : List UInt8)) = false := by rw [ks1]; decide
        have sb3 : (w0.toList == ([115, 116, 101, 112] : List UInt8)) = false := by rw [ks1]; decide
        have sb4 : (w0.toList == ([109, 97, 114, 107] : List UInt8)) = false := by rw [ks1]; decide

        have HZ : Aside0 (outL a0 = (⟨0, 0, 0, 0, 0, 0⟩, false)) := ⟨by rw [HOUT.out]; simp only [entryOf, hcan]; rw [← HD.out]; simp [ks1, kl1]⟩
        clear hcan
        go_wp2

        have hf := fin6 (W := w2) (Nat.le_refl w.heap.size) hbx2 HB2.out (⟨0, 0, 0, 0, 0, 0⟩ : S37)
        refine bodyPost_ret (results_ct rfl _ _ w.heap.size 37 _ (0, 0) _ rfl hf.1 Tryd.underlying37 rfl (by kernel_rfl)) rfl ?_
        exact ⟨by rw [HZ.out]; rfl, hf.2⟩

    · have sb1 : (w0.toList == ([115, 101, 110, 100] : List UInt8)) = false := beq_eq_false_iff_ne.mpr ks1
      by_cases ks2 : w0.toList = [114, 101, 99, 118]
      · have sb2 : (w0.toList == ([114, 101, 99, 118] : List UInt8)) = true := beq_iff_eq.mpr ks2
        by_cases kl2 : ns.length = 4
        · have lb2 : ((ns.length : Int) == 4) = true := beq_iff_eq.mpr (by omega)
          obtain ⟨n0, n1, n2, n3, rfl⟩ : ∃ n0 n1 n2 n3, ns = [n0, n1, n2, n3] := by
            match ns, kl2 with
            | [n0, n1, n2, n3], _ => exact ⟨n0, n1, n2, n3, rfl⟩
          have HZ : Aside0 (outL a0 = (⟨2, n0, n1, n2, n3, 0⟩, true)) := ⟨by rw [HOUT.out]; simp only [entryOf, hcan]; rw [← HD.out]; simp [ks1, ks2]⟩
          obtain ⟨ad0, ea0, hn0⟩ := Kd.at_int (k := .i64) (Kd.R_reads' HN3.out).2.2 0 (by decide) (by simp)
          obtain ⟨ad1, ea1, hn1⟩ := Kd.at_int (k := .i64) (Kd.R_reads' HN3.out).2.2 1 (by decide) (by simp)
          obtain ⟨ad2, ea2, hn2⟩ := Kd.at_int (k := .i64) (Kd.R_reads' HN3.out).2.2 2 (by decide) (by simp)
          obtain ⟨ad3, ea3, hn3⟩ := Kd.at_int (k := .i64) (Kd.R_reads' HN3.out).2.2 3 (by decide) (by simp)
          cases ea0
          obtain rfl := Option.some.inj ea1
          obtain rfl := Option.some.inj ea2
          obtain rfl := Option.some.inj ea3
          replace hn0 : w2.cell? ad0 = some (.int .i64 n0) := by rw [show ((0 : Int)).toNat = 0 from rfl, Addr.add_zero'] at hn0; exact hn0
          replace hn1 : w2.cell? ⟨ad0.block, ad0.off + 1, none⟩ = some (.int .i64 n1) := hn1
          replace hn2 : w2.cell? ⟨ad0.block, ad0.off + 2, none⟩ = some (.int .i64 n2) := hn2
          replace hn3 : w2.cell? ⟨ad0.block, ad0.off + 3, none⟩ = some (.int .i64 n3) := hn3
          clear hcan
          go_wp2
          go_region
          go_wp2

          have hf := fin6d (W := w2) (Nat.le_refl w.heap.size) hbx2 HB2.out (⟨2, n0, n1, n2, n3, 0⟩ : S37)
          refine bodyPost_ret (results_ct rfl _ _ w.heap.size 37 _ (0, 0) _ rfl hf.1 Tryd.underlying37 rfl (by kernel_rfl)) rfl ?_
          exact ⟨by rw [HZ.out]; rfl, hf.2⟩

        · have lb2 : ((ns.length : Int) == 4) = false := beq_eq_false_iff_ne.mpr (by omega)
          have sb3 : (w0.toList == ([115, 116, 101, 112] : List UInt8)) = false := by rw [ks2]; decide
          have sb4 : (w0.toList == ([109, 97, 114, 107] : List UInt8)) = false := by rw [ks2]; decide

          have HZ : Aside0 (outL a0 = (⟨0, 0, 0, 0, 0, 0⟩, false)) := ⟨by rw [HOUT.out]; simp only [entryOf, hcan]; rw [← HD.out]; simp [ks1, ks2, kl2]⟩
          clear hcan
          go_wp2

          have hf := fin6 (W := w2) (Nat.le_refl w.heap.size) hbx2 HB2.out (⟨0, 0, 0, 0, 0, 0⟩ : S37)
          refine bodyPost_ret (results_ct rfl _ _ w.heap.size 37 _ (0, 0) _ rfl hf.1 Tryd.underlying37 rfl (by kernel_rfl)) rfl ?_
          exact ⟨by rw [HZ.out]; rfl, hf.2⟩

      · have sb2 : (w0.toList == ([114, 101, 99, 118] : List UInt8)) = false := beq_eq_false_iff_ne.mpr ks2
        by_cases ks3 : w0.toList = [115, 116, 101, 112]
        · have sb3 : (w0.toList == ([115, 116, 101, 112] : List UInt8)) = true := beq_iff_eq.mpr ks3
          by_cases kl3 : ns.length = 3
          · have lb3 : ((ns.length : Int) == 3) = true := beq_iff_eq.mpr (by omega)
            obtain ⟨n0, n1, n2, rfl⟩ : ∃ n0 n1 n2, ns = [n0, n1, n2] := by
              match ns, kl3 with
              | [n0, n1, n2], _ => exact ⟨n0, n1, n2, rfl⟩
            have HZ : Aside0 (outL a0 = (⟨3, n0, 0, 0, n1, n2⟩, true)) := ⟨by rw [HOUT.out]; simp only [entryOf, hcan]; rw [← HD.out]; simp [ks1, ks2, ks3]⟩
            obtain ⟨ad0, ea0, hn0⟩ := Kd.at_int (k := .i64) (Kd.R_reads' HN3.out).2.2 0 (by decide) (by simp)
            obtain ⟨ad1, ea1, hn1⟩ := Kd.at_int (k := .i64) (Kd.R_reads' HN3.out).2.2 1 (by decide) (by simp)
            obtain ⟨ad2, ea2, hn2⟩ := Kd.at_int (k := .i64) (Kd.R_reads' HN3.out).2.2 2 (by decide) (by simp)
            cases ea0
            obtain rfl := Option.some.inj ea1
            obtain rfl := Option.some.inj ea2
            replace hn0 : w2.cell? ad0 = some (.int .i64 n0) := by rw [show ((0 : Int)).toNat = 0 from rfl, Addr.add_zero'] at hn0; exact hn0
            replace hn1 : w2.cell? ⟨ad0.block, ad0.off + 1, none⟩ = some (.int .i64 n1) := hn1
            replace hn2 : w2.cell? ⟨ad0.block, ad0.off + 2, none⟩ = some (.int .i64 n2) := hn2
            clear hcan
            go_wp2
            go_region
            go_wp2

            have hf := fin6d (W := w2) (Nat.le_refl w.heap.size) hbx2 HB2.out (⟨3, n0, 0, 0, n1, n2⟩ : S37)
            refine bodyPost_ret (results_ct rfl _ _ w.heap.size 37 _ (0, 0) _ rfl hf.1 Tryd.underlying37 rfl (by kernel_rfl)) rfl ?_
            exact ⟨by rw [HZ.out]; rfl, hf.2⟩

          · have lb3 : ((ns.length : Int) == 3) = false := beq_eq_false_iff_ne.mpr (by omega)
            have sb4 : (w0.toList == ([109, 97, 114, 107] : List UInt8)) = false := by rw [ks3]; decide

            have HZ : Aside0 (outL a0 = (⟨0, 0, 0, 0, 0, 0⟩, false)) := ⟨by rw [HOUT.out]; simp only [entryOf, hcan]; rw [← HD.out]; simp [ks1, ks2, ks3, kl3]⟩
            clear hcan
            go_wp2

            have hf := fin6 (W := w2) (Nat.le_refl w.heap.size) hbx2 HB2.out (⟨0, 0, 0, 0, 0, 0⟩ : S37)
            refine bodyPost_ret (results_ct rfl _ _ w.heap.size 37 _ (0, 0) _ rfl hf.1 Tryd.underlying37 rfl (by kernel_rfl)) rfl ?_
            exact ⟨by rw [HZ.out]; rfl, hf.2⟩

        · have sb3 : (w0.toList == ([115, 116, 101, 112] : List UInt8)) = false := beq_eq_false_iff_ne.mpr ks3
          by_cases ks4 : w0.toList = [109, 97, 114, 107]
          · have sb4 : (w0.toList == ([109, 97, 114, 107] : List UInt8)) = true := beq_iff_eq.mpr ks4
            by_cases kl4 : ns.length = 2
            · have lb4 : ((ns.length : Int) == 2) = true := beq_iff_eq.mpr (by omega)
              obtain ⟨n0, n1, rfl⟩ : ∃ n0 n1, ns = [n0, n1] := by
                match ns, kl4 with
                | [n0, n1], _ => exact ⟨n0, n1, rfl⟩
              have HZ : Aside0 (outL a0 = (⟨4, n0, 0, 0, n1, 0⟩, true)) := ⟨by rw [HOUT.out]; simp only [entryOf, hcan]; rw [← HD.out]; simp [ks1, ks2, ks3, ks4]⟩
              obtain ⟨ad0, ea0, hn0⟩ := Kd.at_int (k := .i64) (Kd.R_reads' HN3.out).2.2 0 (by decide) (by simp)
              obtain ⟨ad1, ea1, hn1⟩ := Kd.at_int (k := .i64) (Kd.R_reads' HN3.out).2.2 1 (by decide) (by simp)
              cases ea0
              obtain rfl := Option.some.inj ea1
              replace hn0 : w2.cell? ad0 = some (.int .i64 n0) := by rw [show ((0 : Int)).toNat = 0 from rfl, Addr.add_zero'] at hn0; exact hn0
              replace hn1 : w2.cell? ⟨ad0.block, ad0.off + 1, none⟩ = some (.int .i64 n1) := hn1
              clear hcan
              go_wp2
              go_region
              go_wp2

              have hf := fin6d (W := w2) (Nat.le_refl w.heap.size) hbx2 HB2.out (⟨4, n0, 0, 0, n1, 0⟩ : S37)
              refine bodyPost_ret (results_ct rfl _ _ w.heap.size 37 _ (0, 0) _ rfl hf.1 Tryd.underlying37 rfl (by kernel_rfl)) rfl ?_
              exact ⟨by rw [HZ.out]; rfl, hf.2⟩

            · have lb4 : ((ns.length : Int) == 2) = false := beq_eq_false_iff_ne.mpr (by omega)
              have HZ : Aside0 (outL a0 = (⟨0, 0, 0, 0, 0, 0⟩, false)) := ⟨by rw [HOUT.out]; simp only [entryOf, hcan]; rw [← HD.out]; simp [ks1, ks2, ks3, ks4, kl4]⟩
              clear hcan
              go_wp2

              have hf := fin6 (W := w2) (Nat.le_refl w.heap.size) hbx2 HB2.out (⟨0, 0, 0, 0, 0, 0⟩ : S37)
              refine bodyPost_ret (results_ct rfl _ _ w.heap.size 37 _ (0, 0) _ rfl hf.1 Tryd.underlying37 rfl (by kernel_rfl)) rfl ?_
              exact ⟨by rw [HZ.out]; rfl, hf.2⟩

          · have sb4 : (w0.toList == ([109, 97, 114, 107] : List UInt8)) = false := beq_eq_false_iff_ne.mpr ks4
            have HZ : Aside0 (outL a0 = (⟨0, 0, 0, 0, 0, 0⟩, false)) := ⟨by rw [HOUT.out]; simp only [entryOf, hcan]; rw [← HD.out]; simp [ks1, ks2, ks3, ks4]⟩
            clear hcan
            go_wp2

            have hf := fin6 (W := w2) (Nat.le_refl w.heap.size) hbx2 HB2.out (⟨0, 0, 0, 0, 0, 0⟩ : S37)
            refine bodyPost_ret (results_ct rfl _ _ w.heap.size 37 _ (0, 0) _ rfl hf.1 Tryd.underlying37 rfl (by kernel_rfl)) rfl ?_
            exact ⟨by rw [HZ.out]; rfl, hf.2⟩
theorem logbook_readLine.calls (a0 : ByteArray) (r1 : Int) (r2 : Int) (r3 : Int) (r4 : Int) (r5 : Int) (r6 : Int) (r7 : Bool) (w : World) (hG : Glob w) (h : logbook_readLine.f a0 = some (r1, r2, r3, r4, r5, r6, r7)) :
    Calls Tryd.prog 28 #[.string a0] w fun e w' => e = .returned (.tuple #[.agg #[.int .i64 r1, .int .i64 r2, .int .i64 r3, .int .i64 r4, .int .i64 r5, .int .i64 r6], .bool r7]) ∧ Below w.heap.size w w' := by
  unfold logbook_readLine.f at h
  split at h
  · rename_i hh
    simp only [Option.some.injEq, Prod.mk.injEq] at h
    obtain ⟨rfl, rfl, rfl, rfl, rfl, rfl, rfl⟩ := h
    exact line_calls a0 w hG hh
  · cases h
end Go.Proofs.YtjhifhnjkpoofaaDoor.M
