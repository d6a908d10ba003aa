/-
-- tight (tight.py)
 leap.Parse by hand (printed by genp.py): the range over strings.SplitSeq.
-/
import Derived.Test.YtipbkcilpnlgnaaDoorExtP1
namespace Go.Proofs.YtipbkcilpnlgnaaDoor.M
open Go.RowKit Go.Shelf Go.Proofs.YtipbkcilpnlgnaaDoorG Go.Proofs.YtipbkcilpnlgnaaDoorW.PA Go.Proofs.YtipbkcilpnlgnaaDoorW.PB Go.Proofs.YtipbkcilpnlgnaaDoorW.PC
open List renaming setIfInBounds_toArray → sA, set_cons_zero → sB, set_cons_succ → sC
open Go.Proofs.YtipbkcilpnlgnaaDoor.RF
set_option linter.unusedVariables false
set_option linter.unusedSimpArgs false
attribute [local go_sem] Oper.semAt_some
def parse10T : Bool × List (List Nat × List Nat) := (true, [([], []), ([0], [0]), ([], []), ([2], [2]), ([3], [3]), ([], []), ([5], [5]), ([6], [6]), ([4, 7], [4, 7]), ([8], [8]), ([1, 9], [1, 9]), ([0, 1, 2, 3, 4, 5, 6, 7, 8, 9, 10], []), ([11, 10, 10, 0, 1, 2, 3, 4, 5, 6, 7, 8, 9, 10], [10, 11])])
def parse10B : List Nat := [0, 1, 0, 4, 12, 0, 32, 96, 252, 508, 1023, 2047, 4095]
theorem parse10t : rtab .any (opsOf Tryd.f18 10) = parse10T := by kernel_rfl
theorem parse10b : waitsOk parse10T.2 parse10B = true := by kernel_rfl
/-- What leap.Parse returns. -/
def ParPost (w : World) (r1 r2 : Int) (r3 : List S44) (r4 : Int) (e : Ending) (w' : World) : Prop :=
 ∃ v0 : Value, e = .returned (.tuple #[.agg #[.int .i64 r1, .int .i64 r2, v0], .int .i64 r4]) ∧ k44.R 44 w' w.heap.size (fun _ => True) v0 r3 ∧ Below w.heap.size w w'
set_option maxRecDepth 100000 in
/-- The function's way out, its results in two blocks of its own. -/
theorem par_out {w W9 : World} {D n0 : Nat} {r1 r2 r4 : Int} {r3 : List S44} {v0 : Value} {tmps : Array Value} (hn : n0 = w.heap.size) (hD : w.heap.size + 8 ≤ D) (hK : W9.heap[D]? = some (.deferred (some [])))
  (h2 : tmps.getD 2 undef = .pointer (some ⟨n0, 0, none⟩)) (h3 : tmps.getD 3 undef = .pointer (some ⟨n0 + 1, 0, none⟩))
  (k0 : W9.heap[n0]? = some (.cells #[.int .i64 r1, .int .i64 r2, v0] 24 (0, 0))) (k1 : W9.heap[n0 + 1]? = some (.cells #[.int .i64 r4] 27 (0, 0)))
  (hR : k44.R 44 W9 w.heap.size (fun k => w.heap.size + 8 ≤ k) v0 r3) (hb : Below w.heap.size w W9) :
  ∃ v, (results Tryd.f18 tmps).run Tryd.prog (W9.putObj D (.deferred none)) = .ok v (W9.putObj D (.deferred none)) ∧ ParPost w r1 r2 r3 r4 (.returned v) (W9.putObj D (.deferred none)) := by
 subst hn
 have hq0 : (W9.putObj D (.deferred none)).heap[w.heap.size]? = some (.cells #[.int .i64 r1, .int .i64 r2, v0] 24 (0, 0)) := (World.putObj_heap_other (by omega)).trans k0
 have hq1 : (W9.putObj D (.deferred none)).cell? ⟨w.heap.size + 1, 0, none⟩ = some (.int .i64 r4) := cell_of_heap (World.putObj_heap_other (by omega)) ((bcl k1 0).trans rfl)
 refine ⟨.tuple #[.agg #[.int .i64 r1, .int .i64 r2, v0], .int .i64 r4], ?_, v0, rfl, ?_, below_put hb (by omega)⟩
 ·have e2 : tmps[2]?.getD undef = .pointer (some ⟨w.heap.size, 0, none⟩) := by simpa using h2
  have e3 : tmps[3]?.getD undef = .pointer (some ⟨w.heap.size + 1, 0, none⟩) := by simpa using h3
  have c0 : (W9.putObj D (.deferred none)).cell? ⟨w.heap.size, 0, none⟩ = some (.int .i64 r1) := (bcl hq0 0).trans rfl
  have c1 : (W9.putObj D (.deferred none)).cell? ⟨w.heap.size, 1, none⟩ = some (.int .i64 r2) := (bcl hq0 1).trans rfl
  have c2 : (W9.putObj D (.deferred none)).cell? ⟨w.heap.size, 2, none⟩ = some v0 := (bcl hq0 2).trans rfl
  simp [results, Tryd.f18, e2, e3, asAddr, go_sem, c0, c1, c2, hq1]
 ·exact Kd.R_mono (Kd.R_step (Kd.R_bound hR) (fun k hk hlt => World.putObj_heap_other (fun e => by
   obtain ⟨_, _, _, q, _, cells, hc⟩ := hk
   rw [e, hK] at hc; cases hc))) (fun _ _ => trivial)
/-- A table and an error, in the function's own blocks. -/
theorem par_zero {w W W1 : World} {D : Nat} (p q : Int) (v : Value) (er : Int) (hD : w.heap.size + 8 ≤ D) (hK : W.heap[D]? = some (.deferred (some [])))
  (k0 : W.heap[w.heap.size]? = some (.cells #[.int .i64 0, .int .i64 0, .slice none 0 0] 24 (0, 0))) (k1 : W.heap[w.heap.size + 1]? = some (.cells #[.int .i64 0] 27 (0, 0))) (h6 : Below w.heap.size w W) (hb : Below W.heap.size W W1) :
  let W9 := (((W1.setCell ⟨w.heap.size, 0, none⟩ (.int .i64 p)).setCell ⟨w.heap.size, 1, none⟩ (.int .i64 q)).setCell ⟨w.heap.size, 2, none⟩ v).setCell ⟨w.heap.size + 1, 0, none⟩ (.int .i64 er)
  W9.heap[D]? = some (.deferred (some [])) ∧ W9.heap[w.heap.size]? = some (.cells #[.int .i64 p, .int .i64 q, v] 24 (0, 0)) ∧ W9.heap[w.heap.size + 1]? = some (.cells #[.int .i64 er] 27 (0, 0)) ∧ Below w.heap.size w W9 := by
 have l1 := blk_lt k1
 have l0 := blk_lt k0
 refine ⟨?_, ?_, ?_, ?_⟩
 ·exact (Below.heap_setCell _ _ _ _ (by simp only; omega)).trans ((Below.heap_setCell _ _ _ _ (by simp only; omega)).trans ((Below.heap_setCell _ _ _ _ (by simp only; omega)).trans ((Below.heap_setCell _ _ _ _ (by simp only; omega)).trans ((hb.block _ (Array.getElem?_eq_some_iff.1 hK).1).trans hK))))
 ·exact blk_far (blk_put (cs := #[.int .i64 p, .int .i64 q, .slice none 0 0]) (blk_put (cs := #[.int .i64 p, .int .i64 0, .slice none 0 0]) (blk_put (cs := #[.int .i64 0, .int .i64 0, .slice none 0 0]) ((hb.block _ l0).trans k0) 0 _ rfl) 1 _ rfl) 2 _ rfl) (by simp) _
 ·exact blk_put (cs := #[.int .i64 0]) (blk_far (blk_far (blk_far ((hb.block _ l1).trans k1) (by simp) _) (by simp) _) (by simp) _) 0 _ rfl
 ·exact pbs (pbs (pbs (pbs (h6.trans (hb.mono h6.size)) (Nat.le_refl _)) (Nat.le_refl _)) (Nat.le_refl _)) (by omega)
set_option maxHeartbeats 3200000 in
set_option maxRecDepth 100000 in
theorem parse_calls (s : ByteArray) (r1 r2 : Int) (r3 : List S44) (r4 : Int) (hs : s.size ≤ 1000000) (w : World) (hG : Glob w) (hf : leap_Parse.f s = some (r1, r2, r3, r4)) :
  Calls Tryd.prog 18 #[.string s] w fun e w' => ParPost w r1 r2 r3 r4 e w' := by
 have hff : (match readLines rd0 (wordsC 10 s.data.toList) with
  | none => some (0, 0, [], 19)
  | some r =>
   if r.kE = true ∧ r.kB = true then
    (leap_Check.f 1000 r.base r.exp r.ent).bind fun e => if e = 0 then some (r.base, r.exp, r.ent, 0) else some (0, 0, [], e)
   else some (0, 0, [], 11)) = some (r1, r2, r3, r4) := by
  unfold leap_Parse.f at hf
  rw [if_pos hs] at hf
  exact hf
 clear hf
 have HFF := Ad.mk hff
 clear hff
 have hu24 := Tryd.underlying24
 refine (callsIn_wide (n := 3)).1 ?_
 refine callsIn_of_wp_marks Tryd.func18 rfl trivial ?_ rfl
 simp only [Tryd.ntmps18, List.size_toArray, List.length_cons, List.length_nil, Nat.reduceAdd, Nat.reduceSub, Array.replicate_succ, Array.replicate_zero, List.push_toArray, List.append_toArray, List.nil_append, List.cons_append]
 gi_wp2_with (refine ⟨trivial, ?_⟩; gi_at_call 34; refine (callsIn_wide.2 (split34_calls _ _ _)).mono ?_; rintro e w' ⟨rfl, rfl⟩)
 obtain ⟨W0, hW0⟩ : ∃ W0, ((((((((w.alloc (.cells #[.int .i64 0, .int .i64 0, .slice none 0 0] 24)).alloc (.cells #[.int .i64 0] 27)).alloc (.cells #[.int .i64 0, .int .i64 0, .slice none 0 0] 24)).alloc (.cells #[.bool false] 4)).alloc (.cells #[.bool false] 4)).alloc (.cells #[.string s] 9)).alloc (.cells #[.string ⟨#[10]⟩] 9)).alloc (.cells #[.int .i64 0] 3)) = W0 := ⟨_, rfl⟩
 obtain ⟨hz0, hb0, hbl⟩ : W0.heap.size = w.heap.size + 8 ∧ Below w.heap.size w W0 ∧ ∀ (i : Nat) (o : Obj), [.cells #[.int .i64 0, .int .i64 0, .slice none 0 0] 24, .cells #[.int .i64 0] 27, .cells #[.int .i64 0, .int .i64 0, .slice none 0 0] 24, .cells #[.bool false] 4, .cells #[.bool false] 4, .cells #[.string s] 9, .cells #[.string ⟨#[10]⟩] 9, .cells #[.int .i64 0] 3][i]? = some o → W0.heap[w.heap.size + i]? = some o := by
  rw [← hW0]
  exact allocs [.cells #[.int .i64 0, .int .i64 0, .slice none 0 0] 24, .cells #[.int .i64 0] 27, .cells #[.int .i64 0, .int .i64 0, .slice none 0 0] 24, .cells #[.bool false] 4, .cells #[.bool false] 4, .cells #[.string s] 9, .cells #[.string ⟨#[10]⟩] 9, .cells #[.int .i64 0] 3] w
 rw [hW0]
 refine rangeC (F := Fence.wide) rfl (by decide) (gf := 56) (lb := #[.pointer (some ⟨w.heap.size + 5 + 1, 0, none⟩), .pointer (some ⟨w.heap.size + 5, 0, none⟩), .pointer (some ⟨w.heap.size + 5 + 2, 0, none⟩)]) ?hg trivial (enters_of Tryd.func56 (by kernel_rfl) rfl)
  (split_seq 2 (by decide) 10 s (w.heap.size + 5) W0 hs (hbl 5 _ rfl) (hbl 6 _ rfl) (hbl 7 _ rfl))
  (fun h k i h1 h2 => (k i h1 h2).trans (h i h1 h2)) (fun W l o' hl k h1 h2 => World.putObj_heap_other (by omega)) (by omega) (Below.refl _ _) (fun _ => rfl)
  (fun pre W => ParI w pre W) (fun c pre W => ParX w (wordsC 10 s.data.toList) c W)
  (fun pre A B h hk => h.kept (by rw [hz0] at hk; exact hk)) (fun c pre A B h hk => h.kept (by rw [hz0] at hk; exact hk))
  ⟨rd0, .slice none 0 0, rfl, Nat.le_refl _, hbl 0 _ rfl, hbl 1 _ rfl, hbl 2 _ rfl, hbl 3 _ rfl, hbl 4 _ rfl, Kd.R_nil _ _ _ _ _, hb0⟩
  (fun x => { tmps := #[.string s, undef, .pointer (some ⟨w.heap.size, 0, none⟩), .pointer (some ⟨w.heap.size + 1, 0, none⟩), .pointer (some ⟨w.heap.size + 2, 0, none⟩), .pointer (some ⟨w.heap.size + 3, 0, none⟩), .pointer (some ⟨w.heap.size + 4, 0, none⟩), .string (strOf x), undef, undef, undef, .string s, .func (.func 56) #[] #[.pointer (some ⟨w.heap.size + 5 + 1, 0, none⟩), .pointer (some ⟨w.heap.size + 5, 0, none⟩), .pointer (some ⟨w.heap.size + 5 + 2, 0, none⟩)], .string (strOf x), undef, undef, undef, undef, undef, undef, undef, undef, undef, undef, undef, undef, undef, undef, undef, undef, undef, undef, undef, undef, undef, undef, undef, undef, undef, undef, undef, undef, undef, undef, undef, undef, undef, undef, undef, undef, undef, undef, undef, undef, undef, undef, undef, undef, undef, undef, undef, undef, undef, undef, undef, undef, undef, undef, undef, undef, undef, undef, undef, undef, undef, undef, undef, undef, undef, undef, undef, undef, undef, undef, undef, undef, undef, undef, undef, undef, undef, undef, undef, undef, undef, undef, undef, undef, undef, undef, undef, undef], defers := [] }) ?assign ?body ?done ?stop
 case hg => first | rfl | (go_simp; done) | (simp [go_sem]; done)
 case assign =>
  intro l x W K hK
  gi_wp2
  exact hK
 case body =>
  rintro l pre x rest W hw ⟨r, vv, h1, h2, k0, k1, k2, k3, k4, h5, h6⟩ hlt
  rw [hz0] at hlt
  have hxl : x.length ≤ 1000000 := by
   have := wordsC_len 10 s.data.toList x (by rw [hw]; simp)
   rw [Array.length_toList] at this
   exact Nat.le_trans this hs
  have hpl : pre.length ≤ 1000001 := by
   have h3 := wordsC_count 10 s.data.toList
   have h4 : s.data.toList.length = s.size := Array.length_toList
   rw [hw, h4, List.length_append] at h3
   omega
  have hzx : (strOf x).size = x.length := by simp [strOf, ByteArray.size]
  have HGW := Ad.mk (Glob.below hG h6)
  obtain ⟨Av, cv, rfl⟩ : ∃ A c, vv = .slice A r.ent.length c := Kd.R_slice h5
  obtain ⟨vv, hvv⟩ : ∃ vv, vv = Value.slice Av r.ent.length cv := ⟨_, rfl⟩
  rw [← hvv] at k2 h5
  have HW := Ad.mk hw
  have HRD := Ad.mk h1
  have HLE := Ad.mk h2
  have HPL := Ad.mk hpl
  have K0 := Ad.mk k0
  have K1 := Ad.mk k1
  have K2 := Ad.mk k2
  have K3 := Ad.mk k3
  have K4 := Ad.mk k4
  have H5 := Ad.mk h5
  have H6 := Ad.mk h6
  have HL := Ad.mk hlt
  have HVV := Ad.mk hvv
  have HXL := Ad.mk hxl
  clear hw h1 h2 k0 k1 k2 k3 k4 h5 h6 hlt hvv hpl hG
  have hsub := sub_eq x
  have hbk : ∀ (hx5 : 2 < (strOf x).size) w1, Calls Tryd.prog 35 #[.int .u8 ((strOf x)[2].toNat : Int)] w1 fun e w' => e = .returned (.bool (blankB (x.getD 2 0))) ∧ w' = w1 := fun hx5 w1 => by
   have hgd : x.getD 2 0 = (strOf x)[2] := by
    have : x[2]? = some x[2] := List.getElem?_eq_getElem (by omega)
    rw [List.getD_eq_getElem?_getD, this]
    rfl
   have := blank_calls ((strOf x)[2].toNat : Int) w1
   rw [← blankB_eq] at this
   rw [hgd]
   exact this
  by_cases HN1 : x.take 2 = [35, 64] ∧ x.length > 2 ∧ blankB (x.getD 2 0) = true
  ·have c1 := HN1.2.1
   have hx1 : (2 : Int) < ((strOf x).size : Int) := by omega
   have hx2 : (2 : Int) ≤ ((strOf x).size : Int) := by omega
   have hx3 : decide ((2 : Int) < ((strOf x).size : Int)) = true := decide_eq_true hx1
   have hx4 : decide (((strOf x).size : Int) > 2) = true := decide_eq_true hx1
   have hx5 : 2 < (strOf x).size := by omega
   have HBL : ∀ w1, Calls Tryd.prog 35 #[.int .u8 ((strOf x)[2].toNat : Int)] w1 fun e w' => e = .returned (.bool true) ∧ w' = w1 := fun w1 => by rw [← HN1.2.2]; exact hbk hx5 w1
   have he1 : (((strOf x).extract 0 2).toList == ([35, 64] : List UInt8)) = true := by rw [hsub]; exact beq_iff_eq.mpr HN1.1
   clear hsub hbk
   have hst : stepLine r x = match headNum (x.drop 2) r.kE with | some n => some { r with exp := n, kE := true } | none => none := by
    unfold stepLine
    rw [if_pos HN1]
    cases headNum (x.drop 2) r.kE <;> rfl
   clear HN1
   have hz : (strOf x).size = x.length := by simp [strOf, ByteArray.size]
   have hhead := head_calls ((strOf x).extract 2 (strOf x).size) (by rw [ByteArray.size_extract]; omega) (w.heap.size + 2) 1 (w.heap.size + 3) r.exp r.kE W HGW.out ((bcl K2.out 1).trans rfl) (bfz K2.out 1) ((bcl K3.out 0).trans rfl) (bfz K3.out 0) (by have := HL.out; omega) (by have := HL.out; omega) (by omega)
   clear hz
   rw [drop_eq] at hhead
   cases hl : headNum (x.drop 2) r.kE with
   | none =>
    rw [hl] at hst
    have HST := Ad.mk hst
    have HHD : Calls Tryd.prog 36 #[.string ((strOf x).extract 2 (strOf x).size), .pointer (some ⟨w.heap.size + 2, 1, none⟩), .pointer (some ⟨w.heap.size + 3, 0, none⟩)] W fun e w' => e = .returned (.bool false) ∧ Below W.heap.size W w' := hhead.mono (fun e w' h => by
     rcases h with ⟨_, h1, h2⟩ | ⟨n, w1, h1, _⟩
     ·exact ⟨h1, h2⟩
     ·rw [hl] at h1; cases h1)
    clear hst hl hhead
    gi_wp2_with (first | (refine ⟨trivial, ?_⟩; gi_at_call 35; refine (CallsIn.inRound l (callsIn_wide.2 (HBL _))).mono ?_; rintro e w0 ⟨rfl, hw0⟩; rw [hw0]; clear hw0) | (refine ⟨trivial, ?_⟩; gi_at_call 36; refine (CallsIn.inRound l (callsIn_wide.2 (HHD))).mono ?_; rintro e w2 ⟨rfl, hb2⟩; have HB2 := Ad.mk hb2; clear hb2; obtain ⟨d0_0, d0_1, d0_2, d1_0, d2_0, d2_1, d2_2, d3_0, d4_0, g0_0, g0_1, g0_2, g1_0, g2_0, g2_1, g2_2, g3_0, g4_0, E0, E1, E2, E3, E4⟩ := par_cells HB2.out HL.out K0.out K1.out K2.out K3.out K4.out) | (refine ⟨trivial, ?_⟩))
    exact par_fail hz0 HW.out HRD.out HST.out HL.out K0.out K1.out H6.out HB2.out
   | some n =>
    rw [hl] at hst
    have HST := Ad.mk hst
    have HHD : Calls Tryd.prog 36 #[.string ((strOf x).extract 2 (strOf x).size), .pointer (some ⟨w.heap.size + 2, 1, none⟩), .pointer (some ⟨w.heap.size + 3, 0, none⟩)] W fun e w' => e = .returned (.bool true) ∧ ∃ w1, Below W.heap.size W w1 ∧ w' = (w1.setCell ⟨w.heap.size + 2, 1, none⟩ (.int .i64 n)).setCell ⟨w.heap.size + 3, 0, none⟩ (.bool true) := hhead.mono (fun e w' h => by
     rcases h with ⟨h1, _⟩ | ⟨n', w1, h1, h2, h3, h4⟩
     ·rw [hl] at h1; cases h1
     ·rw [hl] at h1; cases h1; exact ⟨h2, w1, h3, h4⟩)
    clear hst hl hhead
    gi_wp2_with (first | (refine ⟨trivial, ?_⟩; gi_at_call 35; refine (CallsIn.inRound l (callsIn_wide.2 (HBL _))).mono ?_; rintro e w0 ⟨rfl, hw0⟩; rw [hw0]; clear hw0) | (refine ⟨trivial, ?_⟩; gi_at_call 36; refine (CallsIn.inRound l (callsIn_wide.2 (HHD))).mono ?_; rintro e w2 ⟨rfl, w1, hb1, rfl⟩; have HB1 := Ad.mk hb1; clear hb1) | (refine ⟨trivial, ?_⟩))
    have hbk : ∀ k, k < w.heap.size + 8 → w1.heap[k]? = W.heap[k]? := fun k hk => HB1.out.block k (Nat.lt_of_lt_of_le hk HL.out)
    refine par_next hz0 HRD.out HST.out (by have := HLE.out; simp only; omega) (blk_far (blk_far ((hbk _ (by omega)).trans K0.out) (by simp) _) (by simp) _) (blk_far (blk_far ((hbk _ (by omega)).trans K1.out) (by simp) _) (by simp) _) (blk_far (blk_put (cs := #[.int .i64 r.base, .int .i64 r.exp, vv]) ((hbk _ (by omega)).trans K2.out) 1 _ rfl) (by simp) _) (blk_put (cs := #[.bool r.kE]) (blk_far ((hbk _ (by omega)).trans K3.out) (by simp) _) 0 _ rfl) (blk_far (blk_far ((hbk _ (by omega)).trans K4.out) (by simp) _) (by simp) _) (Kd.R_far (Kd.R_far (Kd.R_below H5.out HB1.out) (fun k hk => by simp only; omega) _) (fun k hk => by simp only; omega) _) (pbs (pbs (H6.out.trans (HB1.out.mono (by have := HL.out; omega))) (by omega)) (by omega)) ((Hi.below HB1.out (Nat.le_refl _)).trans ((Hi.others (KeepsOthers.setCell _ _ _)).trans (Hi.others (KeepsOthers.setCell _ _ _)))) (fun k h1 h2 => (Below.heap_setCell _ _ _ _ (by simp only; omega)).trans ((Below.heap_setCell _ _ _ _ (by simp only; omega)).trans (hbk k h2)))
  by_cases HN2 : x.take 2 = [35, 61] ∧ x.length > 2 ∧ blankB (x.getD 2 0) = true
  ·have c1 := HN2.2.1
   have hx1 : (2 : Int) < ((strOf x).size : Int) := by omega
   have hx2 : (2 : Int) ≤ ((strOf x).size : Int) := by omega
   have hx3 : decide ((2 : Int) < ((strOf x).size : Int)) = true := decide_eq_true hx1
   have hx4 : decide (((strOf x).size : Int) > 2) = true := decide_eq_true hx1
   have hx5 : 2 < (strOf x).size := by omega
   have HBL : ∀ w1, Calls Tryd.prog 35 #[.int .u8 ((strOf x)[2].toNat : Int)] w1 fun e w' => e = .returned (.bool true) ∧ w' = w1 := fun w1 => by rw [← HN2.2.2]; exact hbk hx5 w1
   have he1 : (((strOf x).extract 0 2).toList == ([35, 64] : List UInt8)) = false := by rw [hsub, HN2.1]; rfl
   have he2 : (((strOf x).extract 0 2).toList == ([35, 61] : List UInt8)) = true := by rw [hsub]; exact beq_iff_eq.mpr HN2.1
   clear hsub hbk
   have hst : stepLine r x = match headNum (x.drop 2) r.kB with | some n => some { r with base := n, kB := true } | none => none := by
    unfold stepLine
    rw [if_neg HN1, if_pos HN2]
    cases headNum (x.drop 2) r.kB <;> rfl
   clear HN1 HN2
   have hz : (strOf x).size = x.length := by simp [strOf, ByteArray.size]
   have hhead := head_calls ((strOf x).extract 2 (strOf x).size) (by rw [ByteArray.size_extract]; omega) (w.heap.size + 2) 0 (w.heap.size + 4) r.base r.kB W HGW.out ((bcl K2.out 0).trans rfl) (bfz K2.out 0) ((bcl K4.out 0).trans rfl) (bfz K4.out 0) (by have := HL.out; omega) (by have := HL.out; omega) (by omega)
   clear hz
   rw [drop_eq] at hhead
   cases hl : headNum (x.drop 2) r.kB with
   | none =>
    rw [hl] at hst
    have HST := Ad.mk hst
    have HHD : Calls Tryd.prog 36 #[.string ((strOf x).extract 2 (strOf x).size), .pointer (some ⟨w.heap.size + 2, 0, none⟩), .pointer (some ⟨w.heap.size + 4, 0, none⟩)] W fun e w' => e = .returned (.bool false) ∧ Below W.heap.size W w' := hhead.mono (fun e w' h => by
     rcases h with ⟨_, h1, h2⟩ | ⟨n, w1, h1, _⟩
     ·exact ⟨h1, h2⟩
     ·rw [hl] at h1; cases h1)
    clear hst hl hhead
    gi_wp2_with (first | (refine ⟨trivial, ?_⟩; gi_at_call 35; refine (CallsIn.inRound l (callsIn_wide.2 (HBL _))).mono ?_; rintro e w0 ⟨rfl, hw0⟩; rw [hw0]; clear hw0) | (refine ⟨trivial, ?_⟩; gi_at_call 36; refine (CallsIn.inRound l (callsIn_wide.2 (HHD))).mono ?_; rintro e w2 ⟨rfl, hb2⟩; have HB2 := Ad.mk hb2; clear hb2; obtain ⟨d0_0, d0_1, d0_2, d1_0, d2_0, d2_1, d2_2, d3_0, d4_0, g0_0, g0_1, g0_2, g1_0, g2_0, g2_1, g2_2, g3_0, g4_0, E0, E1, E2, E3, E4⟩ := par_cells HB2.out HL.out K0.out K1.out K2.out K3.out K4.out) | (refine ⟨trivial, ?_⟩))
    exact par_fail hz0 HW.out HRD.out HST.out HL.out K0.out K1.out H6.out HB2.out
   | some n =>
    rw [hl] at hst
    have HST := Ad.mk hst
    have HHD : Calls Tryd.prog 36 #[.string ((strOf x).extract 2 (strOf x).size), .pointer (some ⟨w.heap.size + 2, 0, none⟩), .pointer (some ⟨w.heap.size + 4, 0, none⟩)] W fun e w' => e = .returned (.bool true) ∧ ∃ w1, Below W.heap.size W w1 ∧ w' = (w1.setCell ⟨w.heap.size + 2, 0, none⟩ (.int .i64 n)).setCell ⟨w.heap.size + 4, 0, none⟩ (.bool true) := hhead.mono (fun e w' h => by
     rcases h with ⟨h1, _⟩ | ⟨n', w1, h1, h2, h3, h4⟩
     ·rw [hl] at h1; cases h1
     ·rw [hl] at h1; cases h1; exact ⟨h2, w1, h3, h4⟩)
    clear hst hl hhead
    gi_wp2_with (first | (refine ⟨trivial, ?_⟩; gi_at_call 35; refine (CallsIn.inRound l (callsIn_wide.2 (HBL _))).mono ?_; rintro e w0 ⟨rfl, hw0⟩; rw [hw0]; clear hw0) | (refine ⟨trivial, ?_⟩; gi_at_call 36; refine (CallsIn.inRound l (callsIn_wide.2 (HHD))).mono ?_; rintro e w2 ⟨rfl, w1, hb1, rfl⟩; have HB1 := Ad.mk hb1; clear hb1) | (refine ⟨trivial, ?_⟩))
    have hbk : ∀ k, k < w.heap.size + 8 → w1.heap[k]? = W.heap[k]? := fun k hk => HB1.out.block k (Nat.lt_of_lt_of_le hk HL.out)
    refine par_next hz0 HRD.out HST.out (by have := HLE.out; simp only; omega) (blk_far (blk_far ((hbk _ (by omega)).trans K0.out) (by simp) _) (by simp) _) (blk_far (blk_far ((hbk _ (by omega)).trans K1.out) (by simp) _) (by simp) _) (blk_far (blk_put (cs := #[.int .i64 r.base, .int .i64 r.exp, vv]) ((hbk _ (by omega)).trans K2.out) 0 _ rfl) (by simp) _) (blk_far (blk_far ((hbk _ (by omega)).trans K3.out) (by simp) _) (by simp) _) (blk_put (cs := #[.bool r.kB]) (blk_far ((hbk _ (by omega)).trans K4.out) (by simp) _) 0 _ rfl) (Kd.R_far (Kd.R_far (Kd.R_below H5.out HB1.out) (fun k hk => by simp only; omega) _) (fun k hk => by simp only; omega) _) (pbs (pbs (H6.out.trans (HB1.out.mono (by have := HL.out; omega))) (by omega)) (by omega)) ((Hi.below HB1.out (Nat.le_refl _)).trans ((Hi.others (KeepsOthers.setCell _ _ _)).trans (Hi.others (KeepsOthers.setCell _ _ _)))) (fun k h1 h2 => (Below.heap_setCell _ _ _ _ (by simp only; omega)).trans ((Below.heap_setCell _ _ _ _ (by simp only; omega)).trans (hbk k h2)))
  have hway : (((strOf x).size : Int) ≤ 2 ∧ decide ((2 : Int) < ((strOf x).size : Int)) = false ∧ decide (((strOf x).size : Int) > 2) = false) ∨
    (∃ _ : 2 < (strOf x).size, (2 : Int) < ((strOf x).size : Int) ∧ (2 : Int) ≤ ((strOf x).size : Int) ∧ decide ((2 : Int) < ((strOf x).size : Int)) = true ∧ decide (((strOf x).size : Int) > 2) = true ∧ ∃ q1 q2 : Bool, (((strOf x).extract 0 2).toList == ([35, 64] : List UInt8)) = q1 ∧ (((strOf x).extract 0 2).toList == ([35, 61] : List UInt8)) = q2 ∧
     ((q1 = false ∧ q2 = false) ∨ (((q1 = true ∧ q2 = false) ∨ (q1 = false ∧ q2 = true)) ∧ ∀ w1, Calls Tryd.prog 35 #[.int .u8 ((strOf x)[2].toNat : Int)] w1 fun e w' => e = .returned (.bool false) ∧ w' = w1))) := by
   by_cases c1 : 2 < x.length
   ·refine .inr ⟨by omega, by omega, by omega, decide_eq_true (by omega), decide_eq_true (by omega), _, _, rfl, rfl, ?_⟩
    rw [hsub]
    cases hbb : blankB (x.getD 2 0) with
    | true =>
     have e1 : x.take 2 ≠ [35, 64] := fun h => HN1 ⟨h, c1, hbb⟩
     have e2 : x.take 2 ≠ [35, 61] := fun h => HN2 ⟨h, c1, hbb⟩
     exact .inl ⟨beq_eq_false_iff_ne.mpr e1, beq_eq_false_iff_ne.mpr e2⟩
    | false =>
     have hb := hbk (by omega)
     rw [hbb] at hb
     by_cases e1 : x.take 2 = [35, 64]
     ·exact .inr ⟨.inl ⟨beq_iff_eq.mpr e1, by rw [e1]; rfl⟩, hb⟩
     ·by_cases e2 : x.take 2 = [35, 61]
      ·exact .inr ⟨.inr ⟨beq_eq_false_iff_ne.mpr e1, beq_iff_eq.mpr e2⟩, hb⟩
      ·exact .inl ⟨beq_eq_false_iff_ne.mpr e1, beq_eq_false_iff_ne.mpr e2⟩
   ·exact .inl ⟨by omega, decide_eq_false (by omega), decide_eq_false (by omega)⟩
  clear hsub hbk
  rcases hway with ⟨hx1, hx3, hx4⟩ | ⟨hx5, hx1, hx2, hx3, hx4, q1, q2, he1, he2, ⟨rfl, rfl⟩ | ⟨⟨rfl, rfl⟩ | ⟨rfl, rfl⟩, HBL⟩⟩
  all_goals
   have hst : stepLine r x = match lineNums (cutB 35 x).1 with | some [] => some r | some [a, b] => some { r with ent := r.ent ++ [⟨a, b⟩] } | _ => none := by
    unfold stepLine
    rw [if_neg HN1, if_neg HN2]
    rfl
   clear HN1 HN2
   have hy := cutB_len 35 x
   have hcf := cut_f x (by omega)
   generalize (cutB 35 x).1 = y at *
   generalize strOf (cutB 35 x).2.1 = y2 at *
   generalize (cutB 35 x).2.2 = y3 at *
   have HCUT : ∀ w1, Glob w1 → Calls Tryd.prog 37 #[.string (strOf x), .string ⟨#[35]⟩] w1 fun e w' => e = .returned (.tuple #[.string (strOf y), .string y2, .bool y3]) ∧ Below w1.heap.size w1 w' := fun w1 hg => strings_Cut.calls _ _ _ _ _ w1 hg hcf
   have hz : (strOf y).size = y.length := by simp [strOf, ByteArray.size]
   have hnum := fun w1 (hg : Glob w1) => numbers_calls (strOf y) (by omega) w1 hg
   rw [show (strOf y).data.toList = y from rfl] at hnum
   unfold numOut at hnum
   clear hcf hz hy
   cases hl : lineNums y with
   | none =>
    rw [hl] at hst hnum
    have HST := Ad.mk hst
    have HNUM : ∀ w1, Glob w1 → Calls Tryd.prog 38 #[.string (strOf y)] w1 fun e w' => ∃ v0 : Value, e = .returned (.tuple #[v0, .bool false]) ∧ (Kd.int .i64).R 3 w' w1.heap.size (fun _ => True) v0 [] ∧ Below w1.heap.size w1 w' := hnum
    clear hst hl hnum
    gi_wp2_with (first | (refine ⟨trivial, ?_⟩; gi_at_call 35; refine (CallsIn.inRound l (callsIn_wide.2 (HBL _))).mono ?_; rintro e w0 ⟨rfl, hw0⟩; rw [hw0]; clear hw0) | (refine ⟨trivial, ?_⟩; gi_at_call 37; refine (CallsIn.inRound l (callsIn_wide.2 (HCUT _ HGW.out))).mono ?_; rintro e w1 ⟨rfl, hb1⟩; have HB1 := Ad.mk hb1; clear hb1) | (refine ⟨trivial, ?_⟩; gi_at_call 38; refine (CallsIn.inRound l (callsIn_wide.2 (HNUM _ (HGW.out.below HB1.out)))).mono ?_; rintro e w2 ⟨v0, rfl, hR, hb2⟩; obtain ⟨Aq, cq, rfl⟩ := Kd.R_slice hR; clear hR; have HB2 := Ad.mk (pbt HB1.out hb2); clear hb2; obtain ⟨d0_0, d0_1, d0_2, d1_0, d2_0, d2_1, d2_2, d3_0, d4_0, g0_0, g0_1, g0_2, g1_0, g2_0, g2_1, g2_2, g3_0, g4_0, E0, E1, E2, E3, E4⟩ := par_cells HB2.out HL.out K0.out K1.out K2.out K3.out K4.out) | (refine ⟨trivial, ?_⟩))
    exact par_fail hz0 HW.out HRD.out HST.out HL.out K0.out K1.out H6.out HB2.out
   | some q =>
    match q, hl with
    | [], hl =>
     rw [hl] at hst hnum
     have HST := Ad.mk hst
     have HNUM : ∀ w1, Glob w1 → Calls Tryd.prog 38 #[.string (strOf y)] w1 fun e w' => ∃ v0 : Value, e = .returned (.tuple #[v0, .bool true]) ∧ (Kd.int .i64).R 3 w' w1.heap.size (fun _ => True) v0 [] ∧ Below w1.heap.size w1 w' := hnum
     clear hst hl hnum
     gi_wp2_with (first | (refine ⟨trivial, ?_⟩; gi_at_call 35; refine (CallsIn.inRound l (callsIn_wide.2 (HBL _))).mono ?_; rintro e w0 ⟨rfl, hw0⟩; rw [hw0]; clear hw0) | (refine ⟨trivial, ?_⟩; gi_at_call 37; refine (CallsIn.inRound l (callsIn_wide.2 (HCUT _ HGW.out))).mono ?_; rintro e w1 ⟨rfl, hb1⟩; have HB1 := Ad.mk hb1; clear hb1) | (refine ⟨trivial, ?_⟩; gi_at_call 38; refine (CallsIn.inRound l (callsIn_wide.2 (HNUM _ (HGW.out.below HB1.out)))).mono ?_; rintro e w2 ⟨v0, rfl, hR, hb2⟩; obtain ⟨Aq, cq, rfl⟩ := Kd.R_slice hR; clear hR; have HB2 := Ad.mk (pbt HB1.out hb2); clear hb2; obtain ⟨d0_0, d0_1, d0_2, d1_0, d2_0, d2_1, d2_2, d3_0, d4_0, g0_0, g0_1, g0_2, g1_0, g2_0, g2_1, g2_2, g3_0, g4_0, E0, E1, E2, E3, E4⟩ := par_cells HB2.out HL.out K0.out K1.out K2.out K3.out K4.out) | (refine ⟨trivial, ?_⟩))
     exact par_next hz0 HRD.out HST.out (by have := HLE.out; omega) E0.out E1.out E2.out E3.out E4.out (Kd.R_below H5.out HB2.out) (H6.out.trans (HB2.out.mono (by have := HL.out; omega))) (Hi.below HB2.out (Nat.le_refl _)) (fun k h1 h2 => HB2.out.block k (by have := HL.out; omega))
    | [n], hl =>
     rw [hl] at hst hnum
     have HST := Ad.mk hst
     have HNUM : ∀ w1, Glob w1 → Calls Tryd.prog 38 #[.string (strOf y)] w1 fun e w' => ∃ v0 : Value, e = .returned (.tuple #[v0, .bool true]) ∧ (Kd.int .i64).R 3 w' w1.heap.size (fun _ => True) v0 [n] ∧ Below w1.heap.size w1 w' := hnum
     clear hst hl hnum
     gi_wp2_with (first | (refine ⟨trivial, ?_⟩; gi_at_call 35; refine (CallsIn.inRound l (callsIn_wide.2 (HBL _))).mono ?_; rintro e w0 ⟨rfl, hw0⟩; rw [hw0]; clear hw0) | (refine ⟨trivial, ?_⟩; gi_at_call 37; refine (CallsIn.inRound l (callsIn_wide.2 (HCUT _ HGW.out))).mono ?_; rintro e w1 ⟨rfl, hb1⟩; have HB1 := Ad.mk hb1; clear hb1) | (refine ⟨trivial, ?_⟩; gi_at_call 38; refine (CallsIn.inRound l (callsIn_wide.2 (HNUM _ (HGW.out.below HB1.out)))).mono ?_; rintro e w2 ⟨v0, rfl, hR, hb2⟩; obtain ⟨Aq, cq, rfl⟩ := Kd.R_slice hR; clear hR; have HB2 := Ad.mk (pbt HB1.out hb2); clear hb2; obtain ⟨d0_0, d0_1, d0_2, d1_0, d2_0, d2_1, d2_2, d3_0, d4_0, g0_0, g0_1, g0_2, g1_0, g2_0, g2_1, g2_2, g3_0, g4_0, E0, E1, E2, E3, E4⟩ := par_cells HB2.out HL.out K0.out K1.out K2.out K3.out K4.out) | (refine ⟨trivial, ?_⟩))
     exact par_fail hz0 HW.out HRD.out HST.out HL.out K0.out K1.out H6.out HB2.out
    | [n, m], hl =>
     rw [hl] at hst hnum
     have HST := Ad.mk hst
     have HNUM : ∀ w1, Glob w1 → Calls Tryd.prog 38 #[.string (strOf y)] w1 fun e w' => ∃ v0 : Value, e = .returned (.tuple #[v0, .bool true]) ∧ (Kd.int .i64).R 3 w' w1.heap.size (fun _ => True) v0 [n, m] ∧ Below w1.heap.size w1 w' := hnum
     clear hst hl hnum
     gi_wp2_with (first | (refine ⟨trivial, ?_⟩; gi_at_call 35; refine (CallsIn.inRound l (callsIn_wide.2 (HBL _))).mono ?_; rintro e w0 ⟨rfl, hw0⟩; rw [hw0]; clear hw0) | (refine ⟨trivial, ?_⟩; gi_at_call 37; refine (CallsIn.inRound l (callsIn_wide.2 (HCUT _ HGW.out))).mono ?_; rintro e w1 ⟨rfl, hb1⟩; have HB1 := Ad.mk hb1; clear hb1) | (refine ⟨trivial, ?_⟩; gi_at_call 38; refine (CallsIn.inRound l (callsIn_wide.2 (HNUM _ (HGW.out.below HB1.out)))).mono ?_; rintro e w2 ⟨v0, rfl, hR, hb2⟩; obtain ⟨gq, cq, rfl, hgq, -⟩ := Kd.R_form hR (by simp); have q0 : w2.cell? ⟨gq, 0, none⟩ = some (.int .i64 n) := (Kd.R_cell 0 hR 0 (by decide) (by simp)).1; have q1 : w2.cell? ⟨gq, 1, none⟩ = some (.int .i64 m) := (Kd.R_cell 0 hR 1 (by decide) (by simp)).1; clear hR; have HB2 := Ad.mk (pbt HB1.out hb2); clear hb2; obtain ⟨d0_0, d0_1, d0_2, d1_0, d2_0, d2_1, d2_2, d3_0, d4_0, g0_0, g0_1, g0_2, g1_0, g2_0, g2_1, g2_2, g3_0, g4_0, E0, E1, E2, E3, E4⟩ := par_cells HB2.out HL.out K0.out K1.out K2.out K3.out K4.out) | (refine ⟨trivial, ?_⟩))
     refine startIn_ (n := 13) (S := fun w' => Below w2.drew.heap.size w2.drew w') (ds := [10, 12]) #[false, false, false, false, false, false, false, false, false, false, false, false, false] (by kernel_rfl) rfl rfl (by kernel_rfl) (by rintro ⟨_, _, h⟩; exact h) (Below.refl _ _) (fun hHeld => ?_)
     refine with_tabW parse10t parse10b (fun HT_ HW_ => ?_)
     have hO2 := Kd.R_below (Kd.R_below H5.out HB2.out) (pb1 (Below.refl w2.heap.size w2))
     have HB3 := Ad.mk (pb1 HB2.out)
     have c22 : w2.drew.cell? ⟨w.heap.size + 2, 2, none⟩ = some vv := d2_2
     have c30 : w2.drew.cell? ⟨gq, 0, none⟩ = some (.int .i64 n) := q0
     have c31 : w2.drew.cell? ⟨gq, 1, none⟩ = some (.int .i64 m) := q1
     have HO2 := Ad.mk hO2
     clear hO2 q0 q1
     clear d0_0 d0_1 d0_2 d1_0 d2_0 d2_1 d2_2 d3_0 d4_0 g0_0 g0_1 g0_2 g1_0 g2_0 g2_1 g2_2 g3_0 g4_0
     generalize w2.drew = W2 at *
     refine pure_ (i := 0) (N := some 31) (v := ?_) (a' := ?_) #[true, false, false, false, false, false, false, false, false, false, false, false, false] rfl rfl (any_of HT_.out (by kernel_rfl)) (fun _ _ _ h => h) (Or.inl ⟨by rfl, ?_⟩) ?_ ?_
     rotate_left
     ·intro w'
      go_simp
      with_reducible rfl
     rotate_left
     ·simp only [Act.put, sA, sB, sC, i64_w, i32_w]
      rfl
     refine take_ (i := 1) (N := some 32) (v := ?_) (a' := ?_) #[true, true, false, false, false, false, false, false, false, false, false, false, false] rfl rfl (take_ofW HT_.out HW_.out (by kernel_rfl)) (fun _ _ _ h => h) (Or.inl ⟨by rfl, ?_⟩) hHeld ?_ ?_
     rotate_left
     ·rintro w' hS
      have s0 := (hS.cell (World.block_lt_of_cell? _ _ c22)).trans c22
      go_simp
      with_reducible rfl
     rotate_left
     ·simp only [Act.put, sA, sB, sC, i64_w, i32_w]
      rfl
     refine pure_ (i := 2) (N := some 33) (v := ?_) (a' := ?_) #[true, true, true, false, false, false, false, false, false, false, false, false, false] rfl rfl (any_of HT_.out (by kernel_rfl)) (fun _ _ _ h => h) (Or.inl ⟨by rfl, ?_⟩) ?_ ?_
     rotate_left
     ·intro w'
      go_simp
      with_reducible rfl
     rotate_left
     ·simp only [Act.put, sA, sB, sC, i64_w, i32_w]
      rfl
     refine pure_ (i := 3) (N := some 34) (v := ?_) (a' := ?_) #[true, true, true, true, false, false, false, false, false, false, false, false, false] rfl rfl (any_of HT_.out (by kernel_rfl)) (fun _ _ _ h => h) (Or.inl ⟨by rfl, ?_⟩) ?_ ?_
     rotate_left
     ·intro w'
      go_simp
      with_reducible rfl
     rotate_left
     ·simp only [Act.put, sA, sB, sC, i64_w, i32_w]
      rfl
     refine take_ (i := 4) (N := some 35) (v := ?_) (a' := ?_) #[true, true, true, true, true, false, false, false, false, false, false, false, false] rfl rfl (take_ofW HT_.out HW_.out (by kernel_rfl)) (fun _ _ _ h => h) (Or.inl ⟨by rfl, ?_⟩) hHeld ?_ ?_
     rotate_left
     ·rintro w' hS
      have s0 := (hS.cell (World.block_lt_of_cell? _ _ c30)).trans c30
      go_simp
      with_reducible rfl
     rotate_left
     ·simp only [Act.put, sA, sB, sC, i64_w, i32_w]
      rfl
     refine pure_ (i := 5) (N := some 36) (v := ?_) (a' := ?_) #[true, true, true, true, true, true, false, false, false, false, false, false, false] rfl rfl (any_of HT_.out (by kernel_rfl)) (fun _ _ _ h => h) (Or.inl ⟨by rfl, ?_⟩) ?_ ?_
     rotate_left
     ·intro w'
      go_simp
      with_reducible rfl
     rotate_left
     ·simp only [Act.put, sA, sB, sC, i64_w, i32_w]
      rfl
     refine pure_ (i := 6) (N := some 37) (v := ?_) (a' := ?_) #[true, true, true, true, true, true, true, false, false, false, false, false, false] rfl rfl (any_of HT_.out (by kernel_rfl)) (fun _ _ _ h => h) (Or.inl ⟨by rfl, ?_⟩) ?_ ?_
     rotate_left
     ·intro w'
      go_simp
      with_reducible rfl
     rotate_left
     ·simp only [Act.put, sA, sB, sC, i64_w, i32_w]
      rfl
     refine take_ (i := 7) (N := some 38) (v := ?_) (a' := ?_) #[true, true, true, true, true, true, true, true, false, false, false, false, false] rfl rfl (take_ofW HT_.out HW_.out (by kernel_rfl)) (fun _ _ _ h => h) (Or.inl ⟨by rfl, ?_⟩) hHeld ?_ ?_
     rotate_left
     ·rintro w' hS
      have s0 := (hS.cell (World.block_lt_of_cell? _ _ c31)).trans c31
      go_simp
      with_reducible rfl
     rotate_left
     ·simp only [Act.put, sA, sB, sC, i64_w, i32_w]
      rfl
     refine pure_ (i := 8) (N := some 39) (v := ?_) (a' := ?_) #[true, true, true, true, true, true, true, true, true, false, false, false, false] rfl rfl (any_of HT_.out (by kernel_rfl)) (fun _ _ _ h => h) (Or.inl ⟨by rfl, ?_⟩) ?_ ?_
     rotate_left
     ·intro w'
      go_simp
      with_reducible rfl
     rotate_left
     ·simp only [Act.put, sA, sB, sC, i64_w, i32_w]
      rfl
     refine one_ (i := 9) (N := some 40) #[true, true, true, true, true, true, true, true, true, true, false, false, false] rfl rfl (one_of HT_.out (by kernel_rfl)) (by decide) (fun K hK => ?_)
     rw [if_pos (by rfl)]
     unfold Oper.wp
     go_simp
     refine hK.out _ _ (pba (Below.refl _ _) _) (fun hHeld => ?_)
     clear hK K
     refine last_ (i := 10) (N := some 41) #[true, true, true, true, true, true, true, true, true, true, true, false, false] rfl rfl (one_of HT_.out (by kernel_rfl)) (by decide) (fun K hK => ?_)
     have hsz2 : w.heap.size + 8 ≤ W2.heap.size := Nat.le_trans HL.out HB3.out.size
     refine Kd.R_append_step k44 (w0 := w) w.heap.size (by rfl) (.tmp 32) (.tmp 40) 22 44 (.agg #[.int .i64 0, .int .i64 0]) 16 rfl Tryd.underlying22 info44 rfl (by decide) (by decide) vv r.ent ⟨n, m⟩ [.int .i64 n, .int .i64 m] (fun k => w.heap.size + 8 ≤ k) (fun _ => False) rfl rfl (k44_mkM _ _ _ ⟨n, m⟩) (fun _ hk => hk.elim) (fun k hk => by omega) HO2.out (H6.out.trans (HB3.out.mono (by have := HL.out; omega))) (by omega) (by have := HLE.out; have := HPL.out; omega) ?_
     intro v1 w8 ho hb8 hg hat
     obtain ⟨A9, c9, rfl⟩ := Kd.R_slice ho
     rw [show (r.ent ++ [(⟨n, m⟩ : S44)]).length = r.ent.length + 1 by simp] at ho ⊢
     have HO8 := Ad.mk ho
     have HB8 := Ad.mk hb8
     have HG8 := Ad.mk hg
     have e2 := (hg.block (w.heap.size + 2) (by omega) (Kd.R_away HO2.out (fun k hk => by omega))).trans ((HB3.out.block _ (by have := HL.out; omega)).trans K2.out)
     have d2_2 : w8.cell? ⟨w.heap.size + 2, 2, none⟩ = some vv := (bcl e2 2).trans rfl
     have g2_2 := bfz e2 2
     have E8 := Ad.mk e2
     clear ho hb8 hg hat e2 hHeld
     refine hK.out _ _ ?_
     clear hK K
     refine norm_ (a' := ?_) ?_ ?_
     rotate_left
     ·show Act.put _ (some 41) _ = _
      simp only [Act.put, sA, sB, sC, i64_w, i32_w]
      rfl
     refine pure_ (i := 11) (N := some 42) (v := ?_) (a' := ?_) #[true, true, true, true, true, true, true, true, true, true, true, true, false] rfl rfl (any_of HT_.out (by kernel_rfl)) (fun _ _ _ h => h) (Or.inl ⟨by rfl, ?_⟩) ?_ ?_
     rotate_left
     ·intro w'
      go_simp
      with_reducible rfl
     rotate_left
     ·simp only [Act.put, sA, sB, sC, i64_w, i32_w]
      rfl
     refine last_ (i := 12) (N := none) #[true, true, true, true, true, true, true, true, true, true, true, true, true] rfl rfl (one_of HT_.out (by kernel_rfl)) (by decide) (fun K hK => ?_)
     rw [if_pos (by rfl)]
     unfold Oper.wp
     go_simp
     refine hK.out _ _ ?_
     clear hK K
     refine done_ (by kernel_rfl) ?_
     clear HT_ HW_ c22 c30 c31
     gi_wp2
     have hbk : ∀ k, k < w.heap.size + 8 → k ≠ w.heap.size + 2 → (w8.setCell ⟨w.heap.size + 2, 2, none⟩ (.slice A9 (r.ent.length + 1) c9)).heap[k]? = W.heap[k]? := fun k hk hk2 =>
      (Below.heap_setCell _ _ _ _ hk2).trans ((HG8.out.block _ (by omega) (Kd.R_away HO2.out (fun j hj => by omega))).trans (HB3.out.block _ (by have := HL.out; omega)))
     refine par_next hz0 HRD.out HST.out (by have := HLE.out; simp only [List.length_append, List.length_cons, List.length_nil]; omega) ((hbk _ (by omega) (by omega)).trans K0.out) ((hbk _ (by omega) (by omega)).trans K1.out) (blk_put (cs := #[.int .i64 r.base, .int .i64 r.exp, vv]) E8.out 2 _ rfl) ((hbk _ (by omega) (by omega)).trans K3.out) ((hbk _ (by omega) (by omega)).trans K4.out) (Kd.R_far HO8.out (fun k hk => by simp only; omega) _) (pbs HB8.out (by omega)) ((Hi.below HB3.out (Nat.le_refl _)).trans ((Hi.others (KeepsOthers.of_grownBy HG8.out ?_)).trans (Hi.others (KeepsOthers.setCell _ _ _)))) (fun k h1 h2 => hbk k h2 (by omega))
     intro j o hj ho
     obtain ⟨cells, hc⟩ := Kd.R_typed HO2.out j hj
     rw [hc] at ho; cases ho; rfl
    | n :: m :: o :: q, hl =>
     exfalso
     have := numsB_le _ [] _ (by decide) hl
     simp only [List.length_cons] at this
     omega
 case done =>
  rintro D W hD ⟨r, vv, h1, h2, k0, k1, k2, k3, k4, h5, h6⟩ hK
  rw [hz0] at hD
  have hff := HFF.out
  rw [h1] at hff
  simp only at hff
  clear HFF hG h1 h2 hW0 hbl hb0
  obtain ⟨Av, cv, rfl⟩ : ∃ A c, vv = .slice A r.ent.length c := Kd.R_slice h5
  have d0_0 : W.cell? ⟨w.heap.size, 0, none⟩ = some (.int .i64 0) := (bcl k0 0).trans rfl
  have d0_1 : W.cell? ⟨w.heap.size, 1, none⟩ = some (.int .i64 0) := (bcl k0 1).trans rfl
  have d0_2 : W.cell? ⟨w.heap.size, 2, none⟩ = some (.slice none 0 0) := (bcl k0 2).trans rfl
  have d1_0 : W.cell? ⟨w.heap.size + 1, 0, none⟩ = some (.int .i64 0) := (bcl k1 0).trans rfl
  have d2_0 : W.cell? ⟨w.heap.size + 2, 0, none⟩ = some (.int .i64 r.base) := (bcl k2 0).trans rfl
  have d2_1 : W.cell? ⟨w.heap.size + 2, 1, none⟩ = some (.int .i64 r.exp) := (bcl k2 1).trans rfl
  have d2_2 : W.cell? ⟨w.heap.size + 2, 2, none⟩ = some (.slice Av r.ent.length cv) := (bcl k2 2).trans rfl
  have d3_0 : W.cell? ⟨w.heap.size + 3, 0, none⟩ = some (.bool r.kE) := (bcl k3 0).trans rfl
  have d4_0 : W.cell? ⟨w.heap.size + 4, 0, none⟩ = some (.bool r.kB) := (bcl k4 0).trans rfl
  have g0_0 := bfz k0 0
  have g0_1 := bfz k0 1
  have g0_2 := bfz k0 2
  have g1_0 := bfz k1 0
  have K0 := Ad.mk k0
  have K1 := Ad.mk k1
  have K2 := Ad.mk k2
  have H5 := Ad.mk h5
  have H6 := Ad.mk h6
  have HK := Ad.mk hK
  have HDD := Ad.mk hD
  clear k0 k1 k2 k3 k4 h5 h6 hK hD
  have HZ := Ad.mk (fun (p q : Int) (v : Value) (er : Int) (W1 : World) (hb : Below W.heap.size W W1) => par_zero p q v er HDD.out HK.out K0.out K1.out H6.out hb)
  by_cases ck : r.kE = true ∧ r.kB = true
  ·rw [if_pos ck] at hff
   rw [ck.1] at d3_0
   rw [ck.2] at d4_0
   clear ck
   obtain ⟨er, hE, hff⟩ := Option.bind_eq_some_iff.1 hff
   obtain ⟨-, hcap, hCC⟩ := Kd.R_reads' H5.out
   have hcall := leap_Check.calls 1000 r.base r.exp Av cv r.ent er W hCC hcap hE
   clear hE hcap hCC
   by_cases ce : er = 0
   ·rw [if_pos ce] at hff
    simp only [Option.some.injEq, Prod.mk.injEq] at hff
    obtain ⟨rfl, rfl, rfl, rfl⟩ := hff
    have cb : (er != 0) = false := bne_eq_false_iff_eq.mpr ce
    subst ce
    gi_wp2_with (refine ⟨trivial, ?_⟩; gi_at_call 11; refine (callsIn_wide.2 hcall).mono ?_; rintro e w1 ⟨rfl, hb1⟩; have HB1 := Ad.mk hb1; have e0 := (hb1.block _ (blk_lt K0.out)).trans K0.out; have e1 := (hb1.block _ (blk_lt K1.out)).trans K1.out; have e2 := (hb1.block _ (blk_lt K2.out)).trans K2.out; have d0_0 : w1.cell? ⟨w.heap.size, 0, none⟩ = some (.int .i64 0) := (bcl e0 0).trans rfl; have d0_1 : w1.cell? ⟨w.heap.size, 1, none⟩ = some (.int .i64 0) := (bcl e0 1).trans rfl; have d0_2 : w1.cell? ⟨w.heap.size, 2, none⟩ = some (.slice none 0 0) := (bcl e0 2).trans rfl; have d1_0 : w1.cell? ⟨w.heap.size + 1, 0, none⟩ = some (.int .i64 0) := (bcl e1 0).trans rfl; have d2_0 : w1.cell? ⟨w.heap.size + 2, 0, none⟩ = some (.int .i64 r.base) := (bcl e2 0).trans rfl; have d2_1 : w1.cell? ⟨w.heap.size + 2, 1, none⟩ = some (.int .i64 r.exp) := (bcl e2 1).trans rfl; have d2_2 : w1.cell? ⟨w.heap.size + 2, 2, none⟩ = some (.slice Av r.ent.length cv) := (bcl e2 2).trans rfl; have g0_0 := bfz e0 0; have g0_1 := bfz e0 1; have g0_2 := bfz e0 2; have g1_0 := bfz e1 0; have g2_0 := bfz e2 0; have g2_1 := bfz e2 1; have g2_2 := bfz e2 2;  clear e0 e1 e2 hb1)
    obtain ⟨z1, z2, z3, z4⟩ := HZ.out r.base r.exp (.slice Av r.ent.length cv) 0 w1 HB1.out
    refine ⟨by simp, .inl ⟨_, _, rfl, run_takeDeferred z1, ?_⟩⟩
    exact par_out rfl HDD.out z1 rfl rfl z2 z3 (Kd.R_far (Kd.R_far (Kd.R_far (Kd.R_far (Kd.R_below H5.out HB1.out) (fun k hk => by simp only; omega) _) (fun k hk => by simp only; omega) _) (fun k hk => by simp only; omega) _) (fun k hk => by simp only; omega) _) z4
   ·rw [if_neg ce] at hff
    simp only [Option.some.injEq, Prod.mk.injEq] at hff
    obtain ⟨rfl, rfl, rfl, rfl⟩ := hff
    have cb : (er != 0) = true := bne_iff_ne.mpr ce
    clear ce
    gi_wp2_with (refine ⟨trivial, ?_⟩; gi_at_call 11; refine (callsIn_wide.2 hcall).mono ?_; rintro e w1 ⟨rfl, hb1⟩; have HB1 := Ad.mk hb1; have e0 := (hb1.block _ (blk_lt K0.out)).trans K0.out; have e1 := (hb1.block _ (blk_lt K1.out)).trans K1.out; have e2 := (hb1.block _ (blk_lt K2.out)).trans K2.out; have d0_0 : w1.cell? ⟨w.heap.size, 0, none⟩ = some (.int .i64 0) := (bcl e0 0).trans rfl; have d0_1 : w1.cell? ⟨w.heap.size, 1, none⟩ = some (.int .i64 0) := (bcl e0 1).trans rfl; have d0_2 : w1.cell? ⟨w.heap.size, 2, none⟩ = some (.slice none 0 0) := (bcl e0 2).trans rfl; have d1_0 : w1.cell? ⟨w.heap.size + 1, 0, none⟩ = some (.int .i64 0) := (bcl e1 0).trans rfl; have d2_0 : w1.cell? ⟨w.heap.size + 2, 0, none⟩ = some (.int .i64 r.base) := (bcl e2 0).trans rfl; have d2_1 : w1.cell? ⟨w.heap.size + 2, 1, none⟩ = some (.int .i64 r.exp) := (bcl e2 1).trans rfl; have d2_2 : w1.cell? ⟨w.heap.size + 2, 2, none⟩ = some (.slice Av r.ent.length cv) := (bcl e2 2).trans rfl; have g0_0 := bfz e0 0; have g0_1 := bfz e0 1; have g0_2 := bfz e0 2; have g1_0 := bfz e1 0; have g2_0 := bfz e2 0; have g2_1 := bfz e2 1; have g2_2 := bfz e2 2;  clear e0 e1 e2 hb1)
    obtain ⟨z1, z2, z3, z4⟩ := HZ.out 0 0 (.slice none 0 0) er w1 HB1.out
    refine ⟨by simp, .inl ⟨_, _, rfl, run_takeDeferred z1, ?_⟩⟩
    exact par_out rfl HDD.out z1 rfl rfl z2 z3 (Kd.R_nil _ _ _ _ _) z4
  ·rw [if_neg ck] at hff
   simp only [Option.some.injEq, Prod.mk.injEq] at hff
   obtain ⟨rfl, rfl, rfl, rfl⟩ := hff
   have cc : r.kE = false ∨ (r.kE = true ∧ r.kB = false) := by
    cases h1 : r.kE <;> cases h2 : r.kB <;> simp_all
   clear ck
   rcases cc with c | ⟨c, c'⟩
   ·rw [c] at d3_0
    gi_wp2
    obtain ⟨z1, z2, z3, z4⟩ := HZ.out 0 0 (.slice none 0 0) 11 W (Below.refl _ _)
    refine ⟨by simp, .inl ⟨_, _, rfl, run_takeDeferred z1, ?_⟩⟩
    exact par_out rfl HDD.out z1 rfl rfl z2 z3 (Kd.R_nil _ _ _ _ _) z4
   ·rw [c] at d3_0
    rw [c'] at d4_0
    gi_wp2
    obtain ⟨z1, z2, z3, z4⟩ := HZ.out 0 0 (.slice none 0 0) 11 W (Below.refl _ _)
    refine ⟨by simp, .inl ⟨_, _, rfl, run_takeDeferred z1, ?_⟩⟩
    exact par_out rfl HDD.out z1 rfl rfl z2 z3 (Kd.R_nil _ _ _ _ _) z4
 case stop =>
  rintro D c pre x rest W hD hw ⟨rfl, h1, k0, k1, h6⟩ hK
  rw [hz0] at hD
  have hff := HFF.out
  rw [h1] at hff
  simp only [Option.some.injEq, Prod.mk.injEq] at hff
  obtain ⟨rfl, rfl, rfl, rfl⟩ := hff
  gi_wp2
  refine ⟨by simp, .inl ⟨_, _, rfl, run_takeDeferred hK, ?_⟩⟩
  exact par_out rfl hD hK rfl rfl k0 k1 (Kd.R_nil _ _ _ _ _) h6
theorem leap_Parse.calls (a0 : ByteArray) (r1 r2 : Int) (r3 : List S44) (r4 : Int) (w : World) (hG : Glob w) (h : leap_Parse.f a0 = some (r1, r2, r3, r4)) :
  Calls Tryd.prog 18 #[.string a0] w fun e w' => ∃ v0 : Value, e = .returned (.tuple #[.agg #[.int .i64 r1, .int .i64 r2, v0], .int .i64 r4]) ∧ k44.R 44 w' w.heap.size (fun _ => True) v0 r3 ∧ Below w.heap.size w w' := by
 by_cases hs : a0.size ≤ 1000000
 ·exact parse_calls a0 r1 r2 r3 r4 hs w hG h
 ·unfold leap_Parse.f at h
  rw [if_neg hs] at h
  cases h
end Go.Proofs.YtipbkcilpnlgnaaDoor.M
