import Derived.Test.YtdhoidhbhkgfgaaDoorExtA1
import Derived.Lib.ConvBytes
import Derived.Laws.BitsAllLaws
import Derived.Lib.Hide
import Derived.LoopTactic
namespace Go.Proofs.YtdhoidhbhkgfgaaDoor.M
open Go.RowKit Go.Proofs.YtdhoidhbhkgfgaaDoorG Go.Proofs.YtdhoidhbhkgfgaaDoorW.PrintWords Go.Proofs.YtdhoidhbhkgfgaaDoorW.PrintLast
set_option linter.unusedVariables false
set_option linter.unusedSimpArgs false
set_option maxHeartbeats 1600000 in
set_option maxRecDepth 100000 in
theorem decode_short (A0 : Option Addr) (n c0 : Nat) (w : World) (h : n < 10) :
    Calls Tryd.prog 24 #[.slice A0 n c0] w fun e w' => e = .returned (.tuple #[.agg #[.int .i64 0, .int .i64 0], .int .i64 5]) ∧ Below w.heap.size w w' := by
  go_enter Tryd.func24, Tryd.ntmps24
  go_wp2
  refine bodyPost_ret (v := .tuple #[.agg #[.int .i64 0, .int .i64 0], .int .i64 5]) (by simp [results, Tryd.results24, go_sem]) rfl ⟨rfl, ?_⟩
  exact (Below.refl _ _).alloc (Nat.le_refl _) _
set_option maxHeartbeats 1600000 in
set_option maxRecDepth 100000 in
theorem decode_long (A0 : Option Addr) (n c0 : Nat) (w : World) (h : 10 < n) :
    Calls Tryd.prog 24 #[.slice A0 n c0] w fun e w' => e = .returned (.tuple #[.agg #[.int .i64 0, .int .i64 0], .int .i64 6]) ∧ Below w.heap.size w w' := by
  go_enter Tryd.func24, Tryd.ntmps24
  go_wp2
  refine bodyPost_ret (v := .tuple #[.agg #[.int .i64 0, .int .i64 0], .int .i64 6]) (by simp [results, Tryd.results24, go_sem]) rfl ⟨rfl, ?_⟩
  exact (Below.refl _ _).alloc (Nat.le_refl _) _

theorem or_byte (x c : Int) (h0 : 0 ≤ x) (h1 : x < 72057594037927936) (hc : 0 ≤ c ∧ c < 256) : Go.bits .or .u64 (x * 256) c = x * 256 + c := by
  obtain ⟨x, rfl⟩ := Int.eq_ofNat_of_zero_le h0
  obtain ⟨c, rfl⟩ := Int.eq_ofNat_of_zero_le hc.1
  rw [u64_or _ _ (by omega) (by omega) (by omega) (by omega)]
  have h : ((x : Int) * 256).toNat = x <<< 8 := by rw [Nat.shiftLeft_eq]; omega
  rw [h, show ((c : Int)).toNat = c from by omega, ← Nat.shiftLeft_add_eq_or_of_lt (by omega) x, Nat.shiftLeft_eq]
  omega
theorem or_zero (c : Int) (hc : 0 ≤ c ∧ c < 256) : Go.bits .or .u64 0 c = c := by
  have := or_byte 0 c (by omega) (by omega) hc
  simpa using this

theorem setRow_alloc2 (w : World) (cs ds : Array Value) (t : TypeId) (o : Obj) : ((w.alloc (.cells cs t)).alloc o).setRow w.heap.size ds = (w.alloc (.cells ds t)).alloc o := by
  rw [← setRow_alloc w cs ds t]
  unfold World.setRow World.alloc
  congr 1
  apply Array.ext
  · simp
  · intro i h1 h2
    rw [Array.getElem_modify]
    simp only [Array.getElem_push, Array.getElem_modify, Array.size_modify, Array.size_push]
    by_cases h : i < w.heap.size
    · rw [if_neg (by omega), dif_pos (by omega), dif_pos h, dif_pos (by omega), if_neg (by omega)]
    · by_cases h' : i = w.heap.size
      · subst h'
        simp
      · have : i = w.heap.size + 1 := by simp at h2; omega
        subst this
        simp

/-- What Decode comes to at ten bytes: X the first six, Y the last four. -/
def DecPost (X Y : Int) (w : World) (e : Ending) (w' : World) : Prop :=
  (Y < 1000000000 → e = .returned (.tuple #[.agg #[.int .i64 X, .int .i64 Y], .int .i64 0])) ∧ (1000000000 ≤ Y → e = .returned (.tuple #[.agg #[.int .i64 0, .int .i64 0], .int .i64 3])) ∧ Below w.heap.size w w'

set_option maxHeartbeats 6400000 in
set_option maxRecDepth 100000 in
theorem decode_ten (ad : Addr) (c0 : Nat) (b0 b1 b2 b3 b4 b5 b6 b7 b8 b9 : Int) (w : World)
    (hb : ∀ j v, ([.int .u8 b0, .int .u8 b1, .int .u8 b2, .int .u8 b3, .int .u8 b4, .int .u8 b5, .int .u8 b6, .int .u8 b7, .int .u8 b8, .int .u8 b9] : List Value)[j]? = some v → w.cell? (ad.add j) = some v) (hlt : ad.block < w.heap.size)
    (p0 : 0 ≤ b0 ∧ b0 < 256) (p1 : 0 ≤ b1 ∧ b1 < 256) (p2 : 0 ≤ b2 ∧ b2 < 256) (p3 : 0 ≤ b3 ∧ b3 < 256) (p4 : 0 ≤ b4 ∧ b4 < 256) (p5 : 0 ≤ b5 ∧ b5 < 256) (p6 : 0 ≤ b6 ∧ b6 < 256) (p7 : 0 ≤ b7 ∧ b7 < 256) (p8 : 0 ≤ b8 ∧ b8 < 256) (p9 : 0 ≤ b9 ∧ b9 < 256) :
    Calls Tryd.prog 24 #[.slice (some ad) 10 c0] w (DecPost (((((b0 * 256 + b1) * 256 + b2) * 256 + b3) * 256 + b4) * 256 + b5) (((b6 * 256 + b7) * 256 + b8) * 256 + b9) w) := by
  have hmk : ∀ W, (Instr.makeSlice 37 (.int .i64 10) (.int .i64 10)).run Tryd.prog W = .ok (.slice (some ⟨W.heap.size, 0, none⟩) 10 10) (W.alloc (.cells #[.int .u8 0, .int .u8 0, .int .u8 0, .int .u8 0, .int .u8 0, .int .u8 0, .int .u8 0, .int .u8 0, .int .u8 0, .int .u8 0] 5)) := fun _ => by kernel_rfl
  have hcp : (Builtin.copy_ #[37, 37] 3 #[.slice (some ⟨w.heap.size + 1, 0, none⟩) 10 10, .slice (some ad) 10 c0]).run Tryd.prog (((w.alloc (.cells #[.int .i64 0, .int .i64 0] 23)).alloc (.cells #[.int .u8 0, .int .u8 0, .int .u8 0, .int .u8 0, .int .u8 0, .int .u8 0, .int .u8 0, .int .u8 0, .int .u8 0, .int .u8 0] 5)).alloc (.cells #[.slice (some ⟨w.heap.size + 1, 0, none⟩) 10 10, .int .i64 0] 70)) =
      .ok (goInt 10) (((w.alloc (.cells #[.int .i64 0, .int .i64 0] 23)).alloc (.cells #[.int .u8 b0, .int .u8 b1, .int .u8 b2, .int .u8 b3, .int .u8 b4, .int .u8 b5, .int .u8 b6, .int .u8 b7, .int .u8 b8, .int .u8 b9] 5)).alloc (.cells #[.slice (some ⟨w.heap.size + 1, 0, none⟩) 10 10, .int .i64 0] 70)) := by
    have hsz : (w.alloc (.cells #[.int .i64 0, .int .i64 0] 23)).heap.size = w.heap.size + 1 := by simp
    have key := setRow_alloc2 (w.alloc (.cells #[.int .i64 0, .int .i64 0] 23)) #[.int .u8 0, .int .u8 0, .int .u8 0, .int .u8 0, .int .u8 0, .int .u8 0, .int .u8 0, .int .u8 0, .int .u8 0, .int .u8 0]
      #[.int .u8 b0, .int .u8 b1, .int .u8 b2, .int .u8 b3, .int .u8 b4, .int .u8 b5, .int .u8 b6, .int .u8 b7, .int .u8 b8, .int .u8 b9] 5 (.cells #[.slice (some ⟨w.heap.size + 1, 0, none⟩) 10 10, .int .i64 0] 70)
    rw [hsz] at key
    rw [← key]
    refine (run_copy_row Tryd.prog _ 37 37 3 5 (w.heap.size + 1) 0 10 10 ad 10 c0 #[.int .u8 0, .int .u8 0, .int .u8 0, .int .u8 0, .int .u8 0, .int .u8 0, .int .u8 0, .int .u8 0, .int .u8 0, .int .u8 0] 5 [.int .u8 b0, .int .u8 b1, .int .u8 b2, .int .u8 b3, .int .u8 b4, .int .u8 b5, .int .u8 b6, .int .u8 b7, .int .u8 b8, .int .u8 b9] Tryd.underlying37 size5 ?_ rfl (fun j v hj => ?_) (by simp) (by simp [Value.oneCell'])).trans rfl
    · rw [← hsz]
      exact (Below.heap_alloc _ _ _ (by simp)).trans (heap_alloc_new _ _)
    · have := hb j v hj
      have hblk : (ad.add j).block = ad.block := by unfold Addr.add; split <;> rfl
      rw [World.cell?_alloc_lt _ _ _ (by rw [hblk]; simp; omega), World.cell?_alloc_lt _ _ _ (by rw [hblk]; simp; omega), World.cell?_alloc_lt _ _ _ (by rw [hblk]; exact hlt)]
      exact this
  have e0 := or_zero b0 p0
  have e1 := or_byte b0 b1 (by omega) (by omega) p1
  have e2 := or_byte (b0 * 256 + b1) b2 (by omega) (by omega) p2
  have e3 := or_byte ((b0 * 256 + b1) * 256 + b2) b3 (by omega) (by omega) p3
  have e4 := or_byte (((b0 * 256 + b1) * 256 + b2) * 256 + b3) b4 (by omega) (by omega) p4
  have e5 := or_byte ((((b0 * 256 + b1) * 256 + b2) * 256 + b3) * 256 + b4) b5 (by omega) (by omega) p5
  have e6 := or_zero b6 p6
  have e7 := or_byte b6 b7 (by omega) (by omega) p7
  have e8 := or_byte (b6 * 256 + b7) b8 (by omega) (by omega) p8
  have e9 := or_byte ((b6 * 256 + b7) * 256 + b8) b9 (by omega) (by omega) p9
  go_enter Tryd.func24, Tryd.ntmps24
  go_wp2
  refine wp_loop_rounds 7 ?_
  iterate 7 (rw [rounds_succ]; go_wp2)
  refine wp_loop_rounds 5 ?_
  iterate 5 (rw [rounds_succ]; go_wp2)
  · refine bodyPost_ret (v := .tuple #[.agg #[.int .i64 0, .int .i64 0], .int .i64 3]) (by simp [results, Tryd.results24, go_sem]) rfl ⟨fun h => absurd h (by omega), fun _ => rfl, ?_⟩
    repeat (first | exact Below.refl _ _ | refine Below.alloc ?_ (by first | (simp; done) | (simp; omega)) _)
  · refine bodyPost_ret (v := .tuple #[.agg #[.int .i64 (((((b0 * 256 + b1) * 256 + b2) * 256 + b3) * 256 + b4) * 256 + b5), .int .i64 (((b6 * 256 + b7) * 256 + b8) * 256 + b9)], .int .i64 0]) (by simp [results, Tryd.results24, go_sem]) rfl ⟨fun _ => rfl, fun h => absurd h (by omega), ?_⟩
    repeat (first | exact Below.refl _ _ | refine Below.alloc ?_ (by first | (simp; done) | (simp; omega)) _)

theorem ptime_Decode.calls (A0 : Option Addr) (c0 : Nat) (l0 : List Int) (r1 : Int) (r2 : Int) (r3 : Int) (w : World) (hr0 : Kd.C (Kd.int .u8) w A0 l0.length l0) (hc0 : l0.length ≤ c0) (h : ptime_Decode.f l0 = some (r1, r2, r3)) :
    Calls Tryd.prog 24 #[.slice A0 l0.length c0] w fun e w' => e = .returned (.tuple #[.agg #[.int .i64 r1, .int .i64 r2], .int .i64 r3]) ∧ Below w.heap.size w w' := by
  unfold ptime_Decode.f at h
  by_cases h1 : l0.length < 10
  · rw [if_pos h1] at h
    simp only [Option.some.injEq, Prod.mk.injEq] at h
    obtain ⟨rfl, rfl, rfl⟩ := h
    exact decode_short A0 _ c0 w h1
  rw [if_neg h1] at h
  by_cases h2 : 10 < l0.length
  · rw [if_pos h2] at h
    simp only [Option.some.injEq, Prod.mk.injEq] at h
    obtain ⟨rfl, rfl, rfl⟩ := h
    exact decode_long A0 _ c0 w h2
  rw [if_neg h2] at h
  by_cases h3 : ∀ x ∈ l0, 0 ≤ x ∧ x < 256
  · rw [if_pos h3] at h
    match l0, (by omega : l0.length = 10) with
    | [b0, b1, b2, b3, b4, b5, b6, b7, b8, b9], _ =>
      obtain ⟨_, _, hx⟩ := reads_of_C hr0
      obtain ⟨ad, rfl, hcell⟩ := hx (by simp)
      have hc : ∀ j v, ([.int .u8 b0, .int .u8 b1, .int .u8 b2, .int .u8 b3, .int .u8 b4, .int .u8 b5, .int .u8 b6, .int .u8 b7, .int .u8 b8, .int .u8 b9] : List Value)[j]? = some v → w.cell? (ad.add j) = some v := by
        intro j v hj
        have hj10 : j < 10 := by
          have := (List.getElem?_eq_some_iff.1 hj).1
          simpa using this
        have := hcell j (by simpa using hj10)
        rw [this]
        rcases (by omega : j = 0 ∨ j = 1 ∨ j = 2 ∨ j = 3 ∨ j = 4 ∨ j = 5 ∨ j = 6 ∨ j = 7 ∨ j = 8 ∨ j = 9) with rfl | rfl | rfl | rfl | rfl | rfl | rfl | rfl | rfl | rfl <;> simpa using hj
      have hlt : ad.block < w.heap.size := by
        have := hc 0 _ rfl
        have h2 := World.block_lt_of_cell? w _ this
        unfold Addr.add at h2
        simpa using h2
      simp only [List.mem_cons, List.not_mem_nil, or_false, forall_eq_or_imp, forall_eq] at h3
      obtain ⟨p0, p1, p2, p3, p4, p5, p6, p7, p8, p9⟩ := h3
      refine (decode_ten ad c0 b0 b1 b2 b3 b4 b5 b6 b7 b8 b9 w hc hlt p0 p1 p2 p3 p4 p5 p6 p7 p8 p9).mono fun e w' ⟨ha, hb, hw⟩ => ⟨?_, hw⟩
      simp only [num4, num6, List.getD_cons_zero, List.getD_cons_succ] at h
      split at h
      · rename_i hh
        simp only [Option.some.injEq, Prod.mk.injEq] at h
        obtain ⟨rfl, rfl, rfl⟩ := h
        exact hb (by omega)
      · rename_i hh
        simp only [Option.some.injEq, Prod.mk.injEq] at h
        obtain ⟨rfl, rfl, rfl⟩ := h
        exact ha (by omega)
  · rw [if_neg h3] at h
    cases h
end Go.Proofs.YtdhoidhbhkgfgaaDoor.M
