/-
  Contracts proved by hand: wire.Append at the sizes 6 and 4.
-/
import Derived.Test.YtdhoidhbhkgfgaaDoorMD
import Derived.WalkKit
import Derived.WalkSpells
import Derived.Laws.CopyRow
import Derived.Laws.IdiomCopy
import Derived.Laws.NewBlocks
import Derived.LoopTactic
namespace Go.Proofs.YtdhoidhbhkgfgaaDoor.M
open Go.RowKit Go.Proofs.YtdhoidhbhkgfgaaDoorG Go.Proofs.YtdhoidhbhkgfgaaDoorW.PrintWords Go.Proofs.YtdhoidhbhkgfgaaDoorW.PrintLast
set_option linter.unusedVariables false
set_option linter.unusedSimpArgs false

theorem reads_of_C {k : IntKind} {w : World} {A : Option Addr} {n : Nat} {xs : List Int} (h : Kd.C (Kd.int k) w A n xs) : ReadsInt w k A n xs := by
  refine ⟨h.1, h.2.1, fun hn => ?_⟩
  obtain ⟨ad, e, hc⟩ := h.2.2 hn
  refine ⟨ad, e, fun j hj => ?_⟩
  have hl : j < xs.length := by have := h.1; omega
  obtain ⟨c, _, hr, hcell⟩ := hc j _ (List.getElem?_eq_getElem hl)
  have hr' : c = [Value.int k xs[j]] := hr
  subst hr'
  have := hcell 0 _ rfl
  rw [List.getD_eq_getElem?_getD, List.getElem?_eq_getElem hl]
  simpa [Kd.int, Kd.scalar] using this

theorem size5 : (Tryd.prog.info? 5).map (·.size) = some 1 := by kernel_rfl

theorem setRow_alloc (w : World) (cs ds : Array Value) (t : TypeId) : (w.alloc (.cells cs t)).setRow w.heap.size ds = w.alloc (.cells ds t) := by
  unfold World.setRow World.alloc
  congr 1
  apply Array.ext
  · simp
  · intro i h1 h2
    rw [Array.getElem_modify]
    simp only [Array.getElem_push]
    by_cases h : i < w.heap.size
    · rw [if_neg (by omega), dif_pos h, dif_pos h]
    · have : w.heap.size = i := by simp at h2; omega
      rw [if_pos this, dif_neg h, dif_neg h]

theorem R_bytes (W : World) (xs : List Int) (hm : xs.length ≤ 9223372036854775807) : Kd.R (Kd.int .u8) 5 (W.alloc (.cells (nums .u8 xs).toArray 5)) W.heap.size (fun _ => True) (.slice (some ⟨W.heap.size, 0, none⟩) xs.length xs.length) xs :=
  Kd.R_of_own (own_lit W W.heap.size 5 .u8 xs (Nat.le_refl _) hm) (fun _ _ => trivial)

set_option maxHeartbeats 1600000 in
set_option maxRecDepth 100000 in
theorem append6 (A0 : Option Addr) (c0 : Nat) (a1 : Int) (w : World) (h0 : 0 ≤ a1) (h1 : a1 < 281474976710656) :
    Calls Tryd.prog 36 #[.slice A0 0 c0, .int .u64 a1, .int .i64 6] w fun e w' => e = .returned (.tuple #[.slice (some ⟨w.heap.size, 0, none⟩) 6 6, .int .i64 0]) ∧ w' = (w.alloc (.cells (nums .u8 (bytes6 a1)).toArray 5)) := by
  have hmk : ∀ W, (Instr.makeSlice 37 (.int .i64 6) (.int .i64 6)).run Tryd.prog W = .ok (.slice (some ⟨W.heap.size, 0, none⟩) 6 6) (W.alloc (.cells #[.int .u8 0, .int .u8 0, .int .u8 0, .int .u8 0, .int .u8 0, .int .u8 0] 5)) := fun _ => by kernel_rfl
  have hcp : ∀ W d, (Builtin.copy_ #[37, 37] 3 #[.slice d 6 6, .slice A0 0 c0]).run Tryd.prog W = .ok (goInt 0) W := fun W d => run_copy_none W 37 37 3 5 d A0 6 6 0 c0 Tryd.underlying37 size5 rfl
  have hs : (a1 / 281474976710656 != 0) = false := by simp; omega
  go_enter Tryd.func36, Tryd.ntmps36
  go_wp2
  refine wp_loop_rounds 7 ?_
  iterate 7 (rw [rounds_succ]; go_wp2)
  go_ret2
  exact ⟨rfl, rfl⟩

set_option maxHeartbeats 3200000 in
set_option maxRecDepth 100000 in
theorem append4 (ad : Addr) (c0 : Nat) (b0 b1 b2 b3 b4 b5 : Int) (a1 : Int) (w : World) (h0 : 0 ≤ a1) (h1 : a1 < 4294967296)
    (hb : ∀ j v, ([.int .u8 b0, .int .u8 b1, .int .u8 b2, .int .u8 b3, .int .u8 b4, .int .u8 b5] : List Value)[j]? = some v → w.cell? (ad.add j) = some v) (hlt : ad.block < w.heap.size) :
    Calls Tryd.prog 36 #[.slice (some ad) 6 c0, .int .u64 a1, .int .i64 4] w fun e w' => e = .returned (.tuple #[.slice (some ⟨w.heap.size, 0, none⟩) 10 10, .int .i64 0]) ∧ w' = (w.alloc (.cells (nums .u8 ([b0, b1, b2, b3, b4, b5] ++ bytes4 a1)).toArray 5)) := by
  have hmk : ∀ W, (Instr.makeSlice 37 (.int .i64 10) (.int .i64 10)).run Tryd.prog W = .ok (.slice (some ⟨W.heap.size, 0, none⟩) 10 10) (W.alloc (.cells #[.int .u8 0, .int .u8 0, .int .u8 0, .int .u8 0, .int .u8 0, .int .u8 0, .int .u8 0, .int .u8 0, .int .u8 0, .int .u8 0] 5)) := fun _ => by kernel_rfl
  have hcp : (Builtin.copy_ #[37, 37] 3 #[.slice (some ⟨w.heap.size, 0, none⟩) 10 10, .slice (some ad) 6 c0]).run Tryd.prog (w.alloc (.cells #[.int .u8 0, .int .u8 0, .int .u8 0, .int .u8 0, .int .u8 0, .int .u8 0, .int .u8 0, .int .u8 0, .int .u8 0, .int .u8 0] 5)) =
      .ok (goInt 6) (w.alloc (.cells #[.int .u8 b0, .int .u8 b1, .int .u8 b2, .int .u8 b3, .int .u8 b4, .int .u8 b5, .int .u8 0, .int .u8 0, .int .u8 0, .int .u8 0] 5)) := by
    refine (run_copy_row Tryd.prog _ 37 37 3 5 w.heap.size 0 10 10 ad 6 c0 _ 5 [.int .u8 b0, .int .u8 b1, .int .u8 b2, .int .u8 b3, .int .u8 b4, .int .u8 b5] Tryd.underlying37 size5 (heap_alloc_new w _) rfl (fun j v hj => ?_) (by simp) (by simp [Value.oneCell'])).trans ?_
    · have := hb j v hj
      rw [World.cell?_alloc_lt w _ _ (by unfold Addr.add; split <;> exact hlt)]
      exact this
    · rw [setRow_alloc]
      rfl
  have hs : (a1 / 4294967296 != 0) = false := by simp; omega
  go_enter Tryd.func36, Tryd.ntmps36
  go_wp2
  refine wp_loop_rounds 5 ?_
  iterate 5 (rw [rounds_succ]; go_wp2)
  go_ret2
  exact ⟨rfl, rfl⟩

theorem wire_Append.calls (A0 : Option Addr) (c0 : Nat) (l0 : List Int) (a1 : Int) (a2 : Int) (r1 : List Int) (r2 : Int) (w : World) (hr0 : Kd.C (Kd.int .u8) w A0 l0.length l0) (hc0 : l0.length ≤ c0) (h : wire_Append.f l0 a1 a2 = some (r1, r2)) :
    Calls Tryd.prog 36 #[.slice A0 l0.length c0, .int .u64 a1, .int .i64 a2] w fun e w' => ∃ v0_ : Value, e = .returned (.tuple #[v0_, .int .i64 r2]) ∧ Kd.R (Kd.int .u8) 5 w' w.heap.size (fun _ => True) v0_ r1 ∧ Below w.heap.size w w' := by
  unfold wire_Append.f at h
  split at h
  · rename_i hh
    obtain ⟨rfl, rfl, h0, h1⟩ := hh
    simp only [Option.some.injEq, Prod.mk.injEq] at h
    obtain ⟨rfl, rfl⟩ := h
    refine (append6 A0 c0 a1 w h0 h1).mono fun e w' ⟨he, hw⟩ => ?_
    subst he; subst hw
    exact ⟨_, rfl, R_bytes w (bytes6 a1) (by simp [bytes6]), (Below.refl _ _).alloc (Nat.le_refl _) _⟩
  · split at h
    · rename_i hh
      obtain ⟨rfl, hl, h0, h1⟩ := hh
      simp only [Option.some.injEq, Prod.mk.injEq] at h
      obtain ⟨rfl, rfl⟩ := h
      match l0, hl with
      | [b0, b1, b2, b3, b4, b5], _ =>
        obtain ⟨_, _, hx⟩ := reads_of_C hr0
        obtain ⟨ad, rfl, hcell⟩ := hx (by simp)
        have hc : ∀ j v, ([.int .u8 b0, .int .u8 b1, .int .u8 b2, .int .u8 b3, .int .u8 b4, .int .u8 b5] : List Value)[j]? = some v → w.cell? (ad.add j) = some v := by
          intro j v hj
          have hj6 : j < 6 := by
            have := (List.getElem?_eq_some_iff.1 hj).1
            simpa using this
          have := hcell j (by simpa using hj6)
          rw [this]
          rcases (by omega : j = 0 ∨ j = 1 ∨ j = 2 ∨ j = 3 ∨ j = 4 ∨ j = 5) with rfl | rfl | rfl | rfl | rfl | rfl <;> simpa using hj
        have hlt : ad.block < w.heap.size := by
          have := hc 0 _ rfl
          have h2 := World.block_lt_of_cell? w _ this
          unfold Addr.add at h2
          simpa using h2
        refine (append4 ad c0 b0 b1 b2 b3 b4 b5 a1 w h0 h1 hc hlt).mono fun e w' ⟨he, hw⟩ => ?_
        subst he; subst hw
        exact ⟨_, rfl, R_bytes w ([b0, b1, b2, b3, b4, b5] ++ bytes4 a1) (by simp [bytes4]), (Below.refl _ _).alloc (Nat.le_refl _) _⟩
    · cases h
end Go.Proofs.YtdhoidhbhkgfgaaDoor.M
