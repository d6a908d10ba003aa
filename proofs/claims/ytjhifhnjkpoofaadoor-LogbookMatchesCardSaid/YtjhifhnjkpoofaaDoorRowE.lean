/-
  An argument that is a slice of entries, opened: a list of structs of six whole numbers.
-/
import Derived.Test.YtjhifhnjkpoofaaDoorM0
import Derived.Deep.Slices
import Derived.Deep.SlicePairs
import Derived.WalkKit
import Derived.ProofKit
namespace Go.Proofs.YtjhifhnjkpoofaaDoor
open Go.ChangeShapes Go.WideShapes Go.ChangeAt Go.RowKit Go.Deep
open Go.Proofs.YtjhifhnjkpoofaaDoorW.PrintWords
set_option linter.unusedVariables false

theorem cells37 : Tryd.prog.cellsOf 37 = 6 := by kernel_rfl
theorem cells3 : Tryd.prog.cellsOf 3 = 1 := by kernel_rfl
def WfE (x : M.S37) : Prop := (Lit.int .i64 x.f0).wf = true ∧ (Lit.int .i64 x.f1).wf = true ∧ (Lit.int .i64 x.f2).wf = true ∧ (Lit.int .i64 x.f3).wf = true ∧ (Lit.int .i64 x.f4).wf = true ∧ (Lit.int .i64 x.f5).wf = true
instance : Inhabited M.S37 := ⟨M.z37⟩

set_option maxRecDepth 100000 in
theorem entry_of {H : Type} {enc : TypeId × Value → H} {W : World} {base : Nat} {sp : Nat → Bool} {hd : Bool} {n : Nat} {a : Addr} {cs : List Value} {d : DataW H × List MemPlace}
    (hc : W.cells? base a (Tryd.prog.cellsOf 37) = some cs) (h : DataW.trod enc Tryd.prog W base sp hd n 37 cs = some d) :
    ∃ x : M.S37, cs = [.int .i64 x.f0, .int .i64 x.f1, .int .i64 x.f2, .int .i64 x.f3, .int .i64 x.f4, .int .i64 x.f5] ∧ WfE x := by
  rw [cells37] at hc
  obtain ⟨_, hlen, hcell⟩ := World.cells?_some hc
  obtain ⟨xs, k, hk, hxy, _, hxl, hf⟩ := DataW.trod_struct Tryd.underlying37 h
  match xs, hxl, cs, hlen with
  | [y0, y1, y2, y3, y4, y5], _, [v0, v1, v2, v3, v4, v5], _ =>
    have g0 := hf 0 _ rfl
    have g1 := hf 1 _ rfl
    have g2 := hf 2 _ rfl
    have g3 := hf 3 _ rfl
    have g4 := hf 4 _ rfl
    have g5 := hf 5 _ rfl
    simp [cells3] at g0 g1 g2 g3 g4 g5
    obtain ⟨k0, e0, _, w0⟩ := DataW.trod_int Tryd.underlying3 g0
    obtain ⟨k1, e1, _, w1⟩ := DataW.trod_int Tryd.underlying3 g1
    obtain ⟨k2, e2, _, w2⟩ := DataW.trod_int Tryd.underlying3 g2
    obtain ⟨k3, e3, _, w3⟩ := DataW.trod_int Tryd.underlying3 g3
    obtain ⟨k4, e4, _, w4⟩ := DataW.trod_int Tryd.underlying3 g4
    obtain ⟨k5, e5, _, w5⟩ := DataW.trod_int Tryd.underlying3 g5
    simp only [List.cons.injEq, and_true] at e0 e1 e2 e3 e4 e5
    subst e0; subst e1; subst e2; subst e3; subst e4; subst e5
    exact ⟨⟨k0, k1, k2, k3, k4, k5⟩, rfl, w0, w1, w2, w3, w4, w5⟩

theorem entries_of {H : Type} {enc : TypeId × Value → H} {W : World} {sp : Nat → Bool} {hd : Bool} {a : Option Addr} {len cap : Nat} {d : DataW H} {ps : List MemPlace}
    (h : DataW.Trod enc Tryd.prog W 0 sp hd 22 (.slice a len cap) d ps) :
    ∃ l : List M.S37, len = l.length ∧ Kd.C M.k37 W a len l ∧ len ≤ cap ∧ ∀ x ∈ l, WfE x := by
  obtain ⟨fuel, hf⟩ := h
  rcases open_slice Tryd.underlying22 hf with ⟨hcs, _⟩ | ⟨x, l, c, m, n, D, Pl, hcs, _, hl, hm, hmm, _, hall⟩
  · simp [Value.cells] at hcs
    obtain ⟨rfl, rfl, rfl⟩ := hcs
    refine ⟨[], rfl, ⟨rfl, by decide, fun h => absurd h (by decide)⟩, Nat.le_refl _, fun x hx => by simp at hx⟩
  · simp [Value.cells] at hcs
    obtain ⟨rfl, rfl, rfl⟩ := hcs
    have hlm : len ≤ m := by rw [hmm]; split <;> omega
    have each : ∀ i, i < len → ∃ y : M.S37, W.cells? 0 (x.add (i * Tryd.prog.cellsOf 37)) (Tryd.prog.cellsOf 37) = some [.int .i64 y.f0, .int .i64 y.f1, .int .i64 y.f2, .int .i64 y.f3, .int .i64 y.f4, .int .i64 y.f5] ∧ WfE y := by
      intro i hi
      obtain ⟨cs', h1, h2⟩ := hall i (by omega)
      obtain ⟨y, rfl, hw⟩ := entry_of h1 h2
      exact ⟨y, h1, hw⟩
    obtain ⟨f, hfy⟩ := choose_lt each
    have hmax : len ≤ 9223372036854775807 := Nat.le_trans hl (Nat.le_trans hm (by decide))
    refine ⟨(List.range len).map f, by simp, ⟨by simp, hmax, fun _ => ⟨x, rfl, fun j p hj => ?_⟩⟩, hl, fun y hy => ?_⟩
    · have hjl : j < len := by
        have := (List.getElem?_eq_some_iff.1 hj).1
        simpa using this
      rw [List.getElem?_map, List.getElem?_range hjl] at hj
      obtain rfl := Option.some.inj hj
      obtain ⟨h1, _⟩ := hfy j hjl
      rw [cells37] at h1
      obtain ⟨_, hlen, hcell⟩ := World.cells?_some h1
      refine ⟨_, rfl, M.k37_mk W (f j), fun i u hu => ?_⟩
      have hi : i < 6 := (List.getElem?_eq_some_iff.1 hu).1
      have := hcell i (by simpa using hi)
      rw [Go.Deep.add_add] at this
      rw [hu] at this
      exact this
    · obtain ⟨j, hj, rfl⟩ := List.mem_map.1 hy
      exact (hfy j (List.mem_range.1 hj)).2
end Go.Proofs.YtjhifhnjkpoofaaDoor
