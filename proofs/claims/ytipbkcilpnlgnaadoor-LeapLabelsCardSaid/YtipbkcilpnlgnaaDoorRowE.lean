/-
  An argument that is a table (two whole numbers and a slice of entries), or a label, opened.
-/
import Derived.Test.YtipbkcilpnlgnaaDoorM0
import Derived.Deep.Slices
import Derived.Deep.SlicePairs
import Derived.WalkKit
import Derived.ProofKit
import Derived.Lib.SmallJoins
import Derived.ChangeArms
namespace Go.Proofs.YtipbkcilpnlgnaaDoor
open Go.ChangeShapes Go.WideShapes Go.ChangeAt Go.RowKit Go.Deep
open Go.Proofs.YtipbkcilpnlgnaaDoorW.PA
set_option linter.unusedVariables false

theorem cells44 : Tryd.prog.cellsOf 44 = 2 := by kernel_rfl
theorem cells3 : Tryd.prog.cellsOf 3 = 1 := by kernel_rfl
def WfE (x : M.S44) : Prop := (Lit.int .i64 x.f0).wf = true ∧ (Lit.int .i64 x.f1).wf = true
instance : Inhabited M.S44 := ⟨⟨0, 0⟩⟩

set_option maxRecDepth 100000 in
theorem entry_of {H : Type} {enc : TypeId × Value → H} {W : World} {base : Nat} {sp : Nat → Bool} {hd : Bool} {n : Nat} {a : Addr} {cs : List Value} {d : DataW H × List MemPlace}
    (hc : W.cells? base a (Tryd.prog.cellsOf 44) = some cs) (h : DataW.trod enc Tryd.prog W base sp hd n 44 cs = some d) :
    ∃ x : M.S44, cs = [.int .i64 x.f0, .int .i64 x.f1] ∧ WfE x := by
  rw [cells44] at hc
  obtain ⟨_, hlen, hcell⟩ := World.cells?_some hc
  obtain ⟨xs, k, hk, hxy, _, hxl, hf⟩ := DataW.trod_struct Tryd.underlying44 h
  match xs, hxl, cs, hlen with
  | [y0, y1], _, [v0, v1], _ =>
    have g0 := hf 0 _ rfl
    have g1 := hf 1 _ rfl
    simp [cells3] at g0 g1
    obtain ⟨k0, e0, _, w0⟩ := DataW.trod_int Tryd.underlying3 g0
    obtain ⟨k1, e1, _, w1⟩ := DataW.trod_int Tryd.underlying3 g1
    simp only [List.cons.injEq, and_true] at e0 e1
    subst e0; subst e1
    exact ⟨⟨k0, k1⟩, rfl, w0, w1⟩

theorem entries_of {H : Type} {enc : TypeId × Value → H} {W : World} {sp : Nat → Bool} {hd : Bool} {v : Value} {fuel : Nat} {d : DataW H × List MemPlace}
    (hf : DataW.trod enc Tryd.prog W 0 sp hd fuel 22 [v] = some d) :
    ∃ (a : Option Addr) (cap : Nat) (l : List M.S44), v = .slice a l.length cap ∧ Kd.C M.k44 W a l.length l ∧ l.length ≤ cap ∧ ∀ x ∈ l, WfE x := by
  rcases open_slice Tryd.underlying22 hf with ⟨hcs, _⟩ | ⟨x, len, c, m, n, D, Pl, hcs, _, hl, hm, hmm, _, hall⟩
  · simp only [List.cons.injEq, and_true] at hcs
    subst hcs
    exact ⟨none, 0, [], rfl, ⟨rfl, by decide, fun h => absurd h (by decide)⟩, Nat.le_refl _, fun x hx => by simp at hx⟩
  · simp only [List.cons.injEq, and_true] at hcs
    subst hcs
    have hlm : len ≤ m := by rw [hmm]; split <;> omega
    have each : ∀ i, i < len → ∃ y : M.S44, W.cells? 0 (x.add (i * Tryd.prog.cellsOf 44)) (Tryd.prog.cellsOf 44) = some [.int .i64 y.f0, .int .i64 y.f1] ∧ WfE y := by
      intro i hi
      obtain ⟨cs', h1, h2⟩ := hall i (by omega)
      obtain ⟨y, rfl, hw⟩ := entry_of h1 h2
      exact ⟨y, h1, hw⟩
    obtain ⟨f, hfy⟩ := choose_lt each
    have hmax : len ≤ 9223372036854775807 := Nat.le_trans hl (Nat.le_trans hm (by decide))
    have hll : ((List.range len).map f).length = len := by simp
    refine ⟨some x, c, (List.range len).map f, by rw [hll], ⟨rfl, by rw [hll]; exact hmax, fun _ => ⟨x, rfl, fun j p hj => ?_⟩⟩, by rw [hll]; exact hl, fun y hy => ?_⟩
    · have hjl : j < len := by
        have := (List.getElem?_eq_some_iff.1 hj).1
        simpa using this
      rw [List.getElem?_map, List.getElem?_range hjl] at hj
      obtain rfl := Option.some.inj hj
      obtain ⟨h1, _⟩ := hfy j hjl
      rw [cells44] at h1
      obtain ⟨_, hlen, hcell⟩ := World.cells?_some h1
      refine ⟨_, rfl, M.k44_mk W (f j), fun i u hu => ?_⟩
      have hi : i < 2 := (List.getElem?_eq_some_iff.1 hu).1
      have := hcell i (by simpa using hi)
      rw [Go.Deep.add_add] at this
      rw [hu] at this
      exact this
    · obtain ⟨j, hj, rfl⟩ := List.mem_map.1 hy
      exact (hfy j (List.mem_range.1 hj)).2
set_option maxRecDepth 100000 in
theorem table_of {H : Type} {enc : TypeId × Value → H} {W : World} {sp : Nat → Bool} {hd : Bool} {r : Reach} {b0 : Nat} {v : Value} {d : DataW H} {ps : List MemPlace}
    (hv : Value.okWide Tryd.prog W r b0 24 v) (h : DataW.Trod enc Tryd.prog W 0 sp hd 24 v d ps) :
    ∃ (b e : Int) (a : Option Addr) (cap : Nat) (l : List M.S44), v = .agg #[.int .i64 b, .int .i64 e, .slice a l.length cap] ∧ Kd.C M.k44 W a l.length l ∧ l.length ≤ cap ∧ (Lit.int .i64 b).wf = true ∧ (Lit.int .i64 e).wf = true ∧ ∀ x ∈ l, WfE x := by
  obtain ⟨v0, v1, v2, y0, y1, y2, n, rfl, rfl, rfl, h0, h1, h2⟩ := Joins.open_agg3 Tryd.underlying24 (by kernel_rfl) (show Tryd.prog.cellsOf 24 = 3 by kernel_rfl) hv h
  obtain ⟨b, e0, _, w0⟩ := DataW.trod_int Tryd.underlying3 h0
  obtain ⟨e, e1, _, w1⟩ := DataW.trod_int Tryd.underlying3 h1
  simp only [List.cons.injEq, and_true] at e0 e1
  subst e0; subst e1
  obtain ⟨a, cap, l, rfl, hC, hc, hw⟩ := entries_of h2
  exact ⟨b, e, a, cap, l, rfl, hC, hc, w0, w1, hw⟩
set_option maxRecDepth 100000 in
theorem label_of {H : Type} {enc : TypeId × Value → H} {W : World} {sp : Nat → Bool} {hd : Bool} {r : Reach} {b0 : Nat} {v : Value} {d : DataW H} {ps : List MemPlace}
    (hv : Value.okWide Tryd.prog W r b0 30 v) (h : DataW.Trod enc Tryd.prog W 0 sp hd 30 v d ps) :
    ∃ (u : Int) (x : Bool) (t : Int), v = .agg #[.int .i64 u, .bool x, .int .i64 t] ∧ (Lit.int .i64 u).wf = true ∧ (Lit.int .i64 t).wf = true := by
  obtain ⟨v0, v1, v2, y0, y1, y2, n, rfl, rfl, rfl, h0, h1, h2⟩ := Joins.open_agg3 Tryd.underlying30 (by kernel_rfl) (show Tryd.prog.cellsOf 30 = 3 by kernel_rfl) hv h
  obtain ⟨u, e0, _, w0⟩ := DataW.trod_int Tryd.underlying3 h0
  obtain ⟨x, e1, _⟩ := DataW.trod_bool Tryd.underlying4 h1
  obtain ⟨t, e2, _, w2⟩ := DataW.trod_int Tryd.underlying3 h2
  simp only [List.cons.injEq, and_true] at e0 e1 e2
  subst e0; subst e1; subst e2
  exact ⟨u, x, t, rfl, w0, w2⟩
end Go.Proofs.YtipbkcilpnlgnaaDoor
