/-
  What the rows of this seat share: from the listed variables to what the library's functions read ('Glob'); a world that meets the list, for the witnesses.
-/
import Derived.Test.YtdhoidhbhkgfgaaDoorCards
import Derived.Test.YtdhoidhbhkgfgaaDoorTie
import Derived.Test.YtdhoidhbhkgfgaaDoorGlob
import Derived.WalkKit
import Derived.ProofKit
import Derived.OpenShut
import Derived.Deep.DeepHandedRow
import Derived.Shelf.Vars
import Derived.Lib.LaidTab
import Derived.LaidMore
import Derived.Stop.Joined
import Derived.Stop.LaidErr
namespace Go.Proofs.YtdhoidhbhkgfgaaDoor
open Go.ChangeShapes Go.WideShapes Go.ChangeAt Go.RowKit
open Go.Proofs.YtdhoidhbhkgfgaaDoorG

def laid3 : List (String × DataW Unit) := [("math/bits.deBruijn32tab", Rows.laid_math_bits_deBruijn32tab), ("math/bits.deBruijn64tab", Rows.laid_math_bits_deBruijn64tab), ("internal/strconv.uint64pow10", Rows.laid_internal_strconv_uint64pow10)]

theorem own : ownKnob Tryd.prog.godebug = none := by kernel_rfl
theorem tabType : (Tryd.prog.globals[1]?).map (·.type) = some 104 := by kernel_rfl
theorem named_64 : Tryd.prog.globalNamed "math/bits.deBruijn64tab" = some 3 := by kernel_rfl

theorem max_of {W : World} (hs : W.ShapedOpen Tryd.prog) : ∃ m, W.cell? ⟨0, 0, none⟩ = some (.int .i64 m) :=
  cell_of_shapedOpen_int (g := 0) (t := 3) (zero := #[.int .i64 0]) hs (of_decide_eq_true (by kernel_rfl)) (by kernel_rfl) rfl (by kernel_rfl) (by kernel_rfl) Tryd.underlying3

theorem glob_of {W : World} (h : laidMetH Tryd.prog laid3 W) (hs : W.ShapedOpen Tryd.prog) : Glob W := by
  rw [MakeChecks.laidMetH_plain _ _ _ (by kernel_rfl)] at h
  refine ⟨max_of hs, Lib.tabIs_of_head (rest := []) named_tab tabType Tryd.underlying104 Tryd.underlying49 (by kernel_rfl) (by kernel_rfl) h.tail.tail, ?_⟩
  obtain ⟨ps, ⟨g', t', cs, fuel, p, q, hg', ht', hvar, _⟩, _⟩ := h.tail
  obtain rfl := Option.some.inj (named_64.symm.trans hg')
  unfold World.var? at hvar
  rw [named_64] at hvar
  rcases Nat.lt_or_ge 3 W.heap.size with h3 | h3
  · exact h3
  · simp [Array.getElem?_eq_none h3] at hvar
/-- The door's own heap meets the condition: closed facts. -/
theorem door_met (os : Os) (args : Array Value) : laidMetH Tryd.prog laid3 ((World.doorLaid Tryd.prog 400 os).forCall (fun _ _ => 0) ⟨#[], args, []⟩).memory :=
  laidMetH_of_parts3 (fuel := 8) (laidMet_of_run' 8 (by kernel_rfl) (by kernel_rfl)) (by kernel_rfl) (by kernel_rfl)
end Go.Proofs.YtdhoidhbhkgfgaaDoor
