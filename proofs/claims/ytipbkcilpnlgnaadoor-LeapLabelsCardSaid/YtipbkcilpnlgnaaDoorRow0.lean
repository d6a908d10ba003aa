/-
  What the rows of this seat share: from the listed variables to what the library's functions read ('Glob'); a world that meets the list, for the witnesses.
-/
import Derived.Test.YtipbkcilpnlgnaaDoorCards
import Derived.Test.YtipbkcilpnlgnaaDoorTie
import Derived.Test.YtipbkcilpnlgnaaDoorGlob
import Derived.WalkKit
import Derived.ProofKit
import Derived.OpenShut
import Derived.Deep.DeepHandedRow
import Derived.Shelf.Vars
import Derived.Lib.LaidTab
import Derived.LaidMore
import Derived.Stop.Joined
import Derived.Stop.LaidErr
namespace Go.Proofs.YtipbkcilpnlgnaaDoor
open Go.ChangeShapes Go.WideShapes Go.ChangeAt Go.RowKit
open Go.Proofs.YtipbkcilpnlgnaaDoorG

def laid7 : List (String × DataW Unit) := [("math/bits.deBruijn32tab", Rows.laid_math_bits_deBruijn32tab), ("math/bits.deBruijn64tab", Rows.laid_math_bits_deBruijn64tab), ("internal/strconv.uint64pow10", Rows.laid_internal_strconv_uint64pow10),
  ("unicode/utf8.acceptRanges", Rows.laid_unicode_utf8_acceptRanges), ("strconv.ErrRange", Rows.laid_strconv_ErrRange), ("strconv.ErrSyntax", Rows.laid_strconv_ErrSyntax), ("unicode/utf8.first", Rows.laid_unicode_utf8_first)]

theorem own : ownKnob Tryd.prog.godebug = none := by kernel_rfl
theorem tabType : (Tryd.prog.globals[5]?).map (·.type) = some 123 := by kernel_rfl
theorem named_64 : Tryd.prog.globalNamed "math/bits.deBruijn64tab" = some 7 := by kernel_rfl
theorem type_syn : (Tryd.prog.globals[3]?).map (·.type) = some 72 := by kernel_rfl
theorem type_rng : (Tryd.prog.globals[4]?).map (·.type) = some 72 := by kernel_rfl

theorem max_of {W : World} (hs : W.ShapedOpen Tryd.prog) : ∃ m, W.cell? ⟨0, 0, none⟩ = some (.int .i64 m) :=
  cell_of_shapedOpen_int (g := 0) (t := 3) (zero := #[.int .i64 0]) hs (of_decide_eq_true (by kernel_rfl)) (by kernel_rfl) rfl (by kernel_rfl) (by kernel_rfl) Tryd.underlying3


set_option maxRecDepth 100000 in
theorem err_of {W : World} {s : String} {g : Nat} {nm : String} {d : DataW Unit} {r : List (String × DataW Unit)} (hn : Tryd.prog.globalNamed s = some g) (ht : (Tryd.prog.globals[g]?).map (·.type) = some 72)
    (h : laidMet Tryd.prog ((s, .iface nm d) :: r) W) : ∃ tp p, W.var? Tryd.prog s = some #[.iface tp p] := by
  obtain ⟨ps, ⟨g', t', cs, fuel, p, q, hg', ht', hvar, htr, _⟩, _⟩ := h
  obtain rfl := Option.some.inj (hn.symm.trans hg')
  obtain rfl := Option.some.inj (ht.symm.trans ht')
  rw [hvar]
  cases fuel with
  | zero => cases htr
  | succ fuel =>
    unfold DataW.trod at htr
    rw [show Tryd.prog.underlying 72 = some (.interface #[("Error", 76)]) by kernel_rfl] at htr
    obtain ⟨l⟩ := cs
    match l, htr with
    | [.iface u v], _ => exact ⟨u, v, rfl⟩
    | [.nilIface], htr => cases htr

theorem glob_of {W : World} (h : laidMetH Tryd.prog laid7 W) (hs : W.ShapedOpen Tryd.prog) : Glob W := by
  rw [MakeChecks.laidMetH_plain _ _ _ (by kernel_rfl)] at h
  refine ⟨max_of hs, Lib.tabIs_of_head named_tab tabType Tryd.underlying123 Tryd.underlying102 (by kernel_rfl) (by kernel_rfl) h.tail.tail, err_of named_syn type_syn h.tail.tail.tail.tail.tail, err_of named_rng type_rng h.tail.tail.tail.tail, ?_⟩
  obtain ⟨ps, ⟨g', t', cs, fuel, p, q, hg', ht', hvar, _⟩, _⟩ := h.tail
  obtain rfl := Option.some.inj (named_64.symm.trans hg')
  unfold World.var? at hvar
  rw [named_64] at hvar
  rcases Nat.lt_or_ge 7 W.heap.size with h3 | h3
  · exact h3
  · simp [Array.getElem?_eq_none h3] at hvar
/-- The table that stands by its text alone, as cells. -/
noncomputable def firstCells : Array Value := match (Go.Pinned.utf8First : DataW Unit) with
  | .agg l => (l.map fun d => match d with
    | .lit (.int k n) => Value.int k n
    | _ => undef).toArray
  | _ => #[]
/-- A world that meets the list: the door's own, and the pinned table. -/
noncomputable def door (os : Os) : World := { World.doorLaid Tryd.prog 400 os with heap := (World.doorLaid Tryd.prog 400 os).heap.modify 1 fun o => match o with
  | .cells _ t fr => .cells firstCells t fr
  | o => o }
theorem door_met (os : Os) (args : Array Value) : laidMetH Tryd.prog laid7 ((door os).forCall (fun _ _ => 0) ⟨#[], args, []⟩).memory :=
  laidMetH_of_parts3 (fuel := 8) (laidMet_of_run' 8 (by kernel_rfl) (by kernel_rfl)) (by kernel_rfl) (by kernel_rfl)
end Go.Proofs.YtipbkcilpnlgnaaDoor
