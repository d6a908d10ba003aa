/-
  What the functions of this translation read of package-level variables: one number of the library's own, and the library's table of the powers of ten. It is kept by every call that writes nothing old.
-/
import Derived.Test.YtdhoidhbhkgfgaaDoorProg
import Derived.Below
import Derived.Lib.LaidTab
import Derived.Lib.ItoaNum
import Derived.Lib.SmallJoins
import Derived.KernelRfl
namespace Go.Proofs.YtdhoidhbhkgfgaaDoorG
open Go.RowKit

/-- What the library's own variables hold. -/
structure Glob (w : World) : Prop where
  maxLen : ∃ m, w.cell? ⟨0, 0, none⟩ = some (.int .i64 m)
  tab : Lib.TabIs Tryd.prog w "internal/strconv.uint64pow10" .u64 Lib.pow10Tab
  size : 4 ≤ w.heap.size

theorem named_tab : Tryd.prog.globalNamed "internal/strconv.uint64pow10" = some 1 := by kernel_rfl

theorem Glob.below {w w' : World} (h : Glob w) (hb : Below w.heap.size w w') : Glob w' := by
  refine ⟨?_, Joins.tab_stays named_tab h.tab hb (Nat.le_refl _), Nat.le_trans h.size hb.size⟩
  obtain ⟨m, hm⟩ := h.maxLen
  exact ⟨m, (hb.cell (p := ⟨0, 0, none⟩) (Nat.lt_of_lt_of_le (by decide : 0 < 4) h.size)).trans hm⟩

end Go.Proofs.YtdhoidhbhkgfgaaDoorG
