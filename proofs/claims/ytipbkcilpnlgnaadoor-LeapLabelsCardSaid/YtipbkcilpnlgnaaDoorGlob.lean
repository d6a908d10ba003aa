/-
  What the functions of this translation read of package-level variables: one number of the library's own, its table of the powers of ten, and the two errors of a number's text. All is kept by every call that writes nothing old.
-/
import Derived.Test.YtipbkcilpnlgnaaDoorProg
import Derived.Below
import Derived.Lib.LaidTab
import Derived.Lib.ItoaNum
import Derived.Lib.SmallJoins
import Derived.KernelRfl
namespace Go.Proofs.YtipbkcilpnlgnaaDoorG
open Go.RowKit

/-- What the library's own variables hold. -/
structure Glob (w : World) : Prop where
  maxLen : ∃ m, w.cell? ⟨0, 0, none⟩ = some (.int .i64 m)
  tab : Lib.TabIs Tryd.prog w "internal/strconv.uint64pow10" .u64 Lib.pow10Tab
  syn : ∃ tp p, w.var? Tryd.prog "strconv.ErrSyntax" = some #[.iface tp p]
  rng : ∃ tp p, w.var? Tryd.prog "strconv.ErrRange" = some #[.iface tp p]
  size : 8 ≤ w.heap.size

theorem named_tab : Tryd.prog.globalNamed "internal/strconv.uint64pow10" = some 5 := by kernel_rfl
theorem named_syn : Tryd.prog.globalNamed "strconv.ErrSyntax" = some 3 := by kernel_rfl
theorem named_rng : Tryd.prog.globalNamed "strconv.ErrRange" = some 4 := by kernel_rfl

theorem var_below {w w' : World} {s : String} {g : Nat} (hb : Below w.heap.size w w') (hn : Tryd.prog.globalNamed s = some g) (hg : g < w.heap.size) : w'.var? Tryd.prog s = w.var? Tryd.prog s := by
  unfold World.var?
  rw [hn]
  simp [hb.block g hg]

theorem Glob.below {w w' : World} (h : Glob w) (hb : Below w.heap.size w w') : Glob w' := by
  have hs := h.size
  refine ⟨?_, Joins.tab_stays named_tab h.tab hb (Nat.le_refl _), ?_, ?_, Nat.le_trans h.size hb.size⟩
  · obtain ⟨m, hm⟩ := h.maxLen
    exact ⟨m, (hb.cell (p := ⟨0, 0, none⟩) (Nat.lt_of_lt_of_le (by decide : 0 < 8) h.size)).trans hm⟩
  · obtain ⟨tp, p, hm⟩ := h.syn
    exact ⟨tp, p, (var_below hb named_syn (by omega)).trans hm⟩
  · obtain ⟨tp, p, hm⟩ := h.rng
    exact ⟨tp, p, (var_below hb named_rng (by omega)).trans hm⟩

end Go.Proofs.YtipbkcilpnlgnaaDoorG
