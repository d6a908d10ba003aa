/-
  The library's contracts under the printed names: Itoa, Cut, Split.
-/
import Derived.Test.YtjhifhnjkpoofaaDoorMD
import Derived.Test.YtjhifhnjkpoofaaDoorShelf
import Derived.Lib.SplitLaws
namespace Go.Proofs.YtjhifhnjkpoofaaDoor.M
open Go.RowKit Go.Proofs.YtjhifhnjkpoofaaDoorG Go.Proofs.YtjhifhnjkpoofaaDoorW.PrintWords Go.Proofs.YtjhifhnjkpoofaaDoorW.PrintLast
set_option linter.unusedVariables false
set_option linter.unusedSimpArgs false

theorem strings_Cut.calls (a0 : ByteArray) (a1 : ByteArray) (r1 : ByteArray) (r2 : ByteArray) (r3 : Bool) (w : World) (hG : Glob w) (h : strings_Cut.f a0 a1 = some (r1, r2, r3)) :
    Calls Tryd.prog 27 #[.string a0, .string a1] w fun e w' => e = .returned (.tuple #[.string r1, .string r2, .bool r3]) ∧ Below w.heap.size w w' := by
  unfold strings_Cut.f at h
  split at h
  · rename_i hh
    simp only [Option.some.injEq, Prod.mk.injEq] at h
    obtain ⟨rfl, rfl, rfl⟩ := h
    obtain ⟨m, hm⟩ := hG.maxLen
    refine (Tryd.strings_Cut a0 a1 m w hh hm).mono fun e w' ⟨he, n, hw⟩ => ⟨he, ?_⟩
    subst hw
    exact pw_below_drewN (Below.refl _ _) n
  · cases h

theorem strconv_Itoa.calls (a0 : Int) (r : ByteArray) (w : World) (hG : Glob w) (h : strconv_Itoa.f a0 = some r) :
    Calls Tryd.prog 33 #[.int .i64 a0] w fun e w' => e = .returned (.string r) ∧ Below w.heap.size w w' := by
  unfold strconv_Itoa.f at h
  split at h
  · rename_i hh
    injection h with h
    subst h
    refine (Tryd.strconv_Itoa a0 hh.1 hh.2 w hG.tab).mono fun e w' ⟨he, k, os, hw⟩ => ⟨he, ?_⟩
    subst hw
    refine ⟨rfl, rfl, rfl, ?_, fun i hi => ?_⟩
    · show w.heap.size ≤ ((w.drewN k).heap ++ os).size
      rw [Array.size_append]
      exact Nat.le_add_right _ _
    · show ((w.drewN k).heap ++ os)[i]? = _
      rw [Array.getElem?_append_left (by exact hi)]
      rfl
  · cases h

theorem strings_Split.calls (a0 : ByteArray) (a1 : ByteArray) (r : List ByteArray) (w : World) (hG : Glob w) (h : strings_Split.f a0 a1 = some r) :
    Calls Tryd.prog 40 #[.string a0, .string a1] w fun e w' => ∃ v0_ : Value, e = .returned v0_ ∧ Kd.R Kd.string 9 w' w.heap.size (fun _ => True) v0_ r ∧ Below w.heap.size w w' := by
  unfold strings_Split.f at h
  split at h
  · rename_i hh
    injection h with h
    subst h
    obtain ⟨m, hm⟩ := hG.maxLen
    refine (Tryd.strings_Split a0 a1 m w hh.1 hm hh.2).mono fun e w' ⟨he, hw⟩ => ?_
    subst hw
    have hl : (Lib.splitB a1 0 (Lib.countB a0 a1) a0).length = Lib.countB a0 a1 + 1 := Lib.splitB_all a1 hh.2 0 _ a0 rfl
    have hc := Lib.countB_le a1 hh.2 _ a0 (Nat.le_refl _)
    have hs := hh.1
    refine ⟨_, he, ?_, (Below.refl _ _).alloc (Nat.le_refl _) _⟩
    rw [← hl]
    exact Kd.R_of_own (own_lit_of (enc := Value.string) w w.heap.size 9 _ (Nat.le_refl _) (by omega)) (fun _ _ => trivial)
  · cases h
end Go.Proofs.YtjhifhnjkpoofaaDoor.M
