/-
  A log is read back from its text, and a beginning of it has a beginning of the text.
-/
import Derived.Test.YtjhifhnjkpoofaaDoorPe
import Derived.Test.YtjhifhnjkpoofaaDoorPb
import Derived.Test.YtjhifhnjkpoofaaDoorRowE
namespace Go.Proofs.YtjhifhnjkpoofaaDoor.M
open Go.RowKit Go.Proofs.YtjhifhnjkpoofaaDoorG Go.Proofs.YtjhifhnjkpoofaaDoorW.PrintWords Go.Proofs.YtjhifhnjkpoofaaDoorW.PrintLast Go.Proofs.YtjhifhnjkpoofaaDoorW.PrintMore
set_option linter.unusedVariables false
set_option linter.unusedSimpArgs false
theorem same_l0 (l : List S37) : ∀ (k : Nat) (i : Int), 0 ≤ i → i ≤ l.length → l.length < 10000 → (l.length : Int) - i < k → api_Entry.l0 k l l l.length i = some true
  | 0, i, h0, h1, _, h2 => by omega
  | k + 1, i, h0, h1, h3, h2 => by
    unfold api_Entry.l0
    by_cases c : i < (l.length : Int)
    · have hw : wrap64 (i + 1) = i + 1 := by unfold wrap64; omega
      rw [if_pos c, if_pos h0, if_pos c, if_pos c, if_neg (by simp), hw]
      exact same_l0 l k (i + 1) (by omega) (by omega) h3 (by omega)
    · rw [if_neg c]
theorem pure_LogbookBack (l0 : List S37) (a1 : Int) (h0 : ∀ x ∈ l0, WfE x) (hw : (Lit.int .u16 a1).wf = true) : ∃ k, timesynclaw50_LogbookBack.f k l0 a1 = some true := by
  obtain ⟨h1, h2⟩ : 0 ≤ a1 ∧ a1 < 65536 := by
    simp [Lit.wf, IntKind.wrap] at hw
    have e0 : IntKind.u16.min = 0 := by decide
    have e1 : IntKind.u16.max = 65535 := by decide
    omega
  refine ⟨100000, ?_⟩
  unfold timesynclaw50_LogbookBack.f
  rw [awake_at 100000 (by decide)]
  by_cases c : (l0.length : Int) > 600
  · rw [if_pos c]; rfl
  · rw [if_neg c]
    unfold logbook_Text.f
    rw [Option.bind_some]
    by_cases e : chk l0 = 0
    · have hw1 : wrap64 ((l0.length : Int) + 1) = (l0.length : Int) + 1 := by unfold wrap64; omega
      have hw2 : wrap64 a1 = a1 := by unfold wrap64; omega
      have hok := chk_ok e
      have hll := lines_len l0 hok.2
      have hm0 : 0 ≤ Int.tmod a1 ((l0.length : Int) + 1) := Int.tmod_nonneg _ h1
      have hm1 : Int.tmod a1 ((l0.length : Int) + 1) < (l0.length : Int) + 1 := Int.tmod_lt_of_pos _ (by omega)
      simp only [e, if_true, hw1, hw2]
      rw [if_neg (by omega), if_pos hm0, if_pos (by omega)]
      generalize hkk : (Int.tmod a1 ((l0.length : Int) + 1)).toNat = kk
      rw [Option.bind_some, if_pos (chk_take l0 kk e)]
      have hs : (⟨(l0.flatMap lineOf).toArray⟩ : ByteArray).size = (l0.flatMap lineOf).length := by
        show (l0.flatMap lineOf).toArray.size = _
        simp
      have hs2 : (⟨((l0.take kk).flatMap lineOf).toArray⟩ : ByteArray).size = ((l0.take kk).flatMap lineOf).length := by
        show ((l0.take kk).flatMap lineOf).toArray.size = _
        simp
      by_cases c2 : ((⟨(l0.flatMap lineOf).toArray⟩ : ByteArray).size : Int) > 65536
      · have hp : logbook_Parse.f 100000 (⟨(l0.flatMap lineOf).toArray⟩ : ByteArray) = some (([] : List S37), 0, 6) := by unfold logbook_Parse.f; rw [if_pos c2]
        rw [hp, Option.bind_some, if_pos c2]
        simp
      · have hp := parse_f 100000 (⟨(l0.flatMap lineOf).toArray⟩ : ByteArray) (by omega) (by omega)
        have hb := parse_back l0 100000 [] 1 (by rw [← hs]; omega) hok.2 (by simpa using e)
        rw [show (⟨(l0.flatMap lineOf).toArray⟩ : ByteArray).data.toList = l0.flatMap lineOf by simp, hb] at hp
        rw [hp, Option.bind_some, if_neg c2]
        have hpre : (l0.flatMap lineOf).take ((l0.take kk).flatMap lineOf).length = (l0.take kk).flatMap lineOf := by
          have h : l0.flatMap lineOf = (l0.take kk).flatMap lineOf ++ (l0.drop kk).flatMap lineOf := by
            rw [← List.flatMap_append, List.take_append_drop]
          rw [h, List.take_left']
          rfl
        have hle : ((l0.take kk).flatMap lineOf).length ≤ (l0.flatMap lineOf).length := by
          rw [← hpre, List.length_take]; omega
        simp only [if_true]
        rw [if_pos (by rw [hs, hs2]; omega), if_pos (by omega)]
        have hex : ((⟨(l0.flatMap lineOf).toArray⟩ : ByteArray).extract 0 (((⟨((l0.take kk).flatMap lineOf).toArray⟩ : ByteArray).size : Int)).toNat).toList = (⟨((l0.take kk).flatMap lineOf).toArray⟩ : ByteArray).toList := by
          rw [ByteArray.toList_eq, ByteArray.toList_eq, hs2, Int.toNat_natCast, Lib.extract_from_zero]
          simpa using hpre
        rw [if_pos hex]
        have hsame : api_Entry.f 100000 l0 ([] ++ l0) = some true := by
          rw [List.nil_append]
          unfold api_Entry.f
          rw [if_pos rfl]
          exact same_l0 l0 100000 0 (by decide) (by omega) (by omega) (by omega)
        rw [hsame]
        rfl
    · simp only [e, if_false]
      unfold logbook_Check.f
      rw [if_neg (by decide)]
      simp only [if_true]
      rw [Option.bind_some, if_neg e, if_pos (by rw [ByteArray.toList_eq])]
      rfl
end Go.Proofs.YtjhifhnjkpoofaaDoor.M
