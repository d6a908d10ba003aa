import Derived.Test.YtdhoidhbhkgfgaaDoorExtA
import Derived.Lib.ConvBytes
import Derived.Lib.Hide
import Derived.LoopTactic
namespace Go.Proofs.YtdhoidhbhkgfgaaDoor.M
open Go.RowKit Go.Proofs.YtdhoidhbhkgfgaaDoorG Go.Proofs.YtdhoidhbhkgfgaaDoorW.PrintWords Go.Proofs.YtdhoidhbhkgfgaaDoorW.PrintLast
set_option linter.unusedVariables false
set_option linter.unusedSimpArgs false
open Go.Lib (bytesWorld bytesWorld_cell bytesWorld_at_old bytesWorld_size)

theorem ret_int {k : IntKind} {a b : Int} (h : a = b) : Ending.returned (.int k a) = .returned (.int k b) := by rw [h]
theorem below_bytes (w : World) (e : TypeId) (s : ByteArray) : Below w.heap.size w (bytesWorld w e s) :=
  ⟨rfl, rfl, rfl, by rw [bytesWorld_size]; omega, fun k hk => bytesWorld_at_old w e s k hk⟩

theorem numFrom_step (l : List UInt8) (k : Nat) (hk : k < l.length) (m : Int) :
    numFrom (l.drop k) m = if (l.getD k 0).toNat < 48 ∨ 57 < (l.getD k 0).toNat then -1 else numFrom (l.drop (k + 1)) (10 * m + ((l.getD k 0).toNat - 48)) := by
  rw [List.drop_eq_getElem_cons hk, numFrom]
  simp [List.getD_eq_getElem?_getD, List.getElem?_eq_getElem hk]

set_option maxHeartbeats 1600000 in
set_option maxRecDepth 100000 in
theorem number_calls (a0 : ByteArray) (w : World) (hs : a0.size ≤ 15) :
    Calls Tryd.prog 45 #[.string a0] w fun e w' => e = .returned (.int .i64 (numFrom a0.data.toList 0)) ∧ Below w.heap.size w w' := by
  have hcv := fun W : World => Lib.run_convert_string_bytes (P := Tryd.prog) W 9 37 5 a0 Tryd.underlying9 Tryd.underlying37 Tryd.underlying5
  have hlen : a0.data.toList.length = a0.size := Array.length_toList
  have HL := Lib.hid hlen
  clear hlen
  have hbel := Lib.hid (below_bytes w 5 a0)
  have hcell := Lib.hid (bytesWorld_cell w 5 a0)
  go_enter Tryd.func45, Tryd.ntmps45
  go_wp2
  clear hcv
  generalize bytesWorld w 5 a0 = W at *
  go_loop [3, 9] (fun n i => ∃ (k : Nat) (m : Int), k ≤ a0.size ∧ i = .int .i64 k ∧ n = .int .i64 m ∧ 0 ≤ m ∧ m < 10 ^ k ∧ Hid (numFrom (a0.data.toList.drop k) m = numFrom a0.data.toList 0)) (fun _ i => a0.size - (intOf i).toNat)
  case atStart => exact ⟨0, 0, Nat.zero_le _, rfl, rfl, by omega, by decide, rfl⟩
  case round =>
    obtain ⟨k, m, hk, rfl, rfl, h0, h1, hn⟩ := hrel
    by_cases hlt : k < a0.size
    · have hc := hcell.out k hlt
      have hst := numFrom_step a0.data.toList k (by rw [HL.out]; exact hlt) m
      generalize hcc : (a0.data.toList.getD k 0).toNat = c at *
      have hc256 : c < 256 := by rw [← hcc]; exact UInt8.toNat_lt _
      clear hcc
      have hp : (10 : Int) ^ k ≤ 100000000000000 := by
        have : (10 : Nat) ^ k ≤ 10 ^ 14 := Nat.pow_le_pow_right (by decide) (by omega)
        have h2 : ((10 ^ k : Nat) : Int) ≤ ((10 ^ 14 : Nat) : Int) := by exact_mod_cast this
        simpa using h2
      have hp1 : (10 : Int) ^ (k + 1) = 10 * 10 ^ k := by rw [Int.pow_succ]; omega
      have HP := Lib.hid hp1
      clear hp1
      generalize (10 : Int) ^ k = p at *
      by_cases hlo : c < 48
      · have HF : Hid (numFrom a0.data.toList 0 = -1) := by rw [← hn.out, hst, if_pos (.inl hlo)]; rfl
        clear hst hn
        go_wp2
        go_ways
        all_goals (go_ret; exact ⟨ret_int HF.out.symm, hbel.out⟩)
      · by_cases hhi : 57 < c
        · have HF : Hid (numFrom a0.data.toList 0 = -1) := by rw [← hn.out, hst, if_pos (.inr hhi)]; rfl
          clear hst hn
          go_wp2
          go_ret
          exact ⟨ret_int HF.out.symm, hbel.out⟩
        · have HF : Hid (numFrom (a0.data.toList.drop (k + 1)) (10 * m + (c - 48)) = numFrom a0.data.toList 0) := by rw [← hn.out, hst, if_neg (by omega)]; rfl
          clear hst hn
          go_wp2
          go_round
          case rel => exact ⟨k + 1, 10 * m + (c - 48), by omega, by go_num, rfl, by omega, by rw [HP.out]; omega, HF⟩
          case measure => simp [intOf]; omega
    · obtain rfl : k = a0.size := by omega
      have HF : Hid (m = numFrom a0.data.toList 0) := by
        have := hn.out
        rw [List.drop_eq_nil_of_le (by rw [HL.out]; omega)] at this
        exact this
      clear hn
      go_wp2
      go_ret
      exact ⟨ret_int HF.out, hbel.out⟩

theorem ptime_number.calls (a0 : ByteArray) (r : Int) (w : World) (h : ptime_number.f a0 = some r) :
    Calls Tryd.prog 45 #[.string a0] w fun e w' => e = .returned (.int .i64 r) ∧ Below w.heap.size w w' := by
  unfold ptime_number.f at h
  split at h
  · rename_i hs
    injection h with h
    subst h
    exact number_calls a0 w hs
  · cases h
end Go.Proofs.YtdhoidhbhkgfgaaDoor.M
