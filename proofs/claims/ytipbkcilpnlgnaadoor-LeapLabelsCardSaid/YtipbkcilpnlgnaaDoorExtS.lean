/-
  strings.Builder's copyCheck and WriteString at this dump, by hand: whatever the builder holds, the string's bytes come behind.
-/
/-
  What leap.Text needs, plain: the lines of a table, their lengths; what a builder keeps.
-/
import Derived.Test.YtipbkcilpnlgnaaDoorShelf
import Derived.Test.YtipbkcilpnlgnaaDoorExtD
import Derived.Lib.ItoaLen
section
namespace Go.Proofs
open Go.RowKit Go.Shelf
set_option linter.unusedVariables false
set_option linter.unusedSimpArgs false
set_option maxHeartbeats 1000000 in
set_option maxRecDepth 100000 in
theorem Tryd.bd_check_used (b : Nat) (w : World) (h0 : w.cell? ⟨b, 0, none⟩ = some (.pointer (some ⟨b, 0, none⟩))) :
    Calls Tryd.prog 49 #[.pointer (some ⟨b, 0, none⟩)] w fun e w' => e = .returned (.tuple #[]) ∧ w' = w := by
  obtain ⟨j, hj, _⟩ := Option.map_eq_some_iff.1 Tryd.Builder_Extra_169.sizeBuilder
  have hn := Lib.run_neq_ptr_same (P := Tryd.prog) w ⟨b, 0, none⟩ Tryd.underlying67 hj
  go_enter Tryd.func49, Tryd.ntmps49
  go_wp2
  go_end0
  exact ⟨rfl, rfl⟩
set_option maxHeartbeats 1000000 in
set_option maxRecDepth 100000 in
theorem Tryd.bd_check_fresh (b : Nat) (w : World) (h0 : w.cell? ⟨b, 0, none⟩ = some (.pointer none)) (hsh : w.shape? b = some (70, 2)) (hfz : w.frozen? ⟨b, 0, none⟩ = false) :
    Calls Tryd.prog 49 #[.pointer (some ⟨b, 0, none⟩)] w fun e w' => e = .returned (.tuple #[]) ∧ w' = w.setCell ⟨b, 0, none⟩ (.pointer (some ⟨b, 0, none⟩)) := by
  obtain ⟨j, hj, hjs⟩ := Option.map_eq_some_iff.1 Tryd.Builder_Extra_169.sizeBuilder
  go_enter Tryd.func49, Tryd.ntmps49
  go_wp2
  rw [Lib.run_to_unsafe w ⟨b, 0, none⟩ Tryd.underlying67 Tryd.underlying89 hj (by rw [hjs]; decide) hsh (Nat.zero_lt_succ 1)]
  simp only [Result.andThen]
  rw [Oper.upon_value]
  go_wp2
  rw [run_callFunc_extern Tryd.func63 (by kernel_rfl) (by kernel_rfl) (by kernel_rfl) (e := Extern.AbiNoEscape.same) (by kernel_rfl)]
  rw [Lib.run_noEscape]
  simp only [Result.andThen]
  rw [Oper.upon_value]
  go_wp2
  rw [Lib.run_from_unsafe w ⟨b, 0, none⟩ Tryd.underlying89 Tryd.underlying67 hj hsh Tryd.Builder_Extra_169.liesBuilder]
  simp only [Result.andThen]
  rw [Oper.upon_value]
  go_wp2
  go_end0
  exact ⟨rfl, rfl⟩
theorem Tryd.bd_check (B b : Nat) (bs : List Value) (w : World) (h : Lib.IsBuilderF 70 5 B b bs w) :
    Calls Tryd.prog 49 #[.pointer (some ⟨b, 0, none⟩)] w fun e w' => e = .returned (.tuple #[]) ∧ (Lib.BuilderAtF 70 5 B b (.pointer (some ⟨b, 0, none⟩)) bs w' ∧ Below B w w' ∧ Lib.OthersKept 5 (some b) w w') := by
  rcases h with h | h
  · refine (Tryd.bd_check_fresh b w h.cell0 h.shape h.frozen0).mono ?_
    rintro e w' ⟨rfl, rfl⟩
    exact ⟨rfl, h.used _, (Below.refl B w).setCell (p := ⟨b, 0, none⟩) h.1 _, (Lib.OthersKept.refl _ _ w).setCell ⟨b, 0, none⟩ rfl _⟩
  · refine (Tryd.bd_check_used b w h.cell0).mono ?_
    rintro e w' ⟨rfl, rfl⟩
    exact ⟨rfl, h, Below.refl B _, Lib.OthersKept.refl _ _ _⟩
set_option maxHeartbeats 2000000 in
set_option maxRecDepth 100000 in
theorem Tryd.bd_write (B b : Nat) (bs : List Value) (s : ByteArray) (w : World) (h : Lib.IsBuilderF 70 5 B b bs w) (hlen : bs.length + s.size ≤ 140737488355328) (hBw : B ≤ w.heap.size) :
    Calls Tryd.prog 39 #[.pointer (some ⟨b, 0, none⟩), .string s] w fun e w' => e = .returned (.tuple #[.int .i64 s.size, .nilIface]) ∧ (Lib.IsBuilderF 70 5 B b (bs ++ Lib.strCells s) w' ∧ Below B w w' ∧ Lib.OthersKept 5 (some b) w w') := by
  obtain ⟨i0, hi, hz0, hz1, hz2⟩ := info_parts Tryd.Builder_Extra_169.infoByte
  go_enter Tryd.func39, Tryd.ntmps39
  go_wp2_with fail
  refine (Tryd.bd_check B b bs _ h).mono ?_
  rintro e w1 ⟨rfl, h1, hb1, hk1⟩
  obtain ⟨hB, v, hbk, hown, hne⟩ := h1
  have c0 : w1.cell? ⟨b, 0, none⟩ = some (.pointer (some ⟨b, 0, none⟩)) := by rw [Lib.cell_of_heap hbk]; rfl
  have c1 : w1.cell? ⟨b, 1, none⟩ = some v := by rw [Lib.cell_of_heap hbk]; rfl
  go_wp2_with (at_builtin; refine Lib.wpList_append_own_stringF _ rfl _ _ 68 9 rfl B 5 i0 Tryd.underlying68 Tryd.underlying9 hi hz0 hz1 hz2 _ _ _ rfl hown s rfl ?c3 ?c4 ?c5 ?_)
  case c3 => unfold maxLen; omega
  case c4 => omega
  case c5 => have := hb1.size; omega
  intro v' w2 hown' hgrow _
  have hlt : b < w1.heap.size := by
    rcases Nat.lt_or_ge b w1.heap.size with h' | h'
    · exact h'
    · simp [Array.getElem?_eq_none h'] at hbk
  have hb2 : w2.heap[b]? = some (.cells #[.pointer (some ⟨b, 0, none⟩), v] 70 (0, 0)) := by
    rw [hgrow.block b hlt (fun e => hne e.symm)]
    exact hbk
  have d0 : w2.cell? ⟨b, 0, none⟩ = some (.pointer (some ⟨b, 0, none⟩)) := by rw [Lib.cell_of_heap hb2]; rfl
  have d1 : w2.cell? ⟨b, 1, none⟩ = some v := by rw [Lib.cell_of_heap hb2]; rfl
  have f1 : w2.frozen? ⟨b, 1, none⟩ = false := Lib.frozen_of_heap hb2 1
  obtain ⟨ao, n', cap, rfl⟩ : ∃ ao n' cap, v' = .slice ao n' cap := by
    rcases hown'.2 with ⟨hv, _⟩ | ⟨g, cap, cur, fz, hv, _⟩
    · exact ⟨_, _, _, hv⟩
    · exact ⟨_, _, _, hv⟩
  go_wp2
  go_ret2
  refine ⟨rfl, .inr ?_, ?_, (hk1.grown hgrow (Lib.ownsRowF_kind hown)).setCell ⟨b, 1, none⟩ rfl _⟩
  · exact Lib.BuilderAtF.put (T := 70) (e := 5) hB hb2 (bs' := bs ++ Lib.strCells s) (by simpa [Lib.strCells_length] using hown') (by decide)
  · exact (hb1.grown hgrow (by have := hb1.size; omega) (fun k hk => (hown.lt k hk).1)).setCell (p := ⟨b, 1, none⟩) hB _
end Go.Proofs
end
section
namespace Go.Proofs.YtipbkcilpnlgnaaDoor.M
open Go.RowKit Go.Proofs.YtipbkcilpnlgnaaDoorG Go.Proofs.YtipbkcilpnlgnaaDoorW.PA Go.Proofs.YtipbkcilpnlgnaaDoorW.PB Go.Proofs.YtipbkcilpnlgnaaDoorW.PC
set_option linter.unusedVariables false
set_option linter.unusedSimpArgs false
/-! what the builder keeps -/
theorem ownF_below {w w' : World} {base size n : Nat} {e : TypeId} {v : Value} {xs : List Value} (h : w.ownsRowF base e size v n xs) (hb : Below w.heap.size w w') : w'.ownsRowF base e size v n xs := by
  obtain ⟨h1, h2⟩ := h
  refine ⟨h1, ?_⟩
  rcases h2 with h2 | ⟨g, cap, cur, fz, rfl, hg, hh, r⟩
  · exact .inl h2
  · exact .inr ⟨g, cap, cur, fz, rfl, hg, (hb.block g (blk_lt hh)).trans hh, r⟩
theorem bd_below {w w' : World} {B b : Nat} {bs : List Value} (h : Lib.IsBuilderF 70 5 B b bs w) (hb : Below w.heap.size w w') : Lib.IsBuilderF 70 5 B b bs w' := by
  rcases h with h | h
  · obtain ⟨h1, v, h2, h3, h4⟩ := h
    exact .inl ⟨h1, v, (hb.block b (blk_lt h2)).trans h2, ownF_below h3 hb, h4⟩
  · obtain ⟨h1, v, h2, h3, h4⟩ := h
    exact .inr ⟨h1, v, (hb.block b (blk_lt h2)).trans h2, ownF_below h3 hb, h4⟩
theorem ent_len (x : S44) (h : (-9223372036854775808 ≤ x.f0 ∧ x.f0 ≤ 9223372036854775807) ∧ (-9223372036854775808 ≤ x.f1 ∧ x.f1 ≤ 9223372036854775807)) : (entLine x).length ≤ 50 := by
  have h1 := Lib.itoa_length_le x.f0 h.1.1 h.1.2
  have h2 := Lib.itoa_length_le x.f1 h.2.1 h.2.2
  unfold entLine
  simp only [List.length_append, List.length_cons, List.length_nil]
  omega
def Wide (x : S44) : Prop := (-9223372036854775808 ≤ x.f0 ∧ x.f0 ≤ 9223372036854775807) ∧ (-9223372036854775808 ≤ x.f1 ∧ x.f1 ≤ 9223372036854775807)
theorem ents_len : ∀ (l : List S44), (∀ x ∈ l, Wide x) → (l.flatMap entLine).length ≤ l.length * 50
  | [], _ => by simp
  | x :: l, h => by
    have h1 := ent_len x (h x List.mem_cons_self)
    have h3 := ents_len l (fun m hm => h m (List.mem_cons_of_mem _ hm))
    simp only [List.flatMap_cons, List.length_append, List.length_cons]
    omega
theorem mem_rd {l : List S44} {x : Int} (h0 : 0 ≤ x) (h1 : x < l.length) : rd_T44 l x ∈ l := by
  have hl : x.toNat < l.length := by omega
  have e : rd_T44 l x = l[x.toNat] := by simp [rd_T44, List.getD, hl]
  rw [e]; exact List.getElem_mem hl
theorem ents_step (l : List S44) (x : Int) (h0 : 0 ≤ x) (h1 : x < l.length) : (l.take (x + 1).toNat).flatMap entLine = (l.take x.toNat).flatMap entLine ++ entLine (rd_T44 l x) := by
  have hl : x.toNat < l.length := by omega
  have e : rd_T44 l x = l[x.toNat] := by simp [rd_T44, List.getD, hl]
  rw [e, show (x + 1).toNat = x.toNat + 1 by omega, List.take_succ_eq_append_getElem hl, List.flatMap_append]
  simp
theorem cells_add (l m : List UInt8) : Lib.byteCells l ++ Lib.strCells ⟨m.toArray⟩ = Lib.byteCells (l ++ m) := by
  simp [Lib.byteCells, Lib.strCells]
theorem cells_len (l : List UInt8) : (Lib.byteCells l).length = l.length := by
  simp [Lib.byteCells]
/-! what a valid table bears -/
def EntOk (x : S44) : Prop := (-8000000000 ≤ x.f0 ∧ x.f0 ≤ 8000000000) ∧ (-1000 ≤ x.f1 ∧ x.f1 ≤ 1000)
theorem inside_eq (n : Int) : leap_inside.f n = some (decide (-8000000000 ≤ n ∧ n ≤ 8000000000)) := by
  unfold leap_inside.f
  by_cases h : n ≥ -8000000000
  · rw [if_pos h]; congr 1; simp; omega
  · rw [if_neg h]; congr 1; simp; omega
theorem l0_bad (l : List S44) (n : Int) (b e : Int) : ∀ (k : Nat) (i r : Int), leap_Check.l0 k false l n i b e l = some r → r = 3
  | 0, i, r, h => by simp [leap_Check.l0] at h
  | k + 1, i, r, h => by
    simp only [leap_Check.l0] at h
    split at h
    · split at h
      · split at h
        · rw [if_neg (by decide)] at h
          exact l0_bad l n b e k _ r h
        · cases h
      · cases h
    · rw [if_neg (by decide)] at h
      injection h with h
      exact h.symm
theorem l0_good (l : List S44) (b e : Int) (hl : l.length ≤ 64) : ∀ (k : Nat) (i : Int), leap_Check.l0 k true l l.length i b e l = some 0 → 0 ≤ i → ∀ j : Int, i ≤ j → j < l.length → EntOk (rd_T44 l j)
  | 0, i, h, _, _, _, _ => by simp [leap_Check.l0] at h
  | k + 1, i, h, hi, j, h1, h2 => by
    simp only [leap_Check.l0, if_true] at h
    rw [if_pos (by omega), if_pos hi, if_pos (by omega), inside_eq, Option.bind_some] at h
    have hw : wrap64 (i + 1) = i + 1 := by unfold wrap64; omega
    rw [hw] at h
    by_cases c1 : -8000000000 ≤ (rd_T44 l i).f0 ∧ (rd_T44 l i).f0 ≤ 8000000000
    · rw [if_pos (decide_eq_true c1)] at h
      by_cases c2 : (rd_T44 l i).f1 ≥ -1000
      · rw [if_pos c2] at h
        by_cases c3 : (rd_T44 l i).f1 ≤ 1000
        · rw [decide_eq_true c3] at h
          by_cases c4 : i = j
          · rw [← c4]; exact ⟨c1, c2, c3⟩
          · exact l0_good l b e hl k (i + 1) h (by omega) j (by omega) h2
        · rw [decide_eq_false c3] at h
          have := l0_bad l _ b e k _ _ h
          cases this
      · rw [if_neg c2] at h
        have := l0_bad l _ b e k _ _ h
        cases this
    · rw [if_neg (by rw [decide_eq_false c1]; decide)] at h
      have := l0_bad l _ b e k _ _ h
      cases this
theorem check_ok (k : Nat) (b e : Int) (l : List S44) (h : leap_Check.f k b e l = some 0) : (-1000 ≤ b ∧ b ≤ 1000) ∧ (-8000000000 ≤ e ∧ e ≤ 8000000000) ∧ l.length ≤ 64 ∧ ∀ x ∈ l, EntOk x := by
  have hj : ∀ {x3 : Bool}, leap_Check.j0 k x3 b e l = some 0 → x3 = false → False := by
    intro x3 h hx
    subst hx
    cases k with
    | zero => simp [leap_Check.j0] at h
    | succ k =>
      simp only [leap_Check.j0] at h
      have := l0_bad l _ b e k _ _ h
      cases this
  unfold leap_Check.f at h
  by_cases c1 : (l.length : Int) > 64
  · rw [if_pos c1] at h; cases h
  · rw [if_neg c1] at h
    by_cases c2 : b ≥ -1000
    · rw [if_pos c2] at h
      by_cases c3 : b ≤ 1000
      · rw [if_pos c3, inside_eq, Option.bind_some] at h
        by_cases c4 : -8000000000 ≤ e ∧ e ≤ 8000000000
        · rw [decide_eq_true c4] at h
          refine ⟨⟨c2, c3⟩, c4, by omega, ?_⟩
          cases k with
          | zero => simp [leap_Check.j0] at h
          | succ k =>
            simp only [leap_Check.j0] at h
            intro x hx
            obtain ⟨i, hi, rfl⟩ := List.getElem_of_mem hx
            have := l0_good l b e (by omega) k 0 h (by decide) (i : Int) (by omega) (by omega)
            have e1 : rd_T44 l (i : Int) = l[i] := by simp [rd_T44, List.getD, hi]
            rw [e1] at this
            exact this
        · rw [decide_eq_false c4] at h
          exact (hj h rfl).elim
      · rw [if_neg c3] at h
        exact (hj h rfl).elim
    · rw [if_neg c2] at h
      exact (hj h rfl).elim
end Go.Proofs.YtipbkcilpnlgnaaDoor.M
end
