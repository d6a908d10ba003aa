/-
  logbook.readNumbers by hand: strconv.Atoi and the error beside it.
-/
import Derived.Test.YtjhifhnjkpoofaaDoorExtA
import Derived.LoopTactic
import Derived.Lib.Hide
namespace Go.Proofs.YtjhifhnjkpoofaaDoor.M
open Go.RowKit Go.Proofs.YtjhifhnjkpoofaaDoorG Go.Proofs.YtjhifhnjkpoofaaDoorW.PrintWords Go.Proofs.YtjhifhnjkpoofaaDoorW.PrintLast Go.Proofs.YtjhifhnjkpoofaaDoorW.PrintMore
set_option linter.unusedVariables false
set_option linter.unusedSimpArgs false
theorem canons_none {l : List ByteArray} {s : ByteArray} (hm : s ∈ l) (h : canon s = none) : canons l = none := by
  induction l with
  | nil => simp at hm
  | cons a l ih =>
    unfold canons
    rcases List.mem_cons.1 hm with rfl | hm
    · rw [h]
    · rw [ih hm]
      cases canon a <;> rfl
theorem canons_snoc (l : List ByteArray) (s : ByteArray) (vs : List Int) (v : Int) (h : canons l = some vs) (hs : canon s = some v) : canons (l ++ [s]) = some (vs ++ [v]) := by
  induction l generalizing vs with
  | nil =>
    obtain rfl := Option.some.inj h
    simp [canons, hs]
  | cons a l ih =>
    unfold canons at h
    cases ha : canon a with
    | none => rw [ha] at h; simp at h
    | some b =>
      cases hl : canons l with
      | none => rw [ha, hl] at h; simp at h
      | some bs =>
        rw [ha, hl] at h
        obtain rfl := Option.some.inj h
        rw [List.cons_append]
        unfold canons
        rw [ha, ih bs hl]
        rfl
theorem atoi_range {l : List UInt8} {v : Int} (h : Lib.atoiAll l = .ok v) : -9223372036854775808 ≤ v ∧ v ≤ 9223372036854775807 := by
  unfold Lib.atoiAll at h
  cases l with
  | nil => cases h
  | cons c r =>
    simp only at h
    generalize (if c.toNat = 43 ∨ c.toNat = 45 then r else c :: r) = m at h
    cases hm : Lib.parseMag m with
    | range => rw [hm] at h; cases h
    | ok u =>
      rw [hm] at h
      simp only at h
      split at h
      · cases h
      · split at h
        · cases h
        · injection h with h
          subst h
          split <;> omega
    | _ => rw [hm] at h; cases h
theorem below_bytes (w : World) (e : TypeId) (s : ByteArray) : Below w.heap.size w (Lib.bytesWorld w e s) :=
  ⟨rfl, rfl, rfl, by rw [Lib.bytesWorld_size]; omega, fun k hk => Lib.bytesWorld_at_old w e s k hk⟩
theorem rds_mem (l : List ByteArray) (x : Int) (h0 : 0 ≤ x) (h1 : x < l.length) : rdOf ByteArray.empty l x ∈ l ∧ l.take (x + 1).toNat = l.take x.toNat ++ [rdOf ByteArray.empty l x] := by
  have hl : x.toNat < l.length := by omega
  have e : rdOf ByteArray.empty l x = l[x.toNat] := by simp [rdOf, List.getD, hl]
  rw [e, show (x + 1).toNat = x.toNat + 1 by omega]
  exact ⟨List.getElem_mem hl, List.take_succ_eq_append_getElem hl⟩
/-- The numbers of a list of strings, or none. -/
def outs (l : List ByteArray) : List Int × Bool := match canons l with
  | some vs => (vs, true)
  | none => ([], false)
set_option maxHeartbeats 3200000 in
set_option maxRecDepth 100000 in
theorem numbers_calls (A0 : Option Addr) (c0 : Nat) (l0 : List ByteArray) (w : World) (hG : Glob w) (hr0 : Kd.C Kd.string w A0 l0.length l0) (hlen : l0.length < 1000000) (hsz : ∀ s ∈ l0, s.size ≤ 1000000) :
    Calls Tryd.prog 41 #[.slice A0 l0.length c0] w fun e w' => ∃ v0_ : Value, e = .returned (.tuple #[v0_, .bool (outs l0).2]) ∧ Kd.R (Kd.int .i64) 3 w' w.heap.size (fun _ => True) v0_ (outs l0).1 ∧ Below w.heap.size w w' := by
  have HR0 := Aside0.mk hr0
  have HG := Aside0.mk hG
  have HS := Aside0.mk hsz
  have HL := Aside0.mk hlen
  have HB := Aside0.mk (Below.refl w.heap.size w)
  clear hr0 hG hsz hlen
  go_enter Tryd.func41, Tryd.ntmps41
  go_wp2
  go_loopw [4, 11] (fun v i wr => ∃ (x : Int) (vs : List Int), i = .int .i64 x ∧ Aside0 (0 ≤ x ∧ x ≤ l0.length) ∧ Aside0 (canons (l0.take x.toNat) = some vs ∧ vs.length ≤ x.toNat) ∧ Aside0 (Kd.R (Kd.int .i64) 3 wr w.heap.size (fun _ => True) v vs) ∧ Aside0 (Below w.heap.size w wr)) (fun _ i _ => l0.length - (intOf i).toNat)
  case atStart => exact ⟨0, [], rfl, ⟨by omega, by omega⟩, ⟨rfl, by simp⟩, ⟨Kd.R_nil _ _ _ _ _⟩, HB⟩
  case round =>
    obtain ⟨x, vs, rfl, HX, HE, HO, HB⟩ := hrel
    have x0 := HX.out.1
    by_cases c3 : x < (l0.length : Int)
    · have c3b0 : decide (x < (l0.length : Int)) = true := decide_eq_true c3
      have p0 : decide (0 ≤ x) = true := decide_eq_true x0
      obtain ⟨ad, ead, hx0⟩ := Kd.at_string HR0.out x x0 c3
      cases ead
      replace hx0 := (HB.out.cell (World.block_lt_of_cell? w _ hx0)).trans hx0
      have p := eq_true x0
      have q := eq_true c3
      have HX2 := Aside0.mk c3
      have HWX : Aside0 (wrap64 (x + 1) = x + 1) := ⟨by have := HL.out; have := HX2.out; unfold wrap64; omega⟩
      have HMEM := Aside0.mk (rds_mem l0 x x0 c3)
      have hss := HS.out _ HMEM.out.1
      generalize rdOf ByteArray.empty l0 x = s at *
      have HSS := Aside0.mk hss
      clear hss
      cases hA : Lib.atoiAll s.data.toList with
      | range =>
        have HN : Aside0 (outs l0 = ([], false)) := ⟨by unfold outs; rw [canons_none HMEM.out.1 (by unfold canon; rw [hA])]⟩
        obtain ⟨tp, pp, hv⟩ := (HG.out.below HB.out).rng
        go_wp2_with fail
        refine (Tryd.strconv_Atoi_range_var s (by have := HSS.out; omega) hA tp pp _ hv).mono ?_
        rintro e w1 ⟨NN, rfl, _, _, hb1⟩
        have HB1 := Aside0.mk (below_step HB.out hb1)
        clear hb1
        go_wp2
        go_ret2
        rw [HN.out]
        exact ⟨_, rfl, Kd.R_nil _ _ _ _ _, HB1.out⟩
      | ok v =>
        have hvr := atoi_range hA
        have HI : Aside0 (strconv_Itoa.f v = some ⟨(Lib.itoa v).toArray⟩) := ⟨by unfold strconv_Itoa.f; rw [if_pos hvr]⟩
        go_wp2_with fail
        refine (Tryd.strconv_Atoi_ok s (by have := HSS.out; omega) v hA _).mono ?_
        rintro e w1 ⟨rfl, hw1⟩
        have hb1 : Below wr.heap.size wr w1 := by
          rcases hw1 with rfl | ⟨t, rfl⟩
          · exact Below.refl _ _
          · exact below_bytes _ _ _
        have HB1 := Aside0.mk (below_step HB.out hb1)
        have HO1 := Aside0.mk (Kd.R_below HO.out hb1)
        clear hb1 hw1 HO HB hx0
        go_wp2_with fail
        refine (strconv_Itoa.calls v _ _ (HG.out.below HB1.out) HI.out).mono ?_
        rintro e w2 ⟨rfl, hb2⟩
        have HB := Aside0.mk (below_step HB1.out hb2)
        have HO := Aside0.mk (Kd.R_below HO1.out hb2)
        clear hb2 HO1 HB1
        by_cases hc : Lib.itoa v = s.data.toList
        · have hcs : canon s = some v := by unfold canon; rw [hA]; simp only [if_pos hc]
          have HN : Aside0 (canons (l0.take (x + 1).toNat) = some (vs ++ [v])) := ⟨by rw [HMEM.out.2]; exact canons_snoc _ _ _ _ HE.out.1 hcs⟩
          have hb0 : ((⟨(Lib.itoa v).toArray⟩ : ByteArray).toList == s.toList) = true := by rw [ByteArray.toList_eq, ByteArray.toList_eq]; simp [hc]
          have hb1 : ((⟨(Lib.itoa v).toArray⟩ : ByteArray).toList != s.toList) = false := by unfold bne; rw [hb0]; rfl
          generalize (⟨(Lib.itoa v).toArray⟩ : ByteArray) = sv at *
          clear hc hA
          have HVL : Aside0 (vs.length ≤ 1000000) := ⟨by have := HE.out.2; have := HL.out; have := HX2.out; omega⟩
          go_wp2_with (first | ((with_reducible refine gate_builtin (b := .append) (xs := #[.tmp 28, .tmp 30]) rfl ?_); at_builtin; refine Kd.R_append (Kd.int .i64) (w0 := w) w.heap.size rfl (.tmp 28) (.tmp 30) 65 3 (.int .i64 0) 8 rfl Tryd.underlying65 info3 rfl (by decide) (by omega) u4 vs v [.int .i64 v] (fun _ => True) (fun _ => False) rfl rfl ?aP (fun _ hk => hk.elim) ?aF ?aO ?aB ?aS ?aL ?_; (case aP => exact rfl); (case aB => exact (by repeat (first | (with_reducible first | exact HB.out | apply below_alloc | apply pw_below_drewN | apply below_drew1) | exact HB.out))); (case aF => exact (fun _ _ => trivial)); (case aO => exact (by (with_reducible repeat (first | apply Kd.R_alloc | apply Kd.R_drewN | apply Kd.R_drew)); exact HO.out)); (case aS => exact (below_size (by repeat (first | (with_reducible first | exact HB.out | apply below_alloc | apply pw_below_drewN | apply below_drew1) | exact HB.out)))); (case aL => have := HVL.out; omega); intro v125 w8 ho hb hg hat; have HB8 := Aside0.mk (hb); have HO8 := Aside0.mk (ho); clear HB; clear HO; clear ho hb hg hat) | go_in)
          go_round
          case rel => exact ⟨x + 1, vs ++ [v], by rw [HWX.out], ⟨by have := HX.out; omega, by have := HX2.out; omega⟩, ⟨HN.out, by have := HE.out.2; have := HX.out.1; rw [List.length_append]; simp; omega⟩, HO8, HB8⟩
          case measure => have := HX2.out; have := HX.out; simp only [intOf, HWX.out]; omega
        · have hcs : canon s = none := by unfold canon; rw [hA]; simp only [if_neg hc]
          have HN : Aside0 (outs l0 = ([], false)) := ⟨by unfold outs; rw [canons_none HMEM.out.1 hcs]⟩
          have hb0 : ((⟨(Lib.itoa v).toArray⟩ : ByteArray).toList == s.toList) = false := by rw [ByteArray.toList_eq, ByteArray.toList_eq]; simpa using hc
          have hb1 : ((⟨(Lib.itoa v).toArray⟩ : ByteArray).toList != s.toList) = true := by unfold bne; rw [hb0]; rfl
          generalize (⟨(Lib.itoa v).toArray⟩ : ByteArray) = sv at *
          clear hc hA
          go_wp2
          go_ret2
          rw [HN.out]
          exact ⟨_, rfl, Kd.R_nil _ _ _ _ _, HB.out⟩
      | _ =>
        have HN : Aside0 (outs l0 = ([], false)) := ⟨by unfold outs; rw [canons_none HMEM.out.1 (by unfold canon; rw [hA])]⟩
        obtain ⟨tp, pp, hv⟩ := (HG.out.below HB.out).syn
        go_wp2_with fail
        refine (Tryd.strconv_Atoi_syntax_var s (by have := HSS.out; omega) (fun v e => by rw [hA] at e; cases e) (fun e => by rw [hA] at e; cases e) tp pp _ hv).mono ?_
        rintro e w1 ⟨NN, rfl, _, _, hb1⟩
        have HB1 := Aside0.mk (below_step HB.out hb1)
        clear hb1
        go_wp2
        go_ret2
        rw [HN.out]
        exact ⟨_, rfl, Kd.R_nil _ _ _ _ _, HB1.out⟩
    · have c3b0 : decide (x < (l0.length : Int)) = false := decide_eq_false c3
      have HN : Aside0 (outs l0 = (vs, true)) := ⟨by
        have h := HE.out.1
        rw [List.take_of_length_le (by omega)] at h
        unfold outs
        rw [h]⟩
      go_wp2
      go_ret2
      rw [HN.out]
      exact ⟨_, rfl, HO.out, HB.out⟩
theorem logbook_readNumbers.calls (A0 : Option Addr) (c0 : Nat) (l0 : List ByteArray) (r1 : List Int) (r2 : Bool) (w : World) (hG : Glob w) (hr0 : Kd.C Kd.string w A0 l0.length l0) (hc0 : l0.length ≤ c0) (h : logbook_readNumbers.f l0 = some (r1, r2)) :
    Calls Tryd.prog 41 #[.slice A0 l0.length c0] w fun e w' => ∃ v0_ : Value, e = .returned (.tuple #[v0_, .bool r2]) ∧ Kd.R (Kd.int .i64) 3 w' w.heap.size (fun _ => True) v0_ r1 ∧ Below w.heap.size w w' := by
  unfold logbook_readNumbers.f at h
  split at h
  · rename_i hh
    injection h with h
    have h : outs l0 = (r1, r2) := h
    have := numbers_calls A0 c0 l0 w hG hr0 hh.1 hh.2
    rw [h] at this
    exact this
  · cases h
end Go.Proofs.YtjhifhnjkpoofaaDoor.M
