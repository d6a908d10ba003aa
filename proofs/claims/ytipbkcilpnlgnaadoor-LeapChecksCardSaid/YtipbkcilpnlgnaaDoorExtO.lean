/-
  leap.head by hand: it writes through two pointers.
-/
import Derived.Test.YtipbkcilpnlgnaaDoorExtQ
namespace Go.Proofs.YtipbkcilpnlgnaaDoor.M
open Go.RowKit Go.Shelf Go.Proofs.YtipbkcilpnlgnaaDoorG Go.Proofs.YtipbkcilpnlgnaaDoorW.PrintWords Go.Proofs.YtipbkcilpnlgnaaDoorW.PrintLast Go.Proofs.YtipbkcilpnlgnaaDoorW.PrintMore
set_option linter.unusedVariables false
set_option linter.unusedSimpArgs false
/-- What leap.head leaves. -/
def HeadPost (s : List UInt8) (kn : Bool) (tb j kb : Nat) (w : World) (e : Ending) (w' : World) : Prop :=
  (headNum s kn = none ∧ e = .returned (.bool false) ∧ Below w.heap.size w w') ∨
  (∃ n w1, headNum s kn = some n ∧ e = .returned (.bool true) ∧ Below w.heap.size w w1 ∧ w' = (w1.setCell ⟨tb, j, none⟩ (.int .i64 n)).setCell ⟨kb, 0, none⟩ (.bool true))
set_option maxHeartbeats 3200000 in
set_option maxRecDepth 100000 in
theorem head_calls (s : ByteArray) (hs : s.size ≤ 1000000) (tb j kb : Nat) (m : Int) (kn : Bool) (w : World) (hG : Glob w) (hp : w.cell? ⟨tb, j, none⟩ = some (.int .i64 m)) (hf : w.frozen? ⟨tb, j, none⟩ = false)
    (hk : w.cell? ⟨kb, 0, none⟩ = some (.bool kn)) (hkf : w.frozen? ⟨kb, 0, none⟩ = false) (htl : tb < w.heap.size) (hkl : kb < w.heap.size) (hne : kb ≠ tb) :
    Calls Tryd.prog 36 #[.string s, .pointer (some ⟨tb, j, none⟩), .pointer (some ⟨kb, 0, none⟩)] w fun e w' => HeadPost s.data.toList kn tb j kb w e w' := by
  have hN := numbers_calls s hs w hG
  have HP := Aside0.mk hp
  have HK := Aside0.mk hk
  have HF := Aside0.mk hf
  have HKF := Aside0.mk hkf
  have HT := Aside0.mk htl
  have HKL := Aside0.mk hkl
  clear hp hk hf hkf hG
  go_enter Tryd.func36, Tryd.ntmps36
  go_wp2_with fail
  refine hN.mono ?_
  rintro e w1 ⟨v0, rfl, hR, hb⟩
  have HB := Aside0.mk hb
  have hc1 := (hb.cell (p := ⟨tb, j, none⟩) HT.out).trans HP.out
  have hc2 := (hb.cell (p := ⟨kb, 0, none⟩) HKL.out).trans HK.out
  have hf1 : w1.frozen? ⟨tb, j, none⟩ = false := by
    have e := hb.block tb HT.out
    have h := HF.out
    unfold World.frozen? at h ⊢
    simp only [e]
    exact h
  have hf2 : w1.frozen? ⟨kb, 0, none⟩ = false := by
    have e := hb.block kb HKL.out
    have h := HKF.out
    unfold World.frozen? at h ⊢
    simp only [e]
    exact h
  clear hb hN htl hkl
  unfold numOut at hR ⊢
  cases hl : lineNums s.data.toList with
  | none =>
    rw [hl] at hR
    have hres : headNum s.data.toList kn = none := by unfold headNum; rw [hl]
    obtain ⟨A, c, rfl⟩ := Kd.R_slice hR
    clear hl hR
    simp only
    go_wp2
    go_ret
    exact .inl ⟨hres, rfl, HB.out⟩
  | some l =>
    rw [hl] at hR
    simp only at hR ⊢
    match l, hl, hR with
    | [], hl, hR =>
      have hres : headNum s.data.toList kn = none := by unfold headNum; rw [hl]
      obtain ⟨A, c, rfl⟩ := Kd.R_slice hR
      clear hl hR
      go_wp2
      go_ret
      exact .inl ⟨hres, rfl, HB.out⟩
    | n :: m :: t, hl, hR =>
      have hres : headNum s.data.toList kn = none := by unfold headNum; rw [hl]
      obtain ⟨A, c, rfl⟩ := Kd.R_slice hR
      have q : (((n :: m :: t).length : Int) == 1) = false := beq_eq_false_iff_ne.mpr (by simp only [List.length_cons]; omega)
      have q1 : (((n :: m :: t).length : Int) != 1) = true := by unfold bne; rw [q]; rfl
      clear hl hR
      generalize (n :: m :: t).length = k at *
      go_wp2
      go_ret
      exact .inl ⟨hres, rfl, HB.out⟩
    | [n], hl, hR =>
      obtain ⟨g, cap, rfl, -⟩ := Kd.R_form hR (by simp)
      have hx : w1.cell? ⟨g, 0, none⟩ = some (.int .i64 n) := (Kd.R_cell 0 hR 0 (by decide) (by simp)).1
      clear hR
      cases kn with
      | true =>
        have hres : headNum s.data.toList true = none := by unfold headNum; rw [hl]; rfl
        clear hl
        go_wp2
        go_ret
        exact .inl ⟨hres, rfl, HB.out⟩
      | false =>
        have hres : headNum s.data.toList false = some n := by unfold headNum; rw [hl]; rfl
        clear hl
        go_wp2
        go_ret
        exact .inr ⟨n, w1, hres, rfl, HB.out, rfl⟩
end Go.Proofs.YtipbkcilpnlgnaaDoor.M
