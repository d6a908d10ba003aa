/-
  timesyncref50.entry by hand: a loop over the kinds' names, a loop over the words with a local array.
-/
import Derived.Test.YtjhifhnjkpoofaaDoorPi
import Derived.Test.YtjhifhnjkpoofaaDoorExtL
import Derived.Test.YtjhifhnjkpoofaaDoorM4
import Derived.Test.YtjhifhnjkpoofaaDoorM6
import Derived.Test.YtjhifhnjkpoofaaDoorM7
namespace Go.Proofs.YtjhifhnjkpoofaaDoor.M
open Go.RowKit Go.Proofs.YtjhifhnjkpoofaaDoorG Go.Proofs.YtjhifhnjkpoofaaDoorW.PrintWords Go.Proofs.YtjhifhnjkpoofaaDoorW.PrintLast Go.Proofs.YtjhifhnjkpoofaaDoorW.PrintMore
set_option linter.unusedVariables false
set_option linter.unusedSimpArgs false
def entryT : Bool × List (List Nat × List Nat) := (true, [([], []), ([0], [0]), ([1], [1]), ([], []), ([3], [3]), ([2, 4], [2, 4])])
def entryB : List Nat := [0, 1, 3, 0, 8, 31]
theorem entryt : rtab .any (opsOf Tryd.f29 6) = entryT := by kernel_rfl
theorem entryb : waitsOk entryT.2 entryB = true := by kernel_rfl
/-- The kind whose word w is, among the first n. -/
def kN (w : List UInt8) : Nat → Int
  | 0 => 0
  | n + 1 => if w = wordOf ((n : Int) + 1) then (n : Int) + 1 else kN w n
theorem kN_range (w : List UInt8) : ∀ n, 0 ≤ kN w n ∧ kN w n ≤ n
  | 0 => by simp [kN]
  | n + 1 => by
    have := kN_range w n
    unfold kN
    split <;> omega
theorem kN_word (w : List UInt8) : ∀ n, kN w n ≠ 0 → w = wordOf (kN w n)
  | 0, h => by simp [kN] at h
  | n + 1, h => by
    unfold kN at h ⊢
    split
    · rename_i e; exact e
    · rename_i e; rw [if_neg e] at h; exact kN_word w n h
theorem kN_none (w : List UInt8) : ∀ n, kN w n = 0 → ∀ k : Int, 1 ≤ k → k ≤ n → w ≠ wordOf k
  | 0, _, k, h1, h2 => by omega
  | n + 1, h, k, h1, h2 => by
    unfold kN at h
    split at h
    · omega
    · rename_i e
      by_cases c : k = (n : Int) + 1
      · rw [c]; exact e
      · exact kN_none w n h k h1 (by omega)
def cntOf (k : Int) : Int := if k = 1 ∨ k = 2 then 5 else if k = 3 then 4 else if k = 4 then 3 else 0
def outE (a : ByteArray) : S37 × Bool := match entryOf (wordsOf a.data.toList []) with
  | some x => (x, true)
  | none => (⟨0, 0, 0, 0, 0, 0⟩, false)
theorem entry_none0 (w : ByteArray) (l : List ByteArray) (h : kN w.data.toList 4 = 0) : entryOf (w :: l) = none := by
  have h1 := kN_none _ 4 h 1 (by decide) (by decide)
  have h2 := kN_none _ 4 h 2 (by decide) (by decide)
  have h3 := kN_none _ 4 h 3 (by decide) (by decide)
  have h4 := kN_none _ 4 h 4 (by decide) (by decide)
  unfold entryOf
  simp only
  cases canons l with
  | none => rfl
  | some n =>
    simp only
    rw [if_neg (fun e => h1 e.1), if_neg (fun e => h2 e.1), if_neg (fun e => h3 e.1), if_neg (fun e => h4 e.1)]
theorem canons_len : ∀ {l : List ByteArray} {ns : List Int}, canons l = some ns → ns.length = l.length := fun {l ns} h => by
  have := congrArg List.length (canons_map h)
  simpa using this.symm
theorem entry_none1 (w : ByteArray) (l : List ByteArray) (h : ((l.length : Int) + 1) ≠ cntOf (kN w.data.toList 4)) : entryOf (w :: l) = none := by
  have hr := kN_range w.data.toList 4
  unfold entryOf
  simp only
  cases hc : canons l with
  | none => rfl
  | some n =>
    have hl := canons_len hc
    simp only
    by_cases h0 : kN w.data.toList 4 = 0
    · have := entry_none0 w l h0
      unfold entryOf at this
      simp only [hc] at this
      exact this
    · have hw := kN_word _ 4 h0
      have hk : kN w.data.toList 4 = 1 ∨ kN w.data.toList 4 = 2 ∨ kN w.data.toList 4 = 3 ∨ kN w.data.toList 4 = 4 := by omega
      rw [hw]
      rcases hk with e | e | e | e <;> rw [e] at h ⊢ <;> simp [cntOf] at h <;> simp [wordOf] <;> omega
theorem entry_none2 (w : ByteArray) (l : List ByteArray) (h : canons l = none) : entryOf (w :: l) = none := by
  unfold entryOf
  simp only [h]
theorem canons_bad : ∀ (l : List ByteArray) (j : Nat) (hj : j < l.length), canon l[j] = none → canons l = none
  | s :: l, 0, hj, h => by
    unfold canons
    simp only [List.getElem_cons_zero] at h
    rw [h]
  | s :: l, j + 1, hj, h => by
    unfold canons
    simp only [List.getElem_cons_succ] at h
    rw [canons_bad l j (by simpa using hj) h]
    cases canon s <;> rfl
theorem canons_end : ∀ (l : List ByteArray) (ns : List Int) (s : ByteArray) (v : Int), canons l = some ns → canon s = some v → canons (l ++ [s]) = some (ns ++ [v])
  | [], ns, s, v, h, hs => by
    unfold canons at h
    injection h with h
    subst h
    simp only [List.nil_append]
    unfold canons canons
    rw [hs]
  | t :: l, ns, s, v, h, hs => by
    rw [List.cons_append]
    unfold canons at h ⊢
    split at h
    · rename_i x xs h1 h2
      injection h with h
      subst h
      rw [h1, canons_end l xs s v h2 hs]
      rfl
    · cases h
def arrOf (ns : List Int) : Array Value := #[.int .i64 0, .int .i64 (ns.getD 0 0), .int .i64 (ns.getD 1 0), .int .i64 (ns.getD 2 0), .int .i64 (ns.getD 3 0)]
theorem arr_put (ns : List Int) (v : Int) (h : ns.length ≤ 3) : (arrOf ns).setIfInBounds (ns.length + 1) (.int .i64 v) = arrOf (ns ++ [v]) := by
  match ns, h with
  | [], _ => rfl
  | [a], _ => rfl
  | [a, b], _ => rfl
  | [a, b, c], _ => rfl
theorem arr_get (ns : List Int) (i : Nat) (h : i < 5) : ∃ x, (arrOf ns)[i]? = some (.int .i64 x) := by
  have : i = 0 ∨ i = 1 ∨ i = 2 ∨ i = 3 ∨ i = 4 := by omega
  rcases this with h | h | h | h | h <;> subst h <;> exact ⟨_, rfl⟩
set_option maxHeartbeats 3200000 in
set_option maxRecDepth 100000 in
theorem entry_calls (a0 : ByteArray) (w : World) (hs : a0.size ≤ 100000) :
    Calls Tryd.prog 29 #[.string a0] w fun e w' => e = .returned (.tuple #[encEntry (outE a0).1, .bool (outE a0).2]) ∧ Below w.heap.size w w' := by
  have hu37 := Tryd.underlying37
  have hu75 := Tryd.underlying75
  have HB := Aside0.mk (Below.refl w.heap.size w)
  have HW := Aside0.mk (refwords_eq a0 (by omega))
  have HL : Aside0 (1 ≤ (wordsOf a0.data.toList []).length ∧ (wordsOf a0.data.toList []).length < 1000000) := ⟨by
    have h1 := words_len_le a0.data.toList []
    rw [sizeL] at h1
    omega⟩
  have HSZ : Aside0 (∀ s ∈ wordsOf a0.data.toList [], s.size ≤ 100000) := ⟨fun s hm => by
    have := words_mem_le a0.data.toList [] s hm
    rw [sizeL] at this
    simp only [List.length_nil] at this
    omega⟩
  clear hs
  generalize hws : wordsOf a0.data.toList [] = ws at *
  have HOUT : Aside0 (outE a0 = match entryOf ws with
    | some x => (x, true)
    | none => (⟨0, 0, 0, 0, 0, 0⟩, false)) := ⟨by unfold outE; rw [hws]⟩
  clear hws
  go_enter Tryd.func29, Tryd.ntmps29
  go_wp2_with fail
  refine (timesyncref50_words.calls _ a0 ws _ HW.out).mono ?_
  rintro e w1 ⟨v0, rfl, ho0, hb1⟩
  have hbx : Box w1 w.heap.size ⟨0, 0, 0, 0, 0, 0⟩ := (hb1.block _ (by rw [size_alloc]; omega)).trans (block_new _ _)
  have HBX1 := Aside0.mk hbx
  have HB1 := Aside0.mk (below_step (below_alloc HB.out _) hb1)
  have HO1 := Aside0.mk (Kd.R_lower ho0 (by rw [size_alloc]; exact Nat.le_succ _) : Kd.R Kd.string 9 w1 w.heap.size (fun _ => True) v0 ws)
  clear ho0 hb1 HB hbx HW
  obtain ⟨A, c, hv⟩ := Kd.R_slice HO1.out
  subst hv
  obtain ⟨w0, wl, rfl⟩ : ∃ w0 wl, ws = w0 :: wl := by
    cases ws with
    | nil => exact absurd HL.out.1 (by simp)
    | cons a l => exact ⟨a, l, rfl⟩
  obtain ⟨ad, ea, hs0⟩ := Kd.at_string (Kd.R_reads' HO1.out).2.2 0 (by decide) (by simp only [List.length_cons]; omega)
  cases ea
  clear hs0
  have hwl : (0 < wl.length + 1) = True := eq_true (by omega)
  go_wp2
  go_loopw [5, 6] (fun v i wr => ∃ n : Nat, i = .int .i64 ((n : Int) + 1) ∧ v = .int .i64 (kN w0.data.toList n) ∧ Aside0 (n ≤ 4) ∧ Aside0 (Below w.heap.size w wr) ∧ Aside0 (Box wr w.heap.size ⟨0, 0, 0, 0, 0, 0⟩) ∧ Aside0 (Kd.R Kd.string 9 wr w.heap.size (fun _ => True) (.slice (some ad) (w0 :: wl).length c) (w0 :: wl))) (fun _ i _ => 6 - (intOf i).toNat)
  case atStart => exact ⟨0, rfl, rfl, ⟨by decide⟩, HB1, HBX1, HO1⟩
  case round =>
    clear HB1 HBX1 HO1
    obtain ⟨n, rfl, rfl, HN, HB, HBX, HO⟩ := hrel
    by_cases c3 : (n : Int) + 1 ≤ 4
    · have c3b : decide ((n : Int) + 1 ≤ 4) = true := decide_eq_true c3
      have HN4 : Aside0 (n < 4) := ⟨by omega⟩
      have HWX : Aside0 (wrap64 ((n : Int) + 1 + 1) = (n : Int) + 1 + 1) := ⟨by have := HN.out; unfold wrap64; omega⟩
      have hnm := name_eq ((n : Int) + 1) (by omega) c3
      obtain ⟨ad2, ea, hs0⟩ := Kd.at_string (Kd.R_reads' HO.out).2.2 0 (by decide) (by simp only [List.length_cons]; omega)
      cases ea
      replace hs0 : wr.cell? ad = some (.string w0) := by rw [show ((0 : Int)).toNat = 0 from rfl, Addr.add_zero'] at hs0; exact hs0
      go_wp2
      refine start_ (n := 6) (S := fun w' => w'.cell? ad = some (.string w0)) (ds := []) #[false, false, false, false, false, false] (by kernel_rfl) rfl rfl hs0 (fun hHeld => ?_)
      refine with_tabW entryt entryb (fun HT_ HW_ => ?_)
      have HB2 := Aside0.mk (below_drew1 HB.out)
      have HBX2 := Aside0.mk (box_drew HBX.out)
      have HO2 := Aside0.mk (Kd.R_drew HO.out)
      clear HB HBX HO hs0
      generalize wr.drew = W2 at *
      refine pure_ (i := 0) (N := some 18) (v := ?_) (a' := ?_) #[true, false, false, false, false, false] rfl rfl (any_of HT_.out (by kernel_rfl)) (fun _ _ _ h => h) (Or.inl ⟨by rfl, ?_⟩) ?_ ?_
      rotate_left
      · intro w'
        go_simp
        with_reducible rfl
      rotate_left
      · simp only [Act.put, List.setIfInBounds_toArray, List.set_cons_zero, List.set_cons_succ, i64_w, i32_w]
        rfl
      refine pure_ (i := 1) (N := some 19) (v := ?_) (a' := ?_) #[true, true, false, false, false, false] rfl rfl (any_of HT_.out (by kernel_rfl)) (fun _ _ _ h => h) (Or.inl ⟨by rfl, ?_⟩) ?_ ?_
      rotate_left
      · intro w'
        go_simp
        with_reducible rfl
      rotate_left
      · simp only [Act.put, List.setIfInBounds_toArray, List.set_cons_zero, List.set_cons_succ, i64_w, i32_w]
        rfl
      refine take_ (i := 2) (N := some 20) (v := ?_) (a' := ?_) #[true, true, true, false, false, false] rfl rfl (take_ofW HT_.out HW_.out (by kernel_rfl)) (fun _ _ _ h => h) (Or.inl ⟨by rfl, ?_⟩) hHeld ?_ ?_
      rotate_left
      · rintro w' s0
        go_simp
        with_reducible rfl
      rotate_left
      · simp only [Act.put, List.setIfInBounds_toArray, List.set_cons_zero, List.set_cons_succ, i64_w, i32_w]
        rfl
      refine pure_ (i := 3) (N := some 21) (v := ?_) (a' := ?_) #[true, true, true, true, false, false] rfl rfl (any_of HT_.out (by kernel_rfl)) (fun _ _ _ h => h) (Or.inl ⟨by rfl, ?_⟩) ?_ ?_
      rotate_left
      · intro w'
        go_simp
        with_reducible rfl
      rotate_left
      · simp only [Act.put, List.setIfInBounds_toArray, List.set_cons_zero, List.set_cons_succ, i64_w, i32_w]
        rfl
      refine one_ (i := 4) (N := some 22) #[true, true, true, true, true, false] rfl rfl (one_of HT_.out (by kernel_rfl)) (by decide) (fun K hK => ?_)
      refine goes_ Tryd.func43 (by kernel_rfl) rfl #[.int .i64 ((n : Int) + 1)] (by rfl) rfl rfl (by simp only [List.map_toArray, List.map_cons, List.map_nil]; rfl) ?_
      refine (timesyncref50_name.calls _ _ _ hnm).mono ?_
      rintro e w3 ⟨rfl, hb⟩
      refine ⟨_, rfl, ?_⟩
      have hs3 : w3.cell? ad = some (.string w0) := (hb.cell (World.block_lt_of_cell? _ _ hHeld)).trans hHeld
      have hbx3 : Box w3 w.heap.size ⟨0, 0, 0, 0, 0, 0⟩ := (hb.block _ (lt_of_some HBX2.out)).trans HBX2.out
      have HBX3 := Aside0.mk hbx3
      have HB3 := Aside0.mk (below_step HB2.out hb)
      have HO3 := Aside0.mk (Kd.R_below HO2.out hb)
      clear hb HB2 HBX2 HO2 hbx3 hHeld
      refine hK.out _ _ hs3 (fun hHeld => ?_)
      clear hK K hs3
      refine norm_ (a' := ?_) ?_ ?_
      rotate_left
      · show Act.put _ (some 22) _ = _
        simp only [Act.put, List.setIfInBounds_toArray, List.set_cons_zero, List.set_cons_succ, i64_w, i32_w]
        rfl
      refine pure_ (i := 5) (N := some 23) (v := ?_) (a' := ?_) #[true, true, true, true, true, true] rfl rfl (any_of HT_.out (by kernel_rfl)) (fun _ _ _ h => h) (Or.inl ⟨by rfl, ?_⟩) ?_ ?_
      rotate_left
      · intro w'
        go_simp
        with_reducible rfl
      rotate_left
      · simp only [Act.put, List.setIfInBounds_toArray, List.set_cons_zero, List.set_cons_succ, i64_w, i32_w]
        rfl
      refine done_ (by kernel_rfl) ?_
      clear hHeld HT_ HW_
      have HD := Aside0.mk (ByteArray.toList_eq w0)
      by_cases cq : w0.data.toList = wordOf ((n : Int) + 1)
      · have cqb : (w0.toList == wordOf ((n : Int) + 1)) = true := beq_iff_eq.mpr (by rw [HD.out]; exact cq)
        have hk : kN w0.data.toList (n + 1) = (n : Int) + 1 := by unfold kN; rw [if_pos cq]
        clear cq
        rw [cqb]
        go_wp2
        go_round
        case rel => exact ⟨n + 1, by (try rw [HWX.out]); push_cast; rfl, by rw [hk], ⟨by have := HN4.out; omega⟩, HB3, HBX3, HO3⟩
        case measure => have := HN4.out; (try rw [HWX.out]); simp only [intOf]; omega
      · have cqb : (w0.toList == wordOf ((n : Int) + 1)) = false := beq_eq_false_iff_ne.mpr (by rw [HD.out]; exact cq)
        have hk : kN w0.data.toList (n + 1) = kN w0.data.toList n := by rw [show kN w0.data.toList (n + 1) = if w0.data.toList = wordOf ((n : Int) + 1) then (n : Int) + 1 else kN w0.data.toList n from rfl, if_neg cq]
        clear cq
        rw [cqb]
        go_wp2
        go_round
        case rel => exact ⟨n + 1, by (try rw [HWX.out]); push_cast; rfl, by rw [hk], ⟨by have := HN4.out; omega⟩, HB3, HBX3, HO3⟩
        case measure => have := HN4.out; (try rw [HWX.out]); simp only [intOf]; omega
    · obtain rfl : n = 4 := by have := HN.out; omega
      clear c3
      have hr := kN_range w0.data.toList 4
      have hE0 := Aside0.mk (entry_none0 w0 wl)
      have hE1 := Aside0.mk (entry_none1 w0 wl)
      have hKW := Aside0.mk (kN_word w0.data.toList 4)
      generalize kN w0.data.toList 4 = kd at *
      have hk4 : kd < 5 := by omega
      have hk0 : 0 ≤ kd := by omega
      have hkq := eq_true hk4
      have hkp := eq_true hk0
      have hc0 : rd [0, 5, 5, 4, 3] kd = cntOf kd := by
        have : kd = 0 ∨ kd = 1 ∨ kd = 2 ∨ kd = 3 ∨ kd = 4 := by omega
        rcases this with h | h | h | h | h <;> subst h <;> rfl
      have HK := Aside0.mk hr
      clear hr
      by_cases cz : kd = 0
      · have czb : (kd == 0) = true := beq_iff_eq.mpr cz
        have HZ : Aside0 (outE a0 = (⟨0, 0, 0, 0, 0, 0⟩, false)) := ⟨by rw [HOUT.out, hE0.out cz]⟩
        clear cz
        go_wp2_with (first | ((with_reducible refine gate_dst (N := 25) rfl ?_); refine Kd.R_lit (Kd.int .i64) _ 3 ?hg (N := 25) ?hd (xs := ([0, 5, 5, 4, 3] : List Int)) (inner := [.int .i64 0, .int .i64 5, .int .i64 5, .int .i64 4, .int .i64 3]) (ok := fun _ => True) (okp := fun _ => True) ?hr ?hp (fun _ hk => hk) trivial (Below.refl _ _) (Nat.le_refl _) (by simp) ?_; (case hd => rfl); (case hg => rfl); (case hr => first | (go_simp; done) | (go_simp; rfl)); (case hp => exact (Reps.one (show Kd.M (Kd.int .i64) _ _ _ (0 : Int) [.int .i64 0] from rfl) (Reps.one (show Kd.M (Kd.int .i64) _ _ _ (5 : Int) [.int .i64 5] from rfl) (Reps.one (show Kd.M (Kd.int .i64) _ _ _ (5 : Int) [.int .i64 5] from rfl) (Reps.one (show Kd.M (Kd.int .i64) _ _ _ (4 : Int) [.int .i64 4] from rfl) (Reps.one (show Kd.M (Kd.int .i64) _ _ _ (3 : Int) [.int .i64 3] from rfl) (Reps.none _ _))))))); intro vc w5 hoc hb hg_ hnew_; clear hg_ hnew_; have hbx5 : Box w5 w.heap.size ⟨0, 0, 0, 0, 0, 0⟩ := (hb.block _ (lt_of_some HBX.out)).trans HBX.out; have HBX5 := Aside0.mk hbx5; obtain ⟨b0, b1, b2, b3, b4, b5⟩ := hbx5.cells; obtain ⟨z0, z1, z2, z3, z4, z5⟩ := boxZ hbx5; clear hbx5; have HB5 := Aside0.mk (below_step HB.out hb); have HO5 := Aside0.mk (Kd.R_below HO.out hb); clear HB HBX HO hb; obtain ⟨Ac, cc, hvc⟩ := Kd.R_slice hoc; subst hvc; obtain ⟨adc, eac, hcc⟩ := Kd.at_int (k := .i64) (Kd.R_reads' hoc).2.2 kd hk0 (by simpa using hk4); cases eac; rw [hc0] at hcc; clear hoc) | go_in)
        have hf := fin6 (W := w5) (Nat.le_refl w.heap.size) HBX5.out HB5.out (⟨0, 0, 0, 0, 0, 0⟩ : S37)
        refine bodyPost_ret (results_ct rfl _ _ w.heap.size 37 _ (0, 0) _ rfl hf.1 Tryd.underlying37 rfl (by kernel_rfl)) rfl ?_
        exact ⟨by rw [HZ.out]; rfl, hf.2⟩
      · have czb : (kd == 0) = false := beq_eq_false_iff_ne.mpr cz
        have HCZ := Aside0.mk cz
        clear cz
        by_cases cn : ((wl.length : Int) + 1) = cntOf kd
        · have cnb : (((wl.length : Int) + 1) != cntOf kd) = false := bne_eq_false_iff_eq.mpr cn
          have HCN := Aside0.mk cn
          clear cn
          go_wp2_with (first | ((with_reducible refine gate_dst (N := 25) rfl ?_); refine Kd.R_lit (Kd.int .i64) _ 3 ?hg (N := 25) ?hd (xs := ([0, 5, 5, 4, 3] : List Int)) (inner := [.int .i64 0, .int .i64 5, .int .i64 5, .int .i64 4, .int .i64 3]) (ok := fun _ => True) (okp := fun _ => True) ?hr ?hp (fun _ hk => hk) trivial (Below.refl _ _) (Nat.le_refl _) (by simp) ?_; (case hd => rfl); (case hg => rfl); (case hr => first | (go_simp; done) | (go_simp; rfl)); (case hp => exact (Reps.one (show Kd.M (Kd.int .i64) _ _ _ (0 : Int) [.int .i64 0] from rfl) (Reps.one (show Kd.M (Kd.int .i64) _ _ _ (5 : Int) [.int .i64 5] from rfl) (Reps.one (show Kd.M (Kd.int .i64) _ _ _ (5 : Int) [.int .i64 5] from rfl) (Reps.one (show Kd.M (Kd.int .i64) _ _ _ (4 : Int) [.int .i64 4] from rfl) (Reps.one (show Kd.M (Kd.int .i64) _ _ _ (3 : Int) [.int .i64 3] from rfl) (Reps.none _ _))))))); intro vc w5 hoc hb hg_ hnew_; clear hg_ hnew_; have hbx5 : Box w5 w.heap.size ⟨0, 0, 0, 0, 0, 0⟩ := (hb.block _ (lt_of_some HBX.out)).trans HBX.out; have HBX5 := Aside0.mk hbx5; obtain ⟨b0, b1, b2, b3, b4, b5⟩ := hbx5.cells; obtain ⟨z0, z1, z2, z3, z4, z5⟩ := boxZ hbx5; clear hbx5; have HB5 := Aside0.mk (below_step HB.out hb); have HO5 := Aside0.mk (Kd.R_below HO.out hb); clear HB HBX HO hb; obtain ⟨Ac, cc, hvc⟩ := Kd.R_slice hoc; subst hvc; obtain ⟨adc, eac, hcc⟩ := Kd.at_int (k := .i64) (Kd.R_reads' hoc).2.2 kd hk0 (by simpa using hk4); cases eac; rw [hc0] at hcc; clear hoc) | go_in)
          have HWL : Aside0 (wl.length ≤ 4) := ⟨by
            have h := HCN.out
            unfold cntOf at h
            have := HK.out
            split at h
            · omega
            · split at h
              · omega
              · split at h <;> omega⟩
          have hblk : (w5.alloc (.cells #[.int .i64 0, .int .i64 0, .int .i64 0, .int .i64 0, .int .i64 0] 75)).heap[w5.heap.size]? = some (.cells #[.int .i64 0, .int .i64 0, .int .i64 0, .int .i64 0, .int .i64 0] 75 (0, 0)) := block_new _ _
          have HBLK := Aside0.mk hblk
          have HB6 := Aside0.mk (below_alloc HB5.out (.cells #[.int .i64 0, .int .i64 0, .int .i64 0, .int .i64 0, .int .i64 0] 75))
          have HBX6 := Aside0.mk (HBX5.out.alloc (.cells #[.int .i64 0, .int .i64 0, .int .i64 0, .int .i64 0, .int .i64 0] 75))
          have HO6 := Aside0.mk (Kd.R_alloc HO5.out (.cells #[.int .i64 0, .int .i64 0, .int .i64 0, .int .i64 0, .int .i64 0] 75))
          have HG : Aside0 (w.heap.size ≤ w5.heap.size ∧ w5.heap.size ≠ w.heap.size) := ⟨HB5.out.size, fun e => by have := lt_of_some HBX5.out; omega⟩
          clear hblk HB5 HBX5 HO5 b0 b1 b2 b3 b4 b5 z0 z1 z2 z3 z4 z5 hcc
          generalize (w5.alloc (.cells #[.int .i64 0, .int .i64 0, .int .i64 0, .int .i64 0, .int .i64 0] 75)) = W6 at *
          generalize w5.heap.size = g at *
          go_loopw [9] (fun i wr => ∃ (j : Nat) (ns : List Int), i = .int .i64 ((j : Int) + 1) ∧ Aside0 (j ≤ wl.length) ∧ Aside0 (canons (wl.take j) = some ns) ∧ Aside0 (Below w.heap.size w wr) ∧ Aside0 (Box wr w.heap.size ⟨0, 0, 0, 0, 0, 0⟩) ∧ Aside0 (Kd.R Kd.string 9 wr w.heap.size (fun _ => True) (.slice (some ad) (w0 :: wl).length c) (w0 :: wl)) ∧ Aside0 (wr.heap[g]? = some (.cells (arrOf ns) 75 (0, 0)))) (fun i _ => 6 - (intOf i).toNat)
          case atStart => exact ⟨0, [], rfl, ⟨by omega⟩, ⟨rfl⟩, HB6, HBX6, HO6, HBLK⟩
          case round =>
            clear HB6 HBX6 HO6 HBLK
            obtain ⟨j, ns, rfl, HJ, HNS, HB, HBX, HO, HBLK⟩ := hrel
            have HNL : Aside0 (ns.length = j) := ⟨by rw [canons_len HNS.out, List.length_take]; have := HJ.out; omega⟩
            by_cases c6 : (j : Int) + 1 < (wl.length : Int) + 1
            · have c6b : decide ((j : Int) + 1 < (wl.length : Int) + 1) = true := decide_eq_true c6
              have hj0 : (0 : Int) ≤ (j : Int) + 1 := by omega
              have HJL : Aside0 (j < wl.length) := ⟨by omega⟩
              have HWJ : Aside0 (wrap64 ((j : Int) + 1 + 1) = (j : Int) + 1 + 1) := ⟨by have := HWL.out; unfold wrap64; omega⟩
              have pj := eq_true hj0
              have qj := eq_true c6
              have pj2 : decide ((0 : Int) ≤ (j : Int) + 1) = true := decide_eq_true hj0
              obtain ⟨ad3, ea3, hs3⟩ := Kd.at_string (Kd.R_reads' HO.out).2.2 ((j : Int) + 1) hj0 (by simp only [List.length_cons]; omega)
              cases ea3
              have hst : rdOf ByteArray.empty (w0 :: wl) ((j : Int) + 1) = wl[j]'HJL.out := by
                rw [rdOf, show ((j : Int) + 1).toNat = j + 1 by omega]
                simp [HJL.out]
              rw [hst] at hs3
              have hs3' := hs3
              rw [show ((j : Int) + 1).toNat = j + 1 by omega] at hs3'
              replace hs3' : wr.cell? ⟨ad.block, ad.off + (j + 1), none⟩ = some (.string (wl[j]'HJL.out)) := hs3'
              obtain ⟨v, b, hf, hcn⟩ := number_eq 70 (by decide) (wl[j]'HJL.out) (HSZ.out _ (List.mem_cons_of_mem _ (List.getElem_mem _)))
              have HCV := Aside0.mk hcn
              have HSN : Aside0 (wl.take (j + 1) = wl.take j ++ [wl[j]'HJL.out]) := ⟨List.take_succ_eq_append_getElem HJL.out⟩
              have HBAD : Aside0 (canon (wl[j]'HJL.out) = none → canons wl = none) := ⟨canons_bad wl j HJL.out⟩
              have HGOOD : Aside0 (∀ v, canon (wl[j]'HJL.out) = some v → canons (wl.take j ++ [wl[j]'HJL.out]) = some (ns ++ [v])) := ⟨fun v hv => canons_end _ _ _ _ HNS.out hv⟩
              clear hst hcn
              generalize (wl[j]'HJL.out) = sj at *
              go_wp2_with fail
              refine (timesyncref50_number.calls 70 sj v b _ hf).mono ?_
              rintro e w7 ⟨rfl, hb⟩
              have hbx7 : Box w7 w.heap.size ⟨0, 0, 0, 0, 0, 0⟩ := (hb.block _ (lt_of_some HBX.out)).trans HBX.out
              have HBX7 := Aside0.mk hbx7
              have HB7 := Aside0.mk (below_step HB.out hb)
              have HO7 := Aside0.mk (Kd.R_below HO.out hb)
              have hbl7 := (hb.block _ (lt_of_some HBLK.out)).trans HBLK.out
              have HBLK7 := Aside0.mk hbl7
              clear hb HB HBX HO HBLK hs3 hs3' hf
              cases b with
              | false =>
                obtain ⟨b0, b1, b2, b3, b4, b5⟩ := hbx7.cells
                obtain ⟨z0, z1, z2, z3, z4, z5⟩ := boxZ hbx7
                have HZ : Aside0 (outE a0 = (⟨0, 0, 0, 0, 0, 0⟩, false)) := ⟨by rw [HOUT.out, entry_none2 w0 wl (HBAD.out (by rw [HCV.out]; rfl))]⟩
                clear hbx7
                go_wp2
                have hf := fin6 (W := w7) (Nat.le_refl w.heap.size) HBX7.out HB7.out (⟨0, 0, 0, 0, 0, 0⟩ : S37)
                refine bodyPost_ret (results_ct rfl _ _ w.heap.size 37 _ (0, 0) _ rfl hf.1 Tryd.underlying37 rfl (by kernel_rfl)) rfl ?_
                exact ⟨by rw [HZ.out]; rfl, hf.2⟩
              | true =>
                have HNV := Aside0.mk (HGOOD.out v HCV.out)
                rw [← HSN.out] at HNV
                obtain ⟨x7, hx7⟩ := arr_get ns (j + 1) (by have := HWL.out; have := HJL.out; omega)
                have hc7 : w7.cell? ⟨g, j + 1, none⟩ = some (.int .i64 x7) := (blk_cell hbl7 (j + 1)).trans hx7
                have hz7 : w7.frozen? ⟨g, j + 1, none⟩ = false := blk_frozen hbl7 (j + 1)
                have p7 : ((j : Int) + 1 < 5) = True := eq_true (by have := HWL.out; have := HJL.out; omega)
                clear hbx7 hx7
                have hap : (arrOf ns).setIfInBounds (j + 1) (.int .i64 v) = arrOf (ns ++ [v]) := by
                  rw [← HNL.out]
                  exact arr_put ns v (by have := HWL.out; have := HJL.out; have := HNL.out; omega)
                have hput := blk_put hbl7 (j + 1) (.int .i64 v) hap
                have HPUT := Aside0.mk hput
                have HBP := Aside0.mk (below_set (g := g) (j := j + 1) (v := .int .i64 v) HB7.out HG.out.1)
                have HXP : Aside0 (Box (w7.setCell ⟨g, j + 1, none⟩ (.int .i64 v)) w.heap.size ⟨0, 0, 0, 0, 0, 0⟩) := ⟨(Below.heap_setCell w7 ⟨g, j + 1, none⟩ (.int .i64 v) w.heap.size (fun e => HG.out.2 e.symm)).trans HBX7.out⟩
                have HOP := Aside0.mk (Kd.R_mono (Kd.R_move (Kd.R_types HO7.out hbl7 (fun q hq => by
                  have hq9 : q = 9 := by simpa [Kd.string, Kd.scalar] using hq
                  subst hq9; decide)) (fun k hk => Below.heap_setCell w7 ⟨g, j + 1, none⟩ (.int .i64 v) k hk.2)) (fun _ hk => hk.1))
                clear hput hbl7 hap
                go_wp2
                go_round
                case rel => exact ⟨j + 1, ns ++ [v], by (try rw [HWJ.out]); push_cast; rfl, ⟨HJL.out⟩, HNV, HBP, HXP, HOP, HPUT⟩
                case measure => have := HJL.out; have := HWL.out; (try rw [HWJ.out]); simp only [intOf]; omega
            · have c6b : decide ((j : Int) + 1 < (wl.length : Int) + 1) = false := decide_eq_false c6
              have HCA : Aside0 (canons wl = some ns) := ⟨by
                have h := HNS.out
                rwa [List.take_of_length_le (by omega)] at h⟩
              have HNN : Aside0 (ns.length = wl.length) := ⟨canons_len HCA.out⟩
              have hbx8 : Box wr w.heap.size ⟨0, 0, 0, 0, 0, 0⟩ := HBX.out
              obtain ⟨b0, b1, b2, b3, b4, b5⟩ := hbx8.cells
              obtain ⟨z0, z1, z2, z3, z4, z5⟩ := boxZ hbx8
              have k1 : wr.cell? ⟨g, 1, none⟩ = some (.int .i64 (ns.getD 0 0)) := (blk_cell HBLK.out 1).trans rfl
              have k2 : wr.cell? ⟨g, 2, none⟩ = some (.int .i64 (ns.getD 1 0)) := (blk_cell HBLK.out 2).trans rfl
              have k3 : wr.cell? ⟨g, 3, none⟩ = some (.int .i64 (ns.getD 2 0)) := (blk_cell HBLK.out 3).trans rfl
              have k4 : wr.cell? ⟨g, 4, none⟩ = some (.int .i64 (ns.getD 3 0)) := (blk_cell HBLK.out 4).trans rfl
              have hkd : kd = 1 ∨ kd = 2 ∨ kd = 3 ∨ kd = 4 := by have := HK.out; have := HCZ.out; omega
              have hw0 := hKW.out HCZ.out
              have hcn := HCN.out
              rw [← HNN.out] at hcn
              have HOUT2 : Aside0 (outE a0 = match entryOf (w0 :: wl) with
                | some x => (x, true)
                | none => (⟨0, 0, 0, 0, 0, 0⟩, false)) := HOUT
              rcases hkd with h | h | h | h
              · subst h
                have hl4 : ns.length = 4 := by simp [cntOf] at hcn; omega
                have HZ : Aside0 (outE a0 = (⟨1, ns.getD 0 0, ns.getD 1 0, ns.getD 2 0, ns.getD 3 0, 0⟩, true)) := ⟨by rw [HOUT2.out]; simp only [entryOf, HCA.out]; rw [hw0]; simp [wordOf, hl4]⟩
                clear hw0 hcn hl4 hbx8
                go_wp2
                have hf := fin6 (W := wr) (Nat.le_refl w.heap.size) HBX.out HB.out (⟨1, ns.getD 0 0, ns.getD 1 0, ns.getD 2 0, ns.getD 3 0, 0⟩ : S37)
                refine bodyPost_ret (results_ct rfl _ _ w.heap.size 37 _ (0, 0) _ rfl hf.1 Tryd.underlying37 rfl (by kernel_rfl)) rfl ?_
                exact ⟨by rw [HZ.out]; rfl, hf.2⟩
              · subst h
                have hl4 : ns.length = 4 := by simp [cntOf] at hcn; omega
                have HZ : Aside0 (outE a0 = (⟨2, ns.getD 0 0, ns.getD 1 0, ns.getD 2 0, ns.getD 3 0, 0⟩, true)) := ⟨by rw [HOUT2.out]; simp only [entryOf, HCA.out]; rw [hw0]; simp [wordOf, hl4]⟩
                clear hw0 hcn hl4 hbx8
                go_wp2
                have hf := fin6 (W := wr) (Nat.le_refl w.heap.size) HBX.out HB.out (⟨2, ns.getD 0 0, ns.getD 1 0, ns.getD 2 0, ns.getD 3 0, 0⟩ : S37)
                refine bodyPost_ret (results_ct rfl _ _ w.heap.size 37 _ (0, 0) _ rfl hf.1 Tryd.underlying37 rfl (by kernel_rfl)) rfl ?_
                exact ⟨by rw [HZ.out]; rfl, hf.2⟩
              · subst h
                have hl3 : ns.length = 3 := by simp [cntOf] at hcn; omega
                have HZ : Aside0 (outE a0 = (⟨3, ns.getD 0 0, 0, 0, ns.getD 1 0, ns.getD 2 0⟩, true)) := ⟨by rw [HOUT2.out]; simp only [entryOf, HCA.out]; rw [hw0]; simp [wordOf, hl3]⟩
                clear hw0 hcn hl3 hbx8
                go_wp2
                have hf := fin6 (W := wr) (Nat.le_refl w.heap.size) HBX.out HB.out (⟨3, ns.getD 0 0, 0, 0, ns.getD 1 0, ns.getD 2 0⟩ : S37)
                refine bodyPost_ret (results_ct rfl _ _ w.heap.size 37 _ (0, 0) _ rfl hf.1 Tryd.underlying37 rfl (by kernel_rfl)) rfl ?_
                exact ⟨by rw [HZ.out]; rfl, hf.2⟩
              · subst h
                have hl2 : ns.length = 2 := by simp [cntOf] at hcn; omega
                have HZ : Aside0 (outE a0 = (⟨4, ns.getD 0 0, 0, 0, ns.getD 1 0, 0⟩, true)) := ⟨by rw [HOUT2.out]; simp only [entryOf, HCA.out]; rw [hw0]; simp [wordOf, hl2]⟩
                clear hw0 hcn hl2 hbx8
                go_wp2
                have hf := fin6 (W := wr) (Nat.le_refl w.heap.size) HBX.out HB.out (⟨4, ns.getD 0 0, 0, 0, ns.getD 1 0, 0⟩ : S37)
                refine bodyPost_ret (results_ct rfl _ _ w.heap.size 37 _ (0, 0) _ rfl hf.1 Tryd.underlying37 rfl (by kernel_rfl)) rfl ?_
                exact ⟨by rw [HZ.out]; rfl, hf.2⟩
        · have cnb : (((wl.length : Int) + 1) != cntOf kd) = true := bne_iff_ne.mpr cn
          have HZ : Aside0 (outE a0 = (⟨0, 0, 0, 0, 0, 0⟩, false)) := ⟨by rw [HOUT.out, hE1.out cn]⟩
          clear cn
          go_wp2_with (first | ((with_reducible refine gate_dst (N := 25) rfl ?_); refine Kd.R_lit (Kd.int .i64) _ 3 ?hg (N := 25) ?hd (xs := ([0, 5, 5, 4, 3] : List Int)) (inner := [.int .i64 0, .int .i64 5, .int .i64 5, .int .i64 4, .int .i64 3]) (ok := fun _ => True) (okp := fun _ => True) ?hr ?hp (fun _ hk => hk) trivial (Below.refl _ _) (Nat.le_refl _) (by simp) ?_; (case hd => rfl); (case hg => rfl); (case hr => first | (go_simp; done) | (go_simp; rfl)); (case hp => exact (Reps.one (show Kd.M (Kd.int .i64) _ _ _ (0 : Int) [.int .i64 0] from rfl) (Reps.one (show Kd.M (Kd.int .i64) _ _ _ (5 : Int) [.int .i64 5] from rfl) (Reps.one (show Kd.M (Kd.int .i64) _ _ _ (5 : Int) [.int .i64 5] from rfl) (Reps.one (show Kd.M (Kd.int .i64) _ _ _ (4 : Int) [.int .i64 4] from rfl) (Reps.one (show Kd.M (Kd.int .i64) _ _ _ (3 : Int) [.int .i64 3] from rfl) (Reps.none _ _))))))); intro vc w5 hoc hb hg_ hnew_; clear hg_ hnew_; have hbx5 : Box w5 w.heap.size ⟨0, 0, 0, 0, 0, 0⟩ := (hb.block _ (lt_of_some HBX.out)).trans HBX.out; have HBX5 := Aside0.mk hbx5; obtain ⟨b0, b1, b2, b3, b4, b5⟩ := hbx5.cells; obtain ⟨z0, z1, z2, z3, z4, z5⟩ := boxZ hbx5; clear hbx5; have HB5 := Aside0.mk (below_step HB.out hb); have HO5 := Aside0.mk (Kd.R_below HO.out hb); clear HB HBX HO hb; obtain ⟨Ac, cc, hvc⟩ := Kd.R_slice hoc; subst hvc; obtain ⟨adc, eac, hcc⟩ := Kd.at_int (k := .i64) (Kd.R_reads' hoc).2.2 kd hk0 (by simpa using hk4); cases eac; rw [hc0] at hcc; clear hoc) | go_in)
          have hf := fin6 (W := w5) (Nat.le_refl w.heap.size) HBX5.out HB5.out (⟨0, 0, 0, 0, 0, 0⟩ : S37)
          refine bodyPost_ret (results_ct rfl _ _ w.heap.size 37 _ (0, 0) _ rfl hf.1 Tryd.underlying37 rfl (by kernel_rfl)) rfl ?_
          exact ⟨by rw [HZ.out]; rfl, hf.2⟩
theorem timesyncref50_entry.calls (a0 : ByteArray) (r1 : Int) (r2 : Int) (r3 : Int) (r4 : Int) (r5 : Int) (r6 : Int) (r7 : Bool) (w : World) (h : timesyncref50_entry.f a0 = some (r1, r2, r3, r4, r5, r6, r7)) :
    Calls Tryd.prog 29 #[.string a0] w fun e w' => e = .returned (.tuple #[.agg #[.int .i64 r1, .int .i64 r2, .int .i64 r3, .int .i64 r4, .int .i64 r5, .int .i64 r6], .bool r7]) ∧ Below w.heap.size w w' := by
  unfold timesyncref50_entry.f at h
  split at h
  · rename_i hh
    have hc := entry_calls a0 w hh
    unfold outE at hc
    cases he : entryOf (wordsOf a0.data.toList []) with
    | none =>
      rw [he] at h hc
      simp only [Option.some.injEq, Prod.mk.injEq] at h
      obtain ⟨rfl, rfl, rfl, rfl, rfl, rfl, rfl⟩ := h
      exact hc
    | some x =>
      rw [he] at h hc
      simp only [Option.some.injEq, Prod.mk.injEq] at h
      obtain ⟨rfl, rfl, rfl, rfl, rfl, rfl, rfl⟩ := h
      exact hc
  · cases h
end Go.Proofs.YtjhifhnjkpoofaaDoor.M
