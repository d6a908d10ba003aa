/-
  leap.fields and leap.numbers by hand.
-/
import Derived.Test.YtipbkcilpnlgnaaDoorExtR
import Derived.Test.YtipbkcilpnlgnaaDoorExtA
import Derived.Maps.OwnIn
import Derived.Maps.AppendAt
namespace Go.Proofs.YtipbkcilpnlgnaaDoor.M
open Go.RowKit Go.Shelf Go.Proofs.YtipbkcilpnlgnaaDoorG Go.Proofs.YtipbkcilpnlgnaaDoorW.PA Go.Proofs.YtipbkcilpnlgnaaDoorW.PB Go.Proofs.YtipbkcilpnlgnaaDoorW.PC
open Go.Proofs.YtipbkcilpnlgnaaDoor.RF
set_option linter.unusedVariables false
set_option linter.unusedSimpArgs false
attribute [local go_sem] Oper.semAt_some
section
variable {F : Fence} {nF : Nat} {P : Program} {ops : Array Oper} {rest : List Oper} {o : Oper} {a : Act} {Q : Exit → Act → World → Prop}
/-- append(v, x) in a round; the goal's world is 'W.alloc' of the variadic's box. -/
theorem in_append {α : Type} (d : Kd α) {w0 W : World} (base : Nat) (hgd : o.guard = none) (s x : Operand) (t e : TypeId) (z : Value) (bytes : Nat)
    (ho : o.op = .call { callee := .builtin .append, args := #[s, x], argTypes := #[t, t] })
    (ht : P.underlying t = some (.slice e)) (hinfo : (P.info? e).map (fun i => (i.zero, i.size, i.bytes)) = some (some z, d.sz, bytes)) (hz : z.cells.size = d.sz) (hs0 : 0 < d.sz) (hb0 : 0 < bytes)
    (v : Value) (xs : List α) (p : α) (cs : List Value) (ok okp : Nat → Prop) (hs : a.eval s = v) (hx : a.eval x = .slice (some ⟨W.heap.size, 0, none⟩) 1 1) (hp : d.M W base okp p cs) (hokp : ∀ k, okp k → ok k ∧ some k ≠ v.ownBlock) (hfresh : ∀ k, W.heap.size ≤ k → ok k)
    (HO : d.R e W base ok v xs) (HB : Below base w0 W) (hbase : base ≤ W.heap.size) (hl : (xs.length + 1) * bytes ≤ 140737488355328)
    (h : ∀ v1 w1, d.R e w1 base ok v1 (xs ++ [p]) → Below base w0 w1 → W.grownBy w1 v.ownBlock → (v1.ownBlock = v.ownBlock ∨ ∃ b, v1.ownBlock = some b ∧ W.heap.size ≤ b) → wpListIn F nF P ops Q rest (a.put o.dst v1) w1) :
    wpListIn F nF P ops Q (o :: rest) a (W.alloc (.cells cs.toArray e)) := by
  obtain ⟨h0, inner, hown, hr⟩ := HO
  obtain ⟨i0, hi, hzz⟩ := Option.map_eq_some_iff.1 hinfo
  simp only [Prod.mk.injEq] at hzz
  obtain ⟨hz0, hz1, hz2⟩ := hzz
  have hys : cs.length = d.sz := d.K_len (d.K_of_M hp)
  have hlen : xs.length + 1 ≤ 140737488355328 := Nat.le_trans (Nat.le_mul_of_pos_right _ hb0) hl
  refine wpListIn_append_own_at (w := W.alloc (.cells cs.toArray e)) hgd s x t ho base e i0 z d.sz bytes ht hi hz0 hz1 hz2 hz hs0 v xs.length inner hs (hown.alloc _) ⟨W.heap.size, 0, none⟩ 1 1 cs hx (by rw [hys]; simp)
    (by simpa using World.news_of_block (cs := cs.toArray) (t := e) (fr := (0, 0)) (World.alloc_heap_new W (.cells cs.toArray e))) (d.K_one (d.K_of_M hp)) (by simp only [maxLen]; omega) hl (by simp; omega) ?_
  intro v1 w1 hown1 hg _ hat
  have hg' := World.grownBy.trans (World.grownBy_alloc W _ _) hg
  have hat' : v1.ownBlock = v.ownBlock ∨ ∃ b, v1.ownBlock = some b ∧ W.heap.size ≤ b := by
    rcases hat with hat | hat
    · exact .inl hat
    · exact .inr ⟨_, hat, by simp⟩
  exact h v1 w1 (Kd.R_appended h0 hr hp hokp hfresh hown1 hg' hat') ((HB.alloc hbase _).grown hg (by simp; omega) (own_base hown)) hg' hat'
end
theorem fieldsB_len : ∀ (l acc x : List UInt8), x ∈ fieldsB acc l → x.length ≤ acc.length + l.length
  | [], acc, x, h => by
    unfold fieldsB at h
    by_cases c : acc = []
    · rw [if_pos c] at h; cases h
    · rw [if_neg c] at h
      obtain rfl := List.mem_singleton.1 h
      simp
  | b :: l, acc, x, h => by
    unfold fieldsB at h
    by_cases c : blankB b = true
    · rw [if_pos c] at h
      by_cases c2 : acc = []
      · rw [if_pos c2] at h
        have := fieldsB_len l [] x h
        simp only [List.length_nil, List.length_cons] at *
        omega
      · rw [if_neg c2] at h
        rcases List.mem_cons.1 h with rfl | h
        · simp
        · have := fieldsB_len l [] x h
          simp only [List.length_nil, List.length_cons] at *
          omega
    · rw [if_neg c] at h
      have := fieldsB_len l (acc ++ [b]) x h
      simp only [List.length_append, List.length_cons, List.length_nil] at *
      omega
theorem numsB_none : ∀ (l r : List (List UInt8)) (acc : List Int), numsB acc l = none → numsB acc (l ++ r) = none
  | [], r, acc, h => by cases h
  | w :: l, r, acc, h => by
    rw [List.cons_append]
    unfold numsB at h ⊢
    split at h
    · split at h
      · rename_i c; rw [if_pos c]
      · rename_i c; rw [if_neg c]; exact numsB_none l r _ h
    · rfl
theorem numsB_snoc : ∀ (l : List (List UInt8)) (x : List UInt8) (acc vs : List Int), numsB acc l = some vs → numsB acc (l ++ [x]) = match canon ⟨x.toArray⟩ with
    | some n => if vs.length = 2 then none else some (vs ++ [n])
    | none => none
  | [], x, acc, vs, h => by
    obtain rfl := Option.some.inj h
    rw [List.nil_append]
    unfold numsB
    rfl
  | w :: l, x, acc, vs, h => by
    rw [List.cons_append]
    unfold numsB at h
    rw [numsB]
    split at h
    · split at h
      · cases h
      · rename_i hc c
        rw [if_neg c]
        exact numsB_snoc l x _ vs h
    · cases h
theorem numsB_le : ∀ (l : List (List UInt8)) (acc vs : List Int), acc.length ≤ 2 → numsB acc l = some vs → vs.length ≤ 2
  | [], acc, vs, ha, h => by obtain rfl := Option.some.inj h; exact ha
  | w :: l, acc, vs, ha, h => by
    unfold numsB at h
    split at h
    · split at h
      · cases h
      · exact numsB_le l _ vs (by rw [List.length_append]; simp only [List.length_cons, List.length_nil]; omega) h
    · cases h
set_option maxHeartbeats 3200000 in
set_option maxRecDepth 100000 in
theorem fields_calls (s : ByteArray) (w : World) : Calls Tryd.prog 47 #[.string s] w fun e w' => e = .returned (.func (.func 60) #[] #[.pointer (some ⟨w.heap.size, 0, none⟩)]) ∧ w' = w.alloc (.cells #[.string s] 9) := by
  go_enter Tryd.func47, Tryd.ntmps47
  go_wp2
  go_ret
  exact ⟨rfl, rfl⟩
/-- What a caller's own blocks abide. -/
theorem R_kept {α : Type} {d : Kd α} {e : Nat} {A B : World} {base bs B0 lo : Nat} {v : Value} {xs : List α} (h : d.R e A base (fun k => lo ≤ k) v xs) (hk : Kept bs B0 A B) (hlo : bs < lo) : d.R e B base (fun k => lo ≤ k) v xs := by
  refine Kd.R_mono (Kd.R_step (Kd.R_bound h) ?_) (fun k hk => hk.1)
  rintro k ⟨h1, h2, h3, q, hq, cells, hc⟩ _
  rw [hc]
  exact hk.block k _ (by omega) hc (.inr rfl)
theorem below_kept {A B w : World} {bs B0 n : Nat} (h : Below n w A) (hk : Kept bs B0 A B) (hn : n ≤ B0) (hb : n ≤ bs) (hw : n ≤ w.heap.size) : Below n w B :=
  ⟨hk.os.trans h.os, hk.tape.trans h.tape, hk.output.trans h.output, Nat.le_trans h.size hk.size, fun k hl => by
    have e := h.block k hl
    obtain ⟨o, ho⟩ : ∃ o, w.heap[k]? = some o := ⟨_, Array.getElem?_eq_some_iff.2 ⟨by omega, rfl⟩⟩
    rw [ho] at e ⊢
    exact hk.block k o (by omega) e (.inl (by omega))⟩
theorem blk_at {A : World} {k : Nat} {cs : Array Value} {t : Nat} {bs B0 : Nat} {B : World} (h : A.heap[k]? = some (.cells cs t (0, 0))) (hk : Kept bs B0 A B) (hne : k ≠ bs) : B.heap[k]? = some (.cells cs t (0, 0)) := hk.block k _ hne h (.inr rfl)
/-- What leap.numbers keeps between two rounds. -/
def NumI (w : World) (pre : List (List UInt8)) (W : World) : Prop :=
  ∃ (acc : List Int) (v : Value), numsB [] pre = some acc ∧ W.heap[w.heap.size]? = some (.cells #[.slice none 0 0] 64 (0, 0)) ∧ W.heap[w.heap.size + 1]? = some (.cells #[.bool false] 4 (0, 0)) ∧
    W.heap[w.heap.size + 2]? = some (.cells #[v] 64 (0, 0)) ∧ (Kd.int .i64).R 3 W w.heap.size (fun k => w.heap.size + 4 ≤ k) v acc ∧ Below w.heap.size w W
theorem NumI.kept {w A B : World} {pre : List (List UInt8)} (h : NumI w pre A) (hk : Kept (w.heap.size + 3) (w.heap.size + 4) A B) : NumI w pre B := by
  obtain ⟨acc, v, h1, h2, h3, h4, h5, h6⟩ := h
  exact ⟨acc, v, h1, blk_at h2 hk (by omega), blk_at h3 hk (by omega), blk_at h4 hk (by omega), R_kept h5 hk (by omega), below_kept h6 hk (by omega) (by omega) (Nat.le_refl _)⟩
/-- What it leaves when a word is no number, or a third one. -/
def NumX (w : World) (words : List (List UInt8)) (c : Code) (W : World) : Prop :=
  c = .ret ∧ numsB [] words = none ∧ W.heap[w.heap.size]? = some (.cells #[.slice none 0 0] 64 (0, 0)) ∧ W.heap[w.heap.size + 1]? = some (.cells #[.bool false] 4 (0, 0)) ∧ Below w.heap.size w W
theorem NumX.kept {w A B : World} {words : List (List UInt8)} {c : Code} (h : NumX w words c A) (hk : Kept (w.heap.size + 3) (w.heap.size + 4) A B) : NumX w words c B := by
  obtain ⟨h0, h1, h2, h3, h6⟩ := h
  exact ⟨h0, h1, blk_at h2 hk (by omega), blk_at h3 hk (by omega), below_kept h6 hk (by omega) (by omega) (Nat.le_refl _)⟩
def numOut (s : List UInt8) : List Int × Bool := match lineNums s with
  | some l => (l, true)
  | none => ([], false)
theorem atoi_range {l : List UInt8} {v : Int} (h : Lib.atoiAll l = .ok v) : -9223372036854775808 ≤ v ∧ v ≤ 9223372036854775807 := by
  unfold Lib.atoiAll at h
  cases l with
  | nil => cases h
  | cons c r =>
    simp only at h
    generalize (if c.toNat = 43 ∨ c.toNat = 45 then r else c :: r) = m at h
    cases hm : Lib.parseMag m with
    | range => rw [hm] at h; cases h
    | ok u =>
      rw [hm] at h
      simp only at h
      split at h
      · cases h
      · split at h
        · cases h
        · injection h with h
          subst h
          split <;> omega
    | _ => rw [hm] at h; cases h
theorem below_bytes (w : World) (e : TypeId) (s : ByteArray) : Below w.heap.size w (Lib.bytesWorld w e s) :=
  ⟨rfl, rfl, rfl, by rw [Lib.bytesWorld_size]; omega, fun k hk => Lib.bytesWorld_at_old w e s k hk⟩
theorem num_fail {w W W1 : World} {B0 : Nat} {a : Act} {pre rest words : List (List UInt8)} {x : List UInt8} (hB : B0 = w.heap.size + 4) (hw : words = pre ++ x :: rest) (hf : numsB [] (pre ++ [x]) = none) (hlt : w.heap.size + 4 ≤ W.heap.size)
    (h2 : W.heap[w.heap.size]? = some (.cells #[.slice none 0 0] 64 (0, 0))) (h3 : W.heap[w.heap.size + 1]? = some (.cells #[.bool false] 4 (0, 0))) (h6 : Below w.heap.size w W) (hb : Below W.heap.size W W1) :
    postC B0 (KpR (w.heap.size + 3) (w.heap.size + 3 + 1)) (fun pre W => NumI w pre W) (fun c pre W => NumX w words c W) (pre ++ [x]) W .ret a
      ((W1.setCell ⟨w.heap.size, 0, none⟩ (.slice none 0 0)).setCell ⟨w.heap.size + 1, 0, none⟩ (.bool false)) := by
  subst hB
  refine ⟨(Hi.below hb (Nat.le_refl _)).trans ((Hi.others (KeepsOthers.setCell _ _ _)).trans (Hi.others (KeepsOthers.setCell _ _ _))), rfl, ?_, ?_, ?_, ?_⟩
  · rw [hw, show pre ++ x :: rest = (pre ++ [x]) ++ rest by simp]
    exact numsB_none _ _ _ hf
  · refine blk_far (blk_put (cs := #[.slice none 0 0]) ?_ 0 _ rfl) (by simp) _
    exact (hb.block _ (by omega)).trans h2
  · refine blk_put (cs := #[.bool false]) ?_ 0 _ rfl
    refine blk_far ?_ (by simp) _
    exact (hb.block _ (by omega)).trans h3
  · exact pbs (pbs (h6.trans (hb.mono (by omega))) (Nat.le_refl _)) (by omega)
theorem below_put {w W : World} {n D : Nat} {o : Obj} (h : Below n w W) (hD : n ≤ D) : Below n w (W.putObj D o) :=
  ⟨h.os, h.tape, h.output, by simpa [World.putObj] using h.size, fun k hk => (World.putObj_heap_other (by omega)).trans (h.block k hk)⟩
theorem info3 : (Tryd.prog.info? 3).map (fun i => (i.zero, i.size, i.bytes)) = some (some (.int .i64 0), 1, 8) := by kernel_rfl
set_option maxHeartbeats 3200000 in
set_option maxRecDepth 100000 in
theorem numbers_calls (s : ByteArray) (hs : s.size ≤ 1000000) (w : World) (hG : Glob w) :
    Calls Tryd.prog 38 #[.string s] w fun e w' => ∃ v0 : Value, e = .returned (.tuple #[v0, .bool (numOut s.data.toList).2]) ∧ (Kd.int .i64).R 3 w' w.heap.size (fun _ => True) v0 (numOut s.data.toList).1 ∧ Below w.heap.size w w' := by
  refine (callsIn_wide (n := 3)).1 ?_
  refine callsIn_of_wp_marks Tryd.func38 rfl trivial ?_ rfl
  simp only [Tryd.ntmps38, List.size_toArray, List.length_cons, List.length_nil, Nat.reduceAdd, Nat.reduceSub, Array.replicate_succ, Array.replicate_zero, List.push_toArray, List.append_toArray, List.nil_append, List.cons_append]
  gi_wp2_with (refine ⟨trivial, ?_⟩; gi_at_call 47; refine (callsIn_wide.2 (fields_calls _ _)).mono ?_; rintro e w' ⟨rfl, rfl⟩)
  obtain ⟨W0, hW0⟩ : ∃ W0, (((w.alloc (.cells #[.slice none 0 0] 64)).alloc (.cells #[.bool false] 4)).alloc (.cells #[.slice none 0 0] 64)).alloc (.cells #[.string s] 9) = W0 := ⟨_, rfl⟩
  have hz0 : W0.heap.size = w.heap.size + 4 := by rw [← hW0]; simp
  have hb0 : Below w.heap.size w W0 := by rw [← hW0]; exact pba (pba (pba (pba (Below.refl _ _) _) _) _) _
  have hB0 : W0.heap[w.heap.size]? = some (.cells #[.slice none 0 0] 64 (0, 0)) := by
    rw [← hW0]; exact ((Below.heap_alloc _ _ _ (by simp <;> omega)).trans ((Below.heap_alloc _ _ _ (by simp <;> omega)).trans (Below.heap_alloc _ _ _ (by simp)))).trans (World.alloc_heap_new w _)
  have hB1 : W0.heap[w.heap.size + 1]? = some (.cells #[.bool false] 4 (0, 0)) := by
    rw [← hW0]; refine ((Below.heap_alloc _ _ _ (by simp <;> omega)).trans (Below.heap_alloc _ _ _ (by simp))).trans ?_
    have := World.alloc_heap_new (w.alloc (.cells #[.slice none 0 0] 64)) (.cells #[.bool false] 4); rwa [World.size_alloc] at this
  have hB2 : W0.heap[w.heap.size + 2]? = some (.cells #[.slice none 0 0] 64 (0, 0)) := by
    rw [← hW0]; refine (Below.heap_alloc _ _ _ (by simp)).trans ?_
    have := World.alloc_heap_new ((w.alloc (.cells #[.slice none 0 0] 64)).alloc (.cells #[.bool false] 4)) (.cells #[.slice none 0 0] 64); rwa [World.size_alloc, World.size_alloc] at this
  have hB3 : W0.heap[w.heap.size + 3]? = some (.cells #[.string s] 9 (0, 0)) := by
    rw [← hW0]
    have := World.alloc_heap_new (((w.alloc (.cells #[.slice none 0 0] 64)).alloc (.cells #[.bool false] 4)).alloc (.cells #[.slice none 0 0] 64)) (.cells #[.string s] 9); rwa [World.size_alloc, World.size_alloc, World.size_alloc] at this
  rw [hW0]
  refine rangeC (F := Fence.wide) rfl (by decide) (gf := 60) (lb := #[.pointer (some ⟨w.heap.size + 3, 0, none⟩)]) rfl trivial (enters_of Tryd.func60 (by kernel_rfl) rfl)
    (fields_seq 2 (by decide) s hs (w.heap.size + 3) W0 ((bcl hB3 0).trans rfl) (by omega))
    (fun h k i h1 h2 => (k i h1 h2).trans (h i h1 h2)) (fun W l o' hl k h1 h2 => World.putObj_heap_other (by omega)) (by omega) (Below.refl _ _) (fun _ => rfl)
    (fun pre W => NumI w pre W) (fun c pre W => NumX w (fieldsB [] s.data.toList) c W)
    (fun pre A B h hk => h.kept (by rw [hz0] at hk; exact hk)) (fun c pre A B h hk => h.kept (by rw [hz0] at hk; exact hk))
    ⟨[], .slice none 0 0, rfl, hB0, hB1, hB2, Kd.R_nil _ _ _ _ _, hb0⟩
    (fun x => { tmps := #[.string s, undef, .pointer (some ⟨w.heap.size, 0, none⟩), .pointer (some ⟨w.heap.size + 1, 0, none⟩), .pointer (some ⟨w.heap.size + 2, 0, none⟩), .string (strOf x), undef, undef, .string s, .func (.func 60) #[] #[.pointer (some ⟨w.heap.size + 3, 0, none⟩)], .string (strOf x), undef, undef, undef, undef, undef, undef, undef, undef, undef, undef, undef, undef, undef, undef, undef, undef, undef, undef, undef, undef, undef, undef, undef], defers := [] }) ?assign ?body ?done ?stop
  case assign =>
    intro l x W K hK
    gi_wp2
    exact hK
  case body =>
    rintro l pre x rest W hw ⟨acc, v, h1, h2, h3, h4, h5, h6⟩ hlt
    rw [hz0] at hlt
    have hxl : x.length ≤ s.size := by
      have := fieldsB_len s.data.toList [] x (by rw [hw]; simp)
      rw [List.length_nil, Array.length_toList, Nat.zero_add] at this
      exact this
    have hsx : (strOf x).size ≤ 1000000 := by
      have : (strOf x).size = x.length := by simp [strOf, ByteArray.size]
      omega
    have hacc := numsB_le pre [] acc (by decide) h1
    have hsn := numsB_snoc pre x [] acc h1
    have hGW := Glob.below hG h6
    obtain ⟨A, c, rfl⟩ := Kd.R_slice h5
    have HF := Ad.mk (fun (W1 : World) (hf : numsB [] (pre ++ [x]) = none) (hb : Below W.heap.size W W1) (a : Act) => num_fail (a := a) hz0 hw hf hlt h2 h3 h6 hb)
    have hc0 : W.cell? ⟨w.heap.size, 0, none⟩ = some (.slice none 0 0) := (bcl h2 0).trans rfl
    have hc1 : W.cell? ⟨w.heap.size + 1, 0, none⟩ = some (.bool false) := (bcl h3 0).trans rfl
    have hf0 := bfz h2 0
    have hf1 := bfz h3 0
    have H2 := Ad.mk h2
    have H3 := Ad.mk h3
    have H4 := Ad.mk h4
    have H5 := Ad.mk h5
    have H6 := Ad.mk h6
    have HSN := Ad.mk hsn
    have HW := Ad.mk hw
    have HA := Ad.mk hacc
    have HL := Ad.mk hlt
    have HS := Ad.mk hsx
    have HGW := Ad.mk hGW
    have HN1 := Ad.mk h1
    clear h1 h2 h3 h4 h5 h6 hsn hw hacc hlt hxl hsx hGW hG
    cases hA : Lib.atoiAll x with
    | range =>
      have hcn : canon ⟨x.toArray⟩ = none := by unfold canon; rw [show (⟨x.toArray⟩ : ByteArray).data.toList = x from rfl, hA]
      have HFN : Ad (numsB [] (pre ++ [x]) = none) := ⟨by rw [HSN.out, hcn]⟩
      clear hcn
      obtain ⟨tp, pp, hv⟩ := HGW.out.rng
      have hcall := Tryd.strconv_Atoi_range_var (strOf x) (by have := HS.out; omega) hA tp pp _ hv
      gi_wp2_with (refine ⟨trivial, ?_⟩; gi_at_call 48; refine (CallsIn.inRound l (callsIn_wide.2 hcall)).mono ?_; rintro e w1 ⟨NN, rfl, _, _, hb1⟩)
      have HB1 := Ad.mk hb1
      have e0 := (hb1.block _ (by have := HL.out; omega)).trans H2.out
      have e1 := (hb1.block _ (by have := HL.out; omega)).trans H3.out
      have hd0 : w1.cell? ⟨w.heap.size, 0, none⟩ = some (.slice none 0 0) := (bcl e0 0).trans rfl
      have hd1 : w1.cell? ⟨w.heap.size + 1, 0, none⟩ = some (.bool false) := (bcl e1 0).trans rfl
      have hg0 := bfz e0 0
      have hg1 := bfz e1 0
      clear e0 e1 hb1
      refine ⟨trivial, ?_⟩
      gi_wp2
      exact HF.out w1 HFN.out HB1.out _
    | ok n =>
      have hvr := atoi_range hA
      have HI : Ad (strconv_Itoa.f n = some ⟨(Lib.itoa n).toArray⟩) := ⟨by unfold strconv_Itoa.f; rw [if_pos hvr]⟩
      have hcall := Tryd.strconv_Atoi_ok (strOf x) (by have := HS.out; omega) n hA W
      have hbc : ∀ w1, (w1 = W ∨ ∃ t, w1 = Lib.bytesWorld W 5 t) → Below W.heap.size W w1 := by
        rintro w1 (rfl | ⟨t, rfl⟩)
        · exact Below.refl _ _
        · exact below_bytes _ _ _
      have hcx : canon ⟨x.toArray⟩ = if Lib.itoa n = x then some n else none := by unfold canon; rw [show (⟨x.toArray⟩ : ByteArray).data.toList = x from rfl, hA]
      have HI2 := Ad.mk (fun (w1 : World) (h : Below W.heap.size W w1) => strconv_Itoa.calls n _ w1 (HGW.out.below h) HI.out)
      clear hA
      gi_wp2_with (first | (refine ⟨trivial, ?_⟩; gi_at_call 48; refine (CallsIn.inRound l (callsIn_wide.2 hcall)).mono ?_; rintro e w1 ⟨rfl, hw1⟩) | fail)
      have HB1 := Ad.mk (hbc _ hw1)
      clear hbc hw1 hcall
      by_cases hc : Lib.itoa n = x
      · rw [if_pos hc] at hcx
        have hq : (({ data := (Lib.itoa n).toArray } : ByteArray).toList == (strOf x).toList) = true := by rw [ByteArray.toList_eq, ByteArray.toList_eq]; simp [hc, strOf]
        have hq1 : (({ data := (Lib.itoa n).toArray } : ByteArray).toList != (strOf x).toList) = false := by unfold bne; rw [hq]; rfl
        clear hc
        generalize (⟨(Lib.itoa n).toArray⟩ : ByteArray) = sv at *
        by_cases hl2 : acc.length = 2
        · have HFN : Ad (numsB [] (pre ++ [x]) = none) := ⟨by rw [HSN.out, hcx]; simp only; rw [if_pos hl2]⟩
          have hl3 : ((acc.length : Int) == 2) = true := by rw [hl2]; rfl
          clear hcx hl2
          gi_wp2_with (first | (refine ⟨trivial, ?_⟩; gi_at_call 40; refine (CallsIn.inRound l (callsIn_wide.2 (HI2.out _ HB1.out))).mono ?_; rintro e w2 ⟨rfl, hb2⟩; have HB2 := Ad.mk (pbt HB1.out hb2); have e0 := (HB2.out.block _ (by have := HL.out; omega)).trans H2.out; have e1 := (HB2.out.block _ (by have := HL.out; omega)).trans H3.out; have e2 := (HB2.out.block _ (by have := HL.out; omega)).trans H4.out; have hd0 : w2.cell? ⟨w.heap.size, 0, none⟩ = some (.slice none 0 0) := (bcl e0 0).trans rfl; have hd1 : w2.cell? ⟨w.heap.size + 1, 0, none⟩ = some (.bool false) := (bcl e1 0).trans rfl; have hd2 : w2.cell? ⟨w.heap.size + 2, 0, none⟩ = some (.slice A acc.length c) := (bcl e2 0).trans rfl; have hg0 := bfz e0 0; have hg1 := bfz e1 0; have hg2 := bfz e2 0; have E2 := Ad.mk e2; clear e0 e1 e2 hb2 hc0 hc1 hf0 hf1) | fail)
          exact HF.out w2 HFN.out HB2.out _
        · have HFN : Ad (numsB [] (pre ++ [x]) = some (acc ++ [n])) := ⟨by rw [HSN.out, hcx]; simp only; rw [if_neg hl2]⟩
          have hl3 : ((acc.length : Int) == 2) = false := beq_eq_false_iff_ne.mpr (by omega)
          clear hcx hl2
          gi_wp2_with (first | (refine ⟨trivial, ?_⟩; gi_at_call 40; refine (CallsIn.inRound l (callsIn_wide.2 (HI2.out _ HB1.out))).mono ?_; rintro e w2 ⟨rfl, hb2⟩; have HB2 := Ad.mk (pbt HB1.out hb2); have e0 := (HB2.out.block _ (by have := HL.out; omega)).trans H2.out; have e1 := (HB2.out.block _ (by have := HL.out; omega)).trans H3.out; have e2 := (HB2.out.block _ (by have := HL.out; omega)).trans H4.out; have hd0 : w2.cell? ⟨w.heap.size, 0, none⟩ = some (.slice none 0 0) := (bcl e0 0).trans rfl; have hd1 : w2.cell? ⟨w.heap.size + 1, 0, none⟩ = some (.bool false) := (bcl e1 0).trans rfl; have hd2 : w2.cell? ⟨w.heap.size + 2, 0, none⟩ = some (.slice A acc.length c) := (bcl e2 0).trans rfl; have hg0 := bfz e0 0; have hg1 := bfz e1 0; have hg2 := bfz e2 0; have E2 := Ad.mk e2; clear e0 e1 e2 hb2 hc0 hc1 hf0 hf1) | (gi_at_builtin; refine in_append (Kd.int .i64) (w0 := w) w.heap.size rfl (.tmp 29) (.tmp 31) 64 3 (.int .i64 0) 8 rfl Tryd.underlying64 info3 rfl (by decide) (by omega) (.slice A acc.length c) acc n [.int .i64 n] (fun k => w.heap.size + 4 ≤ k) (fun _ => False) rfl rfl ?aP (fun _ hk => hk.elim) ?aF ?aO ?aB ?aS ?aL ?_; (case aP => exact rfl); (case aB => exact (HB2.out.mono (by have := HL.out; omega) |> fun h => H6.out.trans h)); (case aF => intro k hk; have := HL.out; have := HB2.out.size; omega); (case aO => exact Kd.R_below H5.out HB2.out); (case aS => have := HL.out; have := HB2.out.size; omega); (case aL => have := HA.out; omega); intro v125 w8 ho hb hg hat; obtain ⟨A9, c9, rfl⟩ := Kd.R_slice ho; have HO8 := Ad.mk ho; have HB8 := Ad.mk hb; have HG8 := Ad.mk hg; have e2 := (hg.block _ (blk_lt E2.out) (Kd.R_away H5.out (fun k hk => by omega))).trans E2.out; have hd2 : w8.cell? ⟨w.heap.size + 2, 0, none⟩ = some (.slice A acc.length c) := (bcl e2 0).trans rfl; have hg2 := bfz e2 0; have E8 := Ad.mk e2; clear ho hb hg hat e2) | fail)
          have hO2 := Kd.R_below H5.out HB2.out
          have hne : ∀ g, g < w.heap.size + 4 → some g ≠ (Value.slice A acc.length c).ownBlock := fun g hg => Kd.R_away H5.out (fun k hk => by omega)
          have hbk : ∀ k, k < w.heap.size + 4 → k ≠ w.heap.size + 2 → (w8.setCell ⟨w.heap.size + 2, 0, none⟩ (.slice A9 (acc ++ [n]).length c9)).heap[k]? = W.heap[k]? := fun k hk hk2 =>
            (Below.heap_setCell _ _ _ _ hk2).trans ((HG8.out.block _ (Nat.lt_of_lt_of_le (Nat.lt_of_lt_of_le hk HL.out) HB2.out.size) (hne k hk)).trans (HB2.out.block _ (Nat.lt_of_lt_of_le hk HL.out)))
          rw [show acc.length + 1 = (acc ++ [n]).length by simp]
          refine ⟨(Hi.below HB2.out (Nat.le_refl _)).trans ((Hi.others (KeepsOthers.of_grownBy HG8.out ?_)).trans (Hi.others (KeepsOthers.setCell _ _ _))), ?_, acc ++ [n], .slice A9 (acc ++ [n]).length c9, HFN.out, (hbk _ (by omega) (by omega)).trans H2.out, (hbk _ (by omega) (by omega)).trans H3.out, blk_put (cs := #[.slice A acc.length c]) E8.out 0 _ rfl, Kd.R_far HO8.out (fun k hk => by simp only; omega) _, pbs HB8.out (by omega)⟩
          · intro j o hj ho
            obtain ⟨cells, hc⟩ := Kd.R_typed hO2 j hj
            rw [hc] at ho; cases ho; rfl
          · intro k hk1 hk2
            exact hbk k (by omega) (by omega)
      · rw [if_neg hc] at hcx
        have hq : (({ data := (Lib.itoa n).toArray } : ByteArray).toList == (strOf x).toList) = false := by rw [ByteArray.toList_eq, ByteArray.toList_eq]; simpa [strOf] using hc
        have hq1 : (({ data := (Lib.itoa n).toArray } : ByteArray).toList != (strOf x).toList) = true := by unfold bne; rw [hq]; rfl
        have HFN : Ad (numsB [] (pre ++ [x]) = none) := ⟨by rw [HSN.out, hcx]⟩
        clear hcx hc
        generalize (⟨(Lib.itoa n).toArray⟩ : ByteArray) = sv at *
        gi_wp2_with (first | (refine ⟨trivial, ?_⟩; gi_at_call 40; refine (CallsIn.inRound l (callsIn_wide.2 (HI2.out _ HB1.out))).mono ?_; rintro e w2 ⟨rfl, hb2⟩; have HB2 := Ad.mk (pbt HB1.out hb2); have e0 := (HB2.out.block _ (by have := HL.out; omega)).trans H2.out; have e1 := (HB2.out.block _ (by have := HL.out; omega)).trans H3.out; have e2 := (HB2.out.block _ (by have := HL.out; omega)).trans H4.out; have hd0 : w2.cell? ⟨w.heap.size, 0, none⟩ = some (.slice none 0 0) := (bcl e0 0).trans rfl; have hd1 : w2.cell? ⟨w.heap.size + 1, 0, none⟩ = some (.bool false) := (bcl e1 0).trans rfl; have hd2 : w2.cell? ⟨w.heap.size + 2, 0, none⟩ = some (.slice A acc.length c) := (bcl e2 0).trans rfl; have hg0 := bfz e0 0; have hg1 := bfz e1 0; have hg2 := bfz e2 0; have E2 := Ad.mk e2; clear e0 e1 e2 hb2 hc0 hc1 hf0 hf1) | fail)
        exact HF.out w2 HFN.out HB2.out _
    | _ =>
      have hcn : canon ⟨x.toArray⟩ = none := by unfold canon; rw [show (⟨x.toArray⟩ : ByteArray).data.toList = x from rfl, hA]
      have HFN : Ad (numsB [] (pre ++ [x]) = none) := ⟨by rw [HSN.out, hcn]⟩
      clear hcn
      obtain ⟨tp, pp, hv⟩ := HGW.out.syn
      have hcall := Tryd.strconv_Atoi_syntax_var (strOf x) (by have := HS.out; omega) (fun v e => by rw [show (strOf x).data.toList = x from rfl, hA] at e; cases e) (fun e => by rw [show (strOf x).data.toList = x from rfl, hA] at e; cases e) tp pp _ hv
      gi_wp2_with (refine ⟨trivial, ?_⟩; gi_at_call 48; refine (CallsIn.inRound l (callsIn_wide.2 hcall)).mono ?_; rintro e w1 ⟨NN, rfl, _, _, hb1⟩)
      have HB1 := Ad.mk hb1
      have e0 := (hb1.block _ (by have := HL.out; omega)).trans H2.out
      have e1 := (hb1.block _ (by have := HL.out; omega)).trans H3.out
      have hd0 : w1.cell? ⟨w.heap.size, 0, none⟩ = some (.slice none 0 0) := (bcl e0 0).trans rfl
      have hd1 : w1.cell? ⟨w.heap.size + 1, 0, none⟩ = some (.bool false) := (bcl e1 0).trans rfl
      have hg0 := bfz e0 0
      have hg1 := bfz e1 0
      clear e0 e1 hb1
      refine ⟨trivial, ?_⟩
      gi_wp2
      exact HF.out w1 HFN.out HB1.out _
  case done =>
    rintro D W hD ⟨acc, v, h1, h2, h3, h4, h5, h6⟩ hK
    have hc2 : W.cell? ⟨w.heap.size + 2, 0, none⟩ = some v := (bcl h4 0).trans rfl
    have hc0 : W.cell? ⟨w.heap.size, 0, none⟩ = some (.slice none 0 0) := (bcl h2 0).trans rfl
    have hc1 : W.cell? ⟨w.heap.size + 1, 0, none⟩ = some (.bool false) := (bcl h3 0).trans rfl
    have hf2 := bfz h4 0
    have hf0 := bfz h2 0
    have hf1 := bfz h3 0
    obtain ⟨A, c, rfl⟩ := Kd.R_slice h5
    have hn : numOut s.data.toList = (acc, true) := by unfold numOut lineNums; rw [h1]
    gi_wp2
    have hK' := (KeepsOthers.setCell (W.setCell ⟨w.heap.size, 0, none⟩ (.slice A acc.length c)) ⟨w.heap.size + 1, 0, none⟩ (.bool true)).same D _ ((KeepsOthers.setCell W ⟨w.heap.size, 0, none⟩ (.slice A acc.length c)).same D _ hK rfl) rfl
    refine ⟨by simp, .inl ⟨_, _, rfl, run_takeDeferred hK', ?_⟩⟩
    rw [hn]
    have hr0 : (W.setCell ⟨w.heap.size, 0, none⟩ (.slice A acc.length c)).heap[w.heap.size]? = some (.cells #[.slice A acc.length c] 64 (0, 0)) := blk_put (cs := #[.slice none 0 0]) h2 0 _ rfl
    have hr0' : ((W.setCell ⟨w.heap.size, 0, none⟩ (.slice A acc.length c)).setCell ⟨w.heap.size + 1, 0, none⟩ (.bool true)).heap[w.heap.size]? = some (.cells #[.slice A acc.length c] 64 (0, 0)) := blk_far hr0 (by simp) _
    have hr1' : ((W.setCell ⟨w.heap.size, 0, none⟩ (.slice A acc.length c)).setCell ⟨w.heap.size + 1, 0, none⟩ (.bool true)).heap[w.heap.size + 1]? = some (.cells #[.bool true] 4 (0, 0)) := blk_put (cs := #[.bool false]) (blk_far h3 (by simp) _) 0 _ rfl
    have hR := Kd.R_far (Kd.R_far h5 (p := ⟨w.heap.size, 0, none⟩) (fun k hk => by simp only; omega) (.slice A acc.length c)) (p := ⟨w.heap.size + 1, 0, none⟩) (fun k hk => by simp only; omega) (.bool true)
    have hBl := pbs (j := 0) (v := .bool true) (pbs (j := 0) (v := .slice A acc.length c) h6 (Nat.le_refl _)) (show w.heap.size ≤ w.heap.size + 1 by omega)
    generalize (W.setCell ⟨w.heap.size, 0, none⟩ (.slice A acc.length c)).setCell ⟨w.heap.size + 1, 0, none⟩ (.bool true) = W9 at *
    have hq0 : (W9.putObj D (.deferred none)).cell? ⟨w.heap.size, 0, none⟩ = some (.slice A acc.length c) := cell_of_heap (World.putObj_heap_other (by omega)) ((bcl hr0' 0).trans rfl)
    have hq1 : (W9.putObj D (.deferred none)).cell? ⟨w.heap.size + 1, 0, none⟩ = some (.bool true) := cell_of_heap (World.putObj_heap_other (by omega)) ((bcl hr1' 0).trans rfl)
    refine ⟨_, by simp [results, Tryd.f38, go_sem, hq0, hq1], .slice A acc.length c, rfl, ?_, ?_⟩
    · exact Kd.R_mono (Kd.R_step (Kd.R_bound hR) (fun k hk hlt => World.putObj_heap_other (fun e => by
        obtain ⟨_, _, _, q, _, cells, hc⟩ := hk
        rw [e, hK'] at hc; cases hc))) (fun _ _ => trivial)
    · exact below_put hBl (by omega)
  case stop =>
    rintro D c pre x rest W hD hw ⟨rfl, h1, h2, h3, h6⟩ hK
    have hn : numOut s.data.toList = ([], false) := by unfold numOut lineNums; rw [h1]
    gi_wp2
    refine ⟨by simp, .inl ⟨_, _, rfl, run_takeDeferred hK, ?_⟩⟩
    rw [hn]
    have hq0 : (W.putObj D (.deferred none)).cell? ⟨w.heap.size, 0, none⟩ = some (.slice none 0 0) := cell_of_heap (World.putObj_heap_other (by omega)) ((bcl h2 0).trans rfl)
    have hq1 : (W.putObj D (.deferred none)).cell? ⟨w.heap.size + 1, 0, none⟩ = some (.bool false) := cell_of_heap (World.putObj_heap_other (by omega)) ((bcl h3 0).trans rfl)
    refine ⟨_, by simp [results, Tryd.f38, go_sem, hq0, hq1], .slice none 0 0, rfl, Kd.R_nil _ _ _ _ _, below_put h6 (by omega)⟩
end Go.Proofs.YtipbkcilpnlgnaaDoor.M
