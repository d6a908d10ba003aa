/-
-- squeezed: rows named (squeeze.py)
  A map that the call makes, its keys whole numbers or structs of them: what a look-up and a store come to, at the operations.
-/
import Derived.Test.YtjhifhnjkpoofaaDoorWWords
import Derived.Maps.OwnOps
import Derived.MapKept
import Derived.OwnWalk
import Derived.KernelRfl
import Derived.Test.YtjhifhnjkpoofaaDoorProg
namespace Go.Proofs.YtjhifhnjkpoofaaDoor.M
open Go.RowKit Go.Proofs.YtjhifhnjkpoofaaDoorW.PrintWords
set_option linter.unusedVariables false
set_option linter.unusedSimpArgs false

/-- What is asked of a key's type: the keys enc a are accepted and told apart. -/
structure KeyOk (P : Program) (K : TypeId) {α : Type} (enc : α → Value) : Prop where
  inj : ∀ a b, enc a = enc b → a = b
  check : ∀ em a w, (Instr.checkKey em 10000 K (enc a)).run P w = .ok () w
  find : ∀ (a : α) (es : List MapEntry) (w : World), (∀ e ∈ es, ∃ b, e.key = enc b) →
    (∃ j e, es[j]? = some e ∧ e.key = enc a ∧ (Instr.findKey K (enc a) es).run P w = .ok (some (j, e.val)) w) ∨ ((∀ e ∈ es, e.key ≠ enc a) ∧ (Instr.findKey K (enc a) es).run P w = .ok none w)
  same : ∀ a, Instr.sameBits 10000 (enc a) (enc a) = true

/-- Block b is a map that answers as g does. -/
def MapIs {α β : Type} (enc : α → Value) (encv : β → Value) (w : World) (b : Nat) (g : α → Option β) : Prop :=
  ∃ es clock, ∃ m : List (α × β), w.heap[b]? = some (.map es clock) ∧ es.toList.map (fun e => (e.key, e.val)) = m.map (fun p => (enc p.1, encv p.2)) ∧ (m.map (·.1)).Nodup ∧ ∀ a v, g a = some v ↔ (a, v) ∈ m

section
variable {P : Program} {K E T : TypeId} {α β : Type} {enc : α → Value} {encv : β → Value} {w : World} {b : Nat} {g : α → Option β}

theorem MapIs.made (w : World) : MapIs enc encv (w.alloc (.map #[] 0)) w.heap.size (fun _ => none) :=
  ⟨#[], 0, [], (show (w.heap.push (.map #[] 0))[w.heap.size]? = _ by simp), rfl, by simp, by simp⟩
theorem MapIs.block {w' : World} (h : MapIs enc encv w b g) (hb : w'.heap[b]? = w.heap[b]?) : MapIs enc encv w' b g := by
  obtain ⟨es, clock, m, h0, h1⟩ := h
  exact ⟨es, clock, m, hb.trans h0, h1⟩
theorem MapIs.lt (h : MapIs enc encv w b g) : b < w.heap.size := by
  obtain ⟨es, clock, m, h0, _⟩ := h
  exact (Array.getElem?_eq_some_iff.1 h0).1
theorem MapIs.congr {g' : α → Option β} (h : MapIs enc encv w b g) (hg : ∀ a, g' a = g a) : MapIs enc encv w b g' := by
  obtain ⟨es, clock, m, h0, h1, h2, h3⟩ := h
  exact ⟨es, clock, m, h0, h1, h2, fun a v => by rw [hg]; exact h3 a v⟩

theorem pair_at {es : List MapEntry} {m : List (α × β)} (h1 : es.map (fun e => (e.key, e.val)) = m.map (fun p => (enc p.1, encv p.2))) {j : Nat} {e : MapEntry} (he : es[j]? = some e) : ∃ a v, m[j]? = some (a, v) ∧ e.key = enc a ∧ e.val = encv v := by
  have := congrArg (·[j]?) h1
  simp only [List.getElem?_map, he, Option.map_some] at this
  cases hm : m[j]? with
  | none => rw [hm] at this; cases this
  | some p =>
    rw [hm] at this
    simp only [Option.map_some, Option.some.injEq, Prod.mk.injEq] at this
    exact ⟨p.1, p.2, rfl, this.1, this.2⟩
theorem pair_keys {es : List MapEntry} {m : List (α × β)} (h1 : es.map (fun e => (e.key, e.val)) = m.map (fun p => (enc p.1, encv p.2))) : ∀ e ∈ es, ∃ c, e.key = enc c := by
  intro e he
  obtain ⟨j, hj⟩ := List.getElem?_of_mem he
  obtain ⟨a, v, _, h, _⟩ := pair_at h1 hj
  exact ⟨a, h⟩
theorem pair_back {es : List MapEntry} {m : List (α × β)} (h1 : es.map (fun e => (e.key, e.val)) = m.map (fun p => (enc p.1, encv p.2))) {a : α} {v : β} (hm : (a, v) ∈ m) : ∃ e ∈ es, e.key = enc a := by
  obtain ⟨j, hj⟩ := List.getElem?_of_mem hm
  have := congrArg (·[j]?) h1
  simp only [List.getElem?_map, hj, Option.map_some] at this
  cases he : es[j]? with
  | none => rw [he] at this; cases this
  | some e =>
    rw [he] at this
    simp only [Option.map_some, Option.some.injEq, Prod.mk.injEq] at this
    exact ⟨e, List.mem_of_getElem? he, this.1⟩

/-- 'm[k]', 'v, ok := m[k]'. -/
theorem MapIs.look (h : MapIs enc encv w b g) (hK : KeyOk P K enc) (ht : P.underlying T = some (.map K E)) {z : Value} (hz : (zeroValue E).run P w = .ok z w) (a : α) (c : Bool) :
    (Instr.lookup T (.map (some b)) (enc a) c).run P w = .ok (if c then .tuple #[((g a).map encv).getD z, .bool (g a).isSome] else ((g a).map encv).getD z) w := by
  obtain ⟨es, clock, m, h0, h1, h2, h3⟩ := h
  rcases hK.find a es.toList w (pair_keys h1) with ⟨j, e, he, hk, hr⟩ | ⟨hn, hr⟩
  · obtain ⟨a', v, hm, hka, hv⟩ := pair_at h1 he
    obtain rfl : a' = a := hK.inj _ _ (hka.symm.trans hk)
    have hg : g a' = some v := (h3 a' v).2 (List.mem_of_getElem? hm)
    cases c <;> simp [Instr.lookup, run_underlying ht, MapKept.run_getObj_map h0, hK.check, hr, Result.andThen, hg, hv]
  · have hg : g a = none := by
      cases hc : g a with
      | none => rfl
      | some v =>
        obtain ⟨e, he, hk⟩ := pair_back h1 ((h3 a v).1 hc)
        exact absurd hk (hn e he)
    cases c <;> simp [Instr.lookup, run_underlying ht, MapKept.run_getObj_map h0, hK.check, hr, Result.andThen, hg, hz]

/-- 'm[k] = v'. -/
theorem MapIs.put [DecidableEq α] (h : MapIs enc encv w b g) (hK : KeyOk P K enc) (ht : P.underlying T = some (.map K E)) (a : α) (v : β) :
    ∃ w', (Instr.mapUpdate T (.map (some b)) (enc a) (encv v)).run P w = .ok () w' ∧ MapIs enc encv w' b (fun c => if c = a then some v else g c) ∧ w.grownBy w' (some b) := by
  obtain ⟨es, clock, m, h0, h1, h2, h3⟩ := h
  have hother : ∀ o i, some i ≠ some b → (w.heap.setIfInBounds b o)[i]? = w.heap[i]? := by
    intro o i hi
    rw [Array.getElem?_setIfInBounds]
    rw [if_neg (fun e => hi (by rw [e]))]
  have hlt := (Array.getElem?_eq_some_iff.1 h0).1
  rcases hK.find a es.toList w (pair_keys h1) with ⟨j, e, he, hk, hr⟩ | ⟨hn, hr⟩
  · obtain ⟨a', v', hm, hka, hv⟩ := pair_at h1 he
    obtain rfl : a' = a := hK.inj _ _ (hka.symm.trans hk)
    have he' : es[j]? = some e := by rw [← Array.getElem?_toList]; exact he
    have hkeep : ∀ w, (Instr.keyThatStays (enc a') (enc a')).run P w = .ok (enc a') w := by
      intro w
      simp [Instr.keyThatStays, hK.same]
    refine ⟨{ w with heap := w.heap.setIfInBounds b (.map (es.modify j fun e => { e with key := enc a', val := encv v }) clock) }, ?_, ⟨es.modify j fun e => { e with key := enc a', val := encv v }, clock, m.set j (a', v), ?_, ?_, ?_, ?_⟩, ⟨rfl, rfl, rfl, by simp, fun i _ hi => hother _ i hi⟩⟩
    · simp [Instr.mapUpdate, run_underlying ht, MapKept.run_getObj_map h0, hK.check, hr, he', hk, hkeep, MapKept.run_setObj_map _ h0, Result.andThen]
    · simp [hlt]
    · apply List.ext_getElem?
      intro i
      have hi := congrArg (·[i]?) h1
      simp only [List.getElem?_map, Array.getElem?_toList] at hi
      simp only [List.getElem?_map, Array.getElem?_toList, Array.getElem?_modify, List.getElem?_set]
      by_cases hij : j = i
      · subst hij
        have hjm := (List.getElem?_eq_some_iff.1 hm).1
        simp [he', hjm]
      · simp [hij, hi]
    · have : (m.set j (a', v)).map (·.1) = m.map (·.1) := by
        apply List.ext_getElem?
        intro i
        simp only [List.getElem?_map, List.getElem?_set]
        by_cases hij : j = i
        · subst hij
          have hjm := (List.getElem?_eq_some_iff.1 hm).1
          have hme : m[j] = (a', v') := (List.getElem?_eq_some_iff.1 hm).2
          simp [hjm, hme]
        · simp [hij]
      rw [this]
      exact h2
    · intro c u
      show (if c = a' then some v else g c) = some u ↔ _
      have hjm := (List.getElem?_eq_some_iff.1 hm).1
      have hun : ∀ i p, m[i]? = some p → p.1 = a' → i = j := by
        intro i p hp hpa
        have hi := (List.getElem?_eq_some_iff.1 hp).1
        have e1 : (m.map (·.1))[i]? = some a' := by simp [hp, hpa]
        have e2 : (m.map (·.1))[j]? = some a' := by simp [hm]
        exact (List.getElem?_inj (by simpa using hi) h2).1 (e1.trans e2.symm)
      by_cases hc : c = a'
      · subst hc
        rw [if_pos rfl]
        constructor
        · intro hu
          obtain rfl := Option.some.inj hu
          exact List.mem_of_getElem? (i := j) (by simp [hjm])
        · intro hu
          obtain ⟨i, hi⟩ := List.getElem?_of_mem hu
          rw [List.getElem?_set] at hi
          by_cases hij : j = i
          · rw [if_pos hij] at hi
            simp [hjm] at hi
            rw [hi]
          · rw [if_neg hij] at hi
            exact absurd (hun i _ hi rfl).symm hij
      · rw [if_neg hc, h3 c u]
        constructor
        · intro hu
          obtain ⟨i, hi⟩ := List.getElem?_of_mem hu
          have hij : j ≠ i := by
            rintro rfl
            rw [hm] at hi
            simp at hi
            exact hc hi.1.symm
          exact List.mem_of_getElem? (i := i) (by rw [List.getElem?_set, if_neg hij]; exact hi)
        · intro hu
          obtain ⟨i, hi⟩ := List.getElem?_of_mem hu
          rw [List.getElem?_set] at hi
          by_cases hij : j = i
          · rw [if_pos hij] at hi
            simp [hjm] at hi
            exact absurd hi.1.symm hc
          · rw [if_neg hij] at hi
            exact List.mem_of_getElem? hi
  · refine ⟨{ w with heap := w.heap.setIfInBounds b (.map (es.push { key := enc a, val := encv v, born := clock }) (clock + 1)) }, ?_, ⟨es.push { key := enc a, val := encv v, born := clock }, clock + 1, m ++ [(a, v)], ?_, ?_, ?_, ?_⟩, ⟨rfl, rfl, rfl, by simp, fun i _ hi => hother _ i hi⟩⟩
    · simp [Instr.mapUpdate, run_underlying ht, MapKept.run_getObj_map h0, hK.check, hr, MapKept.run_setObj_map _ h0, Result.andThen]
    · simp [hlt]
    · simp only [Array.toList_push, List.map_append, List.map_cons, List.map_nil, h1]
    · rw [List.map_append, List.nodup_append]
      refine ⟨h2, by simp, ?_⟩
      intro x hx y hy hxy
      simp at hy
      subst hy
      subst hxy
      obtain ⟨p, hp, hpx⟩ := List.mem_map.1 hx
      obtain ⟨e, he, hk⟩ := pair_back (a := p.1) (v := p.2) h1 hp
      rw [hpx] at hk
      exact hn e he hk
    · intro c u
      show (if c = a then some v else g c) = some u ↔ _
      by_cases hc : c = a
      · subst hc
        rw [if_pos rfl, List.mem_append]
        constructor
        · intro hu
          obtain rfl := Option.some.inj hu
          exact .inr (by simp)
        · rintro (hu | hu)
          · obtain ⟨e, he, hk⟩ := pair_back h1 hu
            exact absurd hk (hn e he)
          · simp at hu; rw [hu]
      · rw [if_neg hc, h3 c u, List.mem_append]
        constructor
        · exact .inl
        · rintro (hu | hu)
          · exact hu
          · simp at hu; exact absurd hu.1 hc
end

/-- The look-up at the operation. -/
theorem wp_look {α β : Type} {enc : α → Value} {encv : β → Value} {P : Program} (w : World) {ops : Array Oper} {rest : List Oper} {o : Oper} {a : Act} {Q : Exit → Act → World → Prop}
    (hg : o.guard = none) (m x : Operand) (t : TypeId) (c : Bool) (hop : o.op = Op.lookup t m x c)
    (k e : TypeId) (hK : KeyOk P k enc) (ht : P.underlying t = some (.map k e)) (z : Value) (hz : (zeroValue e).run P w = .ok z w) (b : Nat) (g : α → Option β)
    (hm : a.eval m = .map (some b)) (hown : MapIs enc encv w b g) (key : α) (hx : a.eval x = enc key)
    (hN : wpList P ops Q rest (a.put o.dst (if c then .tuple #[((g key).map encv).getD z, .bool (g key).isSome] else ((g key).map encv).getD z)) w) :
    wpList P ops Q (o :: rest) a w := by
  refine wpList_plain hg fun K' hK' => ?_
  have hrun := hown.look hK ht hz key c
  unfold Oper.wp
  simp [execOp, hop, hm, hx, hrun, Result.andThen]
  exact hK' _ _ hN

theorem wp_look1 {α β : Type} {enc : α → Value} {encv : β → Value} {P : Program} (w : World) {ops : Array Oper} {rest : List Oper} {o : Oper} {a : Act} {Q : Exit → Act → World → Prop}
    (hg : o.guard = none) (m x : Operand) (t : TypeId) (hop : o.op = Op.lookup t m x false)
    (k e : TypeId) (hK : KeyOk P k enc) (ht : P.underlying t = some (.map k e)) (z : Value) (hz : (zeroValue e).run P w = .ok z w) (b : Nat) (g : α → Option β)
    (hm : a.eval m = .map (some b)) (hown : MapIs enc encv w b g) (key : α) (hx : a.eval x = enc key) (v : Value) (hv : ((g key).map encv).getD z = v)
    (hN : wpList P ops Q rest (a.put o.dst v) w) : wpList P ops Q (o :: rest) a w := by
  refine wp_look w hg m x t false hop k e hK ht z hz b g hm hown key hx ?_
  rw [if_neg (by decide), hv]
  exact hN
theorem wp_look2 {α β : Type} {enc : α → Value} {encv : β → Value} {P : Program} (w : World) {ops : Array Oper} {rest : List Oper} {o : Oper} {a : Act} {Q : Exit → Act → World → Prop}
    (hg : o.guard = none) (m x : Operand) (t : TypeId) (hop : o.op = Op.lookup t m x true)
    (k e : TypeId) (hK : KeyOk P k enc) (ht : P.underlying t = some (.map k e)) (z : Value) (hz : (zeroValue e).run P w = .ok z w) (b : Nat) (g : α → Option β)
    (hm : a.eval m = .map (some b)) (hown : MapIs enc encv w b g) (key : α) (hx : a.eval x = enc key) (v : Value) (hv : ((g key).map encv).getD z = v) (c : Bool) (hc : (g key).isSome = c)
    (hN : wpList P ops Q rest (a.put o.dst (.tuple #[v, .bool c])) w) : wpList P ops Q (o :: rest) a w := by
  refine wp_look w hg m x t true hop k e hK ht z hz b g hm hown key hx ?_
  rw [if_pos rfl, hv, hc]
  exact hN

/-- The store at the operation. -/
theorem wp_put {α β : Type} [DecidableEq α] {enc : α → Value} {encv : β → Value} {P : Program} (w : World) {ops : Array Oper} {rest : List Oper} {o : Oper} {a : Act} {Q : Exit → Act → World → Prop}
    (hg : o.guard = none) (m x v : Operand) (t : TypeId) (hop : o.op = Op.mapUpdate t m x v)
    (k e : TypeId) (hK : KeyOk P k enc) (ht : P.underlying t = some (.map k e)) (b : Nat) (g : α → Option β)
    (hm : a.eval m = .map (some b)) (hown : MapIs enc encv w b g) (key : α) (val : β) (hx : a.eval x = enc key) (hv : a.eval v = encv val)
    (hN : ∀ w', MapIs enc encv w' b (fun c => if c = key then some val else g c) → w.grownBy w' (some b) → wpList P ops Q rest (a.put o.dst undef) w') :
    wpList P ops Q (o :: rest) a w := by
  refine wpList_plain hg fun K' hK' => ?_
  obtain ⟨w', hrun, r1, r2⟩ := hown.put hK ht key val
  unfold Oper.wp
  simp [execOp, hop, hm, hx, hv, hrun, Result.andThen]
  exact hK' _ _ (hN w' r1 r2)

/-! ### The two kinds of keys -/
def encInt (a : Int) : Value := .int .i64 a
theorem key_int : KeyOk Tryd.prog 3 encInt where
  inj := fun a b h => by injection h
  check := fun em a w => MapKept.run_checkKey (k := .int .i64 a) Tryd.underlying3 rfl em 9999
  find := fun a es w h => by
    have hk : ∀ x ∈ es, MapKept.IsKey (.int .i64) x.key := fun x hx => by obtain ⟨c, hc⟩ := h x hx; rw [hc]; rfl
    rcases MapKept.findNow_spec (d := .int .i64) (k := .int .i64 a) rfl es 0 hk with ⟨h1, h2⟩ | ⟨j, e, h1, h2, h3⟩
    · exact .inr ⟨fun e he => h2 e he, MapKept.run_findKey Tryd.underlying3 h1⟩
    · rw [Nat.zero_add] at h1
      exact .inl ⟨j, e, h2, h3, MapKept.run_findKey Tryd.underlying3 h1⟩
  same := fun a => by simp [encInt, Instr.sameBits]

def encName (k : Int × Int × Int × Int) : Value := .agg #[.int .i64 k.1, .int .i64 k.2.1, .int .i64 k.2.2.1, .int .i64 k.2.2.2]
theorem eq_name (w : World) (a b : Int × Int × Int × Int) : (Op.equal 46 (encName a) (encName b)).run Tryd.prog w = .ok (a.1 == b.1 && (a.2.1 == b.2.1 && (a.2.2.1 == b.2.2.1 && a.2.2.2 == b.2.2.2))) w := by
  obtain ⟨a0, a1, a2, a3⟩ := a
  obtain ⟨b0, b1, b2, b3⟩ := b
  unfold Op.equal encName
  have hu := Tryd.underlying46
  have h3 := Tryd.underlying3
  refine eqA_of hu (by kernel_rfl) ?_
  refine eqf_cons (by rfl) (by go_simp; rfl) (by go_simp; rfl) (by go_simp) ?_
  refine eqf_cons (by rfl) (by go_simp; rfl) (by go_simp; rfl) (by go_simp) ?_
  refine eqf_cons (by rfl) (by go_simp; rfl) (by go_simp; rfl) (by go_simp) ?_
  exact eqf_last (by rfl) (by go_simp; rfl) (by go_simp; rfl) (by go_simp)
theorem check_int (em : Bool) (n : Nat) (a : Int) (w : World) : (Instr.checkKey em (n + 1) 3 (.int .i64 a)).run Tryd.prog w = .ok () w :=
  MapKept.run_checkKey (k := .int .i64 a) Tryd.underlying3 rfl em n
theorem check_name (em : Bool) (a : Int × Int × Int × Int) (w : World) : (Instr.checkKey em 10000 46 (encName a)).run Tryd.prog w = .ok () w := by
  obtain ⟨a0, a1, a2, a3⟩ := a
  have hu := Tryd.underlying46
  have h3 := Tryd.underlying3
  rw [show (10000 : Nat) = 9998 + 1 + 1 from rfl]
  unfold Instr.checkKey encName
  simp only [Sem.run_bind, run_underlying hu, Result.andThen]
  rw [← Array.forIn_toList]
  simp [part, isAgg, run_underlying h3, check_int, Result.andThen]
theorem find_name (a : Int × Int × Int × Int) (w : World) : ∀ (es : List MapEntry) (i : Nat), (∀ e ∈ es, ∃ b, e.key = encName b) →
    (∃ j e, es[j]? = some e ∧ e.key = encName a ∧ (Instr.findAsking 46 (encName a) es i).run Tryd.prog w = .ok (some (i + j, e.val)) w) ∨ ((∀ e ∈ es, e.key ≠ encName a) ∧ (Instr.findAsking 46 (encName a) es i).run Tryd.prog w = .ok none w)
  | [], i, _ => .inr ⟨by simp, by simp [Instr.findAsking]⟩
  | e :: es, i, h => by
    obtain ⟨b, hb⟩ := h e (List.mem_cons_self ..)
    have he := eq_name w a b
    by_cases hab : a = b
    · subst hab
      refine .inl ⟨0, e, rfl, hb, ?_⟩
      simp [Instr.findAsking, hb, he, Result.andThen]
    · have hf : (a.1 == b.1 && (a.2.1 == b.2.1 && (a.2.2.1 == b.2.2.1 && a.2.2.2 == b.2.2.2))) = false := by
        rw [Bool.eq_false_iff]
        intro hc
        simp at hc
        exact hab (Prod.ext hc.1 (Prod.ext hc.2.1 (Prod.ext hc.2.2.1 hc.2.2.2)))
      rw [hf] at he
      have hne : e.key ≠ encName a := by
        rw [hb]
        intro hc
        simp [encName] at hc
        exact hab (Prod.ext hc.1.symm (Prod.ext hc.2.1.symm (Prod.ext hc.2.2.1.symm hc.2.2.2.symm)))
      have hstep : (Instr.findAsking 46 (encName a) (e :: es) i).run Tryd.prog w = (Instr.findAsking 46 (encName a) es (i + 1)).run Tryd.prog w := by
        simp [Instr.findAsking, hb, he, Result.andThen]
      rw [hstep]
      rcases find_name a w es (i + 1) (fun x hx => h x (List.mem_cons_of_mem _ hx)) with ⟨j, e', h1, h2, h3⟩ | ⟨h1, h2⟩
      · exact .inl ⟨j + 1, e', h1, h2, by rw [h3, show i + 1 + j = i + (j + 1) by omega]⟩
      · refine .inr ⟨fun x hx => ?_, h2⟩
        rcases List.mem_cons.1 hx with rfl | hx
        · exact hne
        · exact h1 x hx
theorem now_struct (fs : Array Field) (a : Int × Int × Int × Int) (v : Value) : Instr.sameNow (.struct fs) (encName a) v = none := rfl
theorem key_name : KeyOk Tryd.prog 46 encName where
  inj := fun a b h => by
    simp [encName] at h
    exact Prod.ext h.1 (Prod.ext h.2.1 (Prod.ext h.2.2.1 h.2.2.2))
  check := check_name
  find := fun a es w h => by
    have hu := Tryd.underlying46
    have hr : (Instr.findKey 46 (encName a) es).run Tryd.prog w = (Instr.findAsking 46 (encName a) es 0).run Tryd.prog w := by
      cases es with
      | nil => simp [Instr.findKey, run_underlying hu, Result.andThen, Instr.findNow, Instr.findAsking]
      | cons e es =>
        simp [Instr.findKey, run_underlying hu, Result.andThen, Instr.findNow, now_struct]
    rw [hr]
    have := find_name a w es 0 h
    simpa using this
  same := fun a => by
    have h : ∀ (n : Nat) (x : Int), Instr.sameBits n (.int .i64 x) (.int .i64 x) = true := fun n x => by cases n <;> simp [Instr.sameBits]
    show Instr.sameBits (9999 + 1) (encName a) (encName a) = true
    generalize 9999 = n
    simp [encName, Instr.sameBits, h]
end Go.Proofs.YtjhifhnjkpoofaaDoor.M
