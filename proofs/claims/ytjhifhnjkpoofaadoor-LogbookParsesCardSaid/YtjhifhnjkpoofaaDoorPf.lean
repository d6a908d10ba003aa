/-
  The reference's numeral is Itoa's, its line an entry's line, its text the text.
-/
import Derived.Test.YtjhifhnjkpoofaaDoorPd
import Derived.Test.YtjhifhnjkpoofaaDoorPa
import Derived.Test.YtjhifhnjkpoofaaDoorMD
namespace Go.Proofs.YtjhifhnjkpoofaaDoor.M
open Go.RowKit Go.Proofs.YtjhifhnjkpoofaaDoorG Go.Proofs.YtjhifhnjkpoofaaDoorW.PrintWords Go.Proofs.YtjhifhnjkpoofaaDoorW.PrintLast Go.Proofs.YtjhifhnjkpoofaaDoorW.PrintMore
set_option linter.unusedVariables false
set_option linter.unusedSimpArgs false
theorem bytes_ext {a b : ByteArray} (h : a.data.toList = b.data.toList) : a = b := by
  cases a; cases b
  congr
  exact Array.toList_inj.1 h
theorem mk_size (l : List UInt8) : (⟨l.toArray⟩ : ByteArray).size = l.length := by
  show l.toArray.size = _
  simp
theorem mk_app (l m : List UInt8) : (⟨l.toArray⟩ : ByteArray) ++ ⟨m.toArray⟩ = ⟨(l ++ m).toArray⟩ := by
  apply ByteArray.ext
  simp
theorem digit_one {u : Nat} (h : u < 18446744073709551616) : strOfNums [(IntKind.u64.wrap (48 + (Int.tmod (u : Int) 10))) % 256] = ⟨[UInt8.ofNat (48 + u % 10)].toArray⟩ := by
  have : (IntKind.u64.wrap (48 + (Int.tmod (u : Int) 10))) % 256 = ((48 + u % 10 : Nat) : Int) := by
    rw [Int.tmod_eq_emod_of_nonneg (by omega), IntKind.wrap_u64]; omega
  rw [this]
  show (⟨[UInt8.ofNat ((48 + u % 10 : Nat) : Int).toNat].toArray⟩ : ByteArray) = _
  rw [Int.toNat_natCast]
theorem ten_th {u : Nat} (h : u < 18446744073709551616) : IntKind.u64.wrap (Int.tdiv (u : Int) 10) = ((u / 10 : Nat) : Int) := by
  rw [Int.tdiv_eq_ediv_of_nonneg (by omega), IntKind.wrap_u64]; omega
def headDigits (u : Nat) : List UInt8 := if u < 10 then [] else Lib.decDigits (u / 10)
theorem head_dec (u : Nat) : Lib.decDigits u = headDigits u ++ [UInt8.ofNat (48 + u % 10)] := by
  unfold headDigits
  by_cases h : u < 10
  · rw [if_pos h, Lib.decDigits_one h, Nat.mod_eq_of_lt h]; rfl
  · rw [if_neg h]; exact dec_big h
theorem dec_loop : ∀ (k u : Nat) (sg t : List UInt8), u < 18446744073709551616 → Lib.nDigits u ≤ k → sg.length ≤ 1 → t.length + Lib.nDigits u ≤ 100 →
    timesyncref50_decimal.l0 k ⟨sg.toArray⟩ (u : Int) ⟨t.toArray⟩ = some ⟨(sg ++ headDigits u ++ t).toArray⟩
  | 0, u, sg, t, hu, hk, _, _ => by have := Lib.nDigits_pos u; omega
  | k + 1, u, sg, t, hu, hk, hs, ht => by
    unfold timesyncref50_decimal.l0
    by_cases c : u < 10
    · rw [if_neg (by omega), mk_size, mk_size, if_pos (by have := Lib.nDigits_pos u; omega), mk_app]
      unfold headDigits
      rw [if_pos c, List.append_nil]
    · have hn := Lib.nDigits_big c
      rw [if_pos (by omega), ten_th hu, Option.bind_some, digit_one (by omega), mk_size, mk_size, if_pos (by simp only [List.length_cons, List.length_nil]; omega), mk_app]
      rw [dec_loop k (u / 10) sg _ (by omega) (by omega) hs (by simp only [List.length_append, List.length_cons, List.length_nil]; omega)]
      have hh := head_dec (u / 10)
      have : headDigits u = headDigits (u / 10) ++ [UInt8.ofNat (48 + (u / 10) % 10)] := by
        rw [← hh]; unfold headDigits; rw [if_neg c]
      rw [this]
      simp
theorem decimal_eq (k : Nat) (hk : 25 ≤ k) (n : Int) (h0 : -9223372036854775808 ≤ n) (h1 : n ≤ 9223372036854775807) : timesyncref50_decimal.f k n = some ⟨(Lib.itoa n).toArray⟩ := by
  obtain ⟨k, rfl⟩ : ∃ m, k = m + 1 := ⟨k - 1, by omega⟩
  unfold timesyncref50_decimal.f Lib.itoa
  by_cases c : n < 0
  · rw [if_pos c, if_pos c]
    have e : IntKind.u64.wrap ((IntKind.u64.wrap (wrap64 (-(wrap64 (n + 1))))) + 1) = ((n.natAbs : Nat) : Int) := by
      rw [IntKind.wrap_u64, IntKind.wrap_u64]; unfold wrap64; omega
    rw [e]
    simp only [timesyncref50_decimal.j0]
    have hu : n.natAbs < 18446744073709551616 := by omega
    have hd := Lib.nDigits_le20 _ hu
    rw [digit_one hu, show (⟨#[45]⟩ : ByteArray) = ⟨[45].toArray⟩ from rfl, dec_loop k _ [45] _ hu (by omega) (by simp) (by simp only [List.length_cons, List.length_nil]; omega), head_dec]
    simp
  · rw [if_neg c, if_neg c]
    have e : IntKind.u64.wrap n = ((n.toNat : Nat) : Int) := by
      rw [IntKind.wrap_u64]; omega
    rw [e]
    simp only [timesyncref50_decimal.j0]
    have hu : n.toNat < 18446744073709551616 := by omega
    have hd := Lib.nDigits_le20 _ hu
    rw [digit_one hu, show (⟨#[]⟩ : ByteArray) = ⟨([] : List UInt8).toArray⟩ from rfl, dec_loop k _ [] _ hu (by omega) (by simp) (by simp only [List.length_cons, List.length_nil]; omega), head_dec]
    simp
theorem name_eq (k : Int) (h0 : 1 ≤ k) (h1 : k ≤ 4) : timesyncref50_name.f k = some ⟨(wordOf k).toArray⟩ := by
  have : k = 1 ∨ k = 2 ∨ k = 3 ∨ k = 4 := by omega
  rcases this with h | h | h | h <;> subst h <;> rfl
theorem refline_eq (k : Nat) (hk : 30 ≤ k) (x : S37) (h : errOf x = 0) : timesyncref50_line.f k x.f0 x.f1 x.f2 x.f3 x.f4 x.f5 = some ⟨(lineOf x).toArray⟩ := by
  obtain ⟨⟨g0, g1⟩, h1, h2, h3, h4, h5, h6, h7, h8, h9, h10⟩ := err_ok h
  have d1 := decimal_eq k (by omega) x.f1 (by omega) (by omega)
  have d2 := decimal_eq k (by omega) x.f2 (by omega) (by omega)
  have d3 := decimal_eq k (by omega) x.f3 (by omega) (by omega)
  have l1 := Lib.itoa_length_le x.f1 (by omega) (by omega)
  have l2 := Lib.itoa_length_le x.f2 (by omega) (by omega)
  have l3 := Lib.itoa_length_le x.f3 (by omega) (by omega)
  have l4 := Lib.itoa_length_le x.f4 (by omega) (by omega)
  have l5 := Lib.itoa_length_le x.f5 (by omega) (by omega)
  have hj : ∀ t : List UInt8, t.length ≤ 200 → timesyncref50_line.j0 k ⟨t.toArray⟩ x.f0 x.f1 x.f2 x.f3 x.f4 x.f5 = some ⟨(t ++ 32 :: Lib.itoa x.f4 ++ (if x.f0 = 3 then 32 :: Lib.itoa x.f5 else []) ++ [10]).toArray⟩ := by
    intro t ht
    obtain ⟨k, rfl⟩ : ∃ m, k = m + 1 := ⟨k - 1, by omega⟩
    have d4 := decimal_eq k (by omega) x.f4 (by omega) (by omega)
    have d5 := decimal_eq k (by omega) x.f5 (by omega) (by omega)
    simp only [timesyncref50_line.j0]
    rw [d4, d5]
    simp only [Option.bind_some, mk_size]
    rw [if_pos (by omega), if_pos (by omega)]
    rw [show (⟨#[32]⟩ : ByteArray) = ⟨[32].toArray⟩ from rfl, show (⟨#[10]⟩ : ByteArray) = ⟨[10].toArray⟩ from rfl]
    simp only [mk_app]
    by_cases c : x.f0 = 3
    · rw [if_pos c, if_pos (by omega), if_pos (by omega), if_pos (by omega), if_pos c]
      simp
    · rw [if_neg c, if_pos (by omega), if_neg c]
      simp
  have lw := word_len x.f0
  unfold timesyncref50_line.f
  rw [name_eq x.f0 g0 g1, d1, d2, d3, travels_eq]
  simp only [Option.bind_some, mk_size]
  rw [if_pos (by omega), if_pos (by omega)]
  rw [show (⟨#[32]⟩ : ByteArray) = ⟨[32].toArray⟩ from rfl]
  simp only [mk_app, decide_eq_true_eq]
  unfold lineOf
  have hwd : wordOf x.f0 = (if x.f0 = 1 then [115, 101, 110, 100] else if x.f0 = 2 then [114, 101, 99, 118] else if x.f0 = 3 then [115, 116, 101, 112] else [109, 97, 114, 107]) := rfl
  rw [← hwd]
  by_cases c : x.f0 = 1 ∨ x.f0 = 2
  · rw [if_pos c, if_pos (by omega), if_pos (by omega), if_pos (by omega), if_pos (by omega), hj _ (by simp only [List.length_append, List.length_cons, List.length_nil]; omega), if_pos c]
    simp
  · rw [if_neg c, hj _ (by simp only [List.length_append, List.length_cons, List.length_nil]; omega), if_neg c]
    simp
theorem reftext_l0 (l : List S37) (hl : l.length ≤ 512) (he : ∀ x ∈ l, errOf x = 0) : ∀ (m k : Nat) (i : Int) (t : List UInt8), 0 ≤ i → i ≤ l.length → (l.length : Int) - i ≤ m → m + 40 ≤ k → t = (l.take i.toNat).flatMap lineOf →
    timesyncref50_Text.l0 k l ⟨t.toArray⟩ i = some (⟨(l.flatMap lineOf).toArray⟩, 0)
  | m, 0, i, t, h0, h1, h2, h3, h4 => by omega
  | m, k + 1, i, t, h0, h1, h2, h3, h4 => by
    unfold timesyncref50_Text.l0
    by_cases c : i < (l.length : Int)
    · have hx := he _ (mem_rd h0 c)
      have hll := line_len hx
      have hal := lines_len (l.take i.toNat) (fun y hy => he y (List.mem_of_mem_take hy))
      rw [← h4, List.length_take] at hal
      have hw : wrap64 (i + 1) = i + 1 := by unfold wrap64; omega
      rw [if_pos c, if_pos h0, refline_eq k (by omega) _ hx, Option.bind_some, mk_size, mk_size, if_pos (by omega), mk_app, hw]
      obtain ⟨m, rfl⟩ : ∃ q, m = q + 1 := ⟨m - 1, by omega⟩
      exact reftext_l0 l hl he m k (i + 1) _ (by omega) (by omega) (by omega) (by omega) (by rw [lines_step l i h0 c, h4])
    · rw [if_neg c, h4, List.take_of_length_le (by omega)]
theorem reftext_eq (l : List S37) : timesyncref50_Text.f 3000 l = logbook_Text.f l := by
  unfold timesyncref50_Text.f logbook_Text.f
  rw [refcheck_eq l 3000 (by decide), Option.bind_some]
  by_cases c : chk l = 0
  · have h := chk_ok c
    rw [if_pos c, if_pos c]
    exact reftext_l0 l h.1 h.2 512 3000 0 [] (by decide) (by omega) (by omega) (by decide) rfl
  · rw [if_neg c, if_neg c]
end Go.Proofs.YtjhifhnjkpoofaaDoor.M
