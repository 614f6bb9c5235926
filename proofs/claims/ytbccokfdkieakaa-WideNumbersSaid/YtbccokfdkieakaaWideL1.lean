/- WideRings, WideShares, WideNumbers: the laws answer true for all numbers. -/
import Derived.OpenShut
import Derived.Test.YtbccokfdkieakaaWideV
import Derived.Test.YtbccokfdkieakaaFzelligelaw01WideRings
import Derived.Test.YtbccokfdkieakaaFzelligelaw01WideShares
import Derived.Test.YtbccokfdkieakaaFzelligelaw01WideNumbers
namespace Go.Proofs.Ytbccokfdkieakaa.Wd
open Go Go.RowKit Go.Proofs.YtbccokfdkieakaaW.PrintWords Go.Proofs.Ytbccokfdkieakaa.F
set_option linter.unusedVariables false
theorem bu64 {n : Int} (h : (Lit.int .u64 n).wf = true) : 0 ≤ n ∧ n < 18446744073709551616 := by
  have := bounds_u64 h
  omega
theorem both {h l h' l' : Int} (e : h = h' ∧ l = l') : (h == h' && (l == l')) = true := by
  rw [e.1, e.2, beq_self_eq_true, beq_self_eq_true]; rfl
theorem rings_f (a b c d : Int) (h : WOk a b) (h' : WOk c d) : zelligelaw01_WideRings.f a b c d = some true := by
  obtain ⟨t1, e1⟩ := wv_of (wv a b + wv c d)
  obtain ⟨t2, e2⟩ := wv_of (-(wv a b))
  unfold zelligelaw01_WideRings.f
  rw [wadd_f h h', Option.bind_some, wsub_f (wok_of _) h', Option.bind_some,
    if_pos (both (weq h (n := wv (whi (wv a b + wv c d)) (wlo (wv a b + wv c d)) - wv c d) (t := t1) (by omega))), wneg_f h, Option.bind_some, wneg_f (wok_of _), Option.bind_some,
    if_pos (both (weq h (n := -(wv (whi (-(wv a b))) (wlo (-(wv a b))))) (t := -t2) (by omega))), Option.bind_some, wadd_f h (wok_of _), Option.bind_some,
    if_pos (both (weq (h := 0) (l := 0) ⟨by omega, by omega⟩ (n := wv a b + wv (whi (-(wv a b))) (wlo (-(wv a b)))) (t := t2) (by rw [e2]; unfold wv; omega))), Option.bind_some, wadd_f h' h, Option.bind_some,
    if_pos (both ⟨by rw [Int.add_comm], by rw [Int.add_comm]⟩), lives_true]
  rfl
theorem rings_calls (a0_0 a0_1 a1_0 a1_1 : Int) (w : World) (h0 : (Lit.int .i64 a0_0).wf = true) (h1 : (Lit.int .u64 a0_1).wf = true) (h2 : (Lit.int .i64 a1_0).wf = true) (h3 : (Lit.int .u64 a1_1).wf = true) :
    Calls Try.prog 5 #[.agg #[.int .i64 a0_0, .int .u64 a0_1], .agg #[.int .i64 a1_0, .int .u64 a1_1]] w fun e w' => e = .returned (.bool true) ∧ Below w.heap.size w w' :=
  zelligelaw01_WideRings.calls a0_0 a0_1 a1_0 a1_1 true w (rings_f _ _ _ _ ⟨bounds_i64 h0, bu64 h1⟩ ⟨bounds_i64 h2, bu64 h3⟩)
theorem mul_bd {a b : Int} (ha : -9223372036854775808 ≤ a ∧ a ≤ 9223372036854775807) (hb : -9223372036854775808 ≤ b ∧ b ≤ 9223372036854775807) : -85070591730234615865843651857942052864 ≤ a * b ∧ a * b ≤ 85070591730234615865843651857942052864 := by
  have h := Nat.mul_le_mul (show a.natAbs ≤ 9223372036854775808 by omega) (show b.natAbs ≤ 9223372036854775808 by omega)
  rw [← Int.natAbs_mul] at h
  omega
theorem shares_f (a b c : Int) (ha : -9223372036854775808 ≤ a ∧ a ≤ 9223372036854775807) (hb : -9223372036854775808 ≤ b ∧ b ≤ 9223372036854775807) (hc : -9223372036854775808 ≤ c ∧ c ≤ 9223372036854775807) : zelligelaw01_WideShares.f a b c = some true := by
  have b1 := mul_bd ha hb
  have b2 := mul_bd ha hc
  unfold zelligelaw01_WideShares.f
  rw [of_f hb, Option.bind_some, of_f hc, Option.bind_some, wadd_f (wok_of _) (wok_of _), wv_small (n := b) (by omega), wv_small (n := c) (by omega), Option.bind_some, small_f (wok_of _), wv_small (n := b + c) (by omega), Option.bind_some]
  by_cases k : -9223372036854775808 ≤ b + c ∧ b + c ≤ 9223372036854775807
  · rw [if_pos k, if_pos rfl, wmul_f ha hb, Option.bind_some, wmul_f ha hc, Option.bind_some, wadd_f (wok_of _) (wok_of _), wv_small (n := a * b) (by omega), wv_small (n := a * c) (by omega), Option.bind_some, wmul_f ha k, Option.bind_some, Int.mul_add, if_pos (both ⟨rfl, rfl⟩), lives_true]
    rfl
  · rw [if_neg k, if_neg (by decide), lives_true]
    rfl
theorem shares_calls (a b c : Int) (w : World) (h0 : (Lit.int .i64 a).wf = true) (h1 : (Lit.int .i64 b).wf = true) (h2 : (Lit.int .i64 c).wf = true) :
    Calls Try.prog 7 #[.int .i64 a, .int .i64 b, .int .i64 c] w fun e w' => e = .returned (.bool true) ∧ Below w.heap.size w w' :=
  zelligelaw01_WideShares.calls a b c true w (shares_f a b c (bounds_i64 h0) (bounds_i64 h1) (bounds_i64 h2))
theorem sign_cases (a : Int) : a.sign = -1 ∨ a.sign = 0 ∨ a.sign = 1 := by
  rcases Int.lt_trichotomy a 0 with h | h | h
  · exact .inl (Int.sign_eq_neg_one_of_neg h)
  · exact .inr (.inl (by rw [h]; rfl))
  · exact .inr (.inr (Int.sign_eq_one_of_pos h))
theorem numbers_j1 (a b c : Int) (ha : -9223372036854775808 ≤ a ∧ a ≤ 9223372036854775807) (hb : -9223372036854775808 ≤ b ∧ b ≤ 9223372036854775807) (hc : c = if a < b then -1 else if b < a then 1 else 0) (k : Nat) : zelligelaw01_WideNumbers.j1 (k + 1) a b c = some true := by
  have b1 := mul_bd ha hb
  have s1 : wrap64 (a.sign * b.sign) = (a * b).sign := by
    rw [Int.sign_mul]
    have h1 : a.sign = -1 ∨ a.sign = 0 ∨ a.sign = 1 := sign_cases a
    have h2 : b.sign = -1 ∨ b.sign = 0 ∨ b.sign = 1 := sign_cases b
    rcases h1 with h1 | h1 | h1 <;> rcases h2 with h2 | h2 | h2 <;> rw [h1, h2] <;> (unfold wrap64; omega)
  rw [zelligelaw01_WideNumbers.j1, of_f ha, Option.bind_some, of_f hb, Option.bind_some, cmp_f (wok_of _) (wok_of _), wv_small (n := a) (by omega), wv_small (n := b) (by omega), Option.bind_some, if_pos hc.symm, wmul_f ha hb, Option.bind_some, sign_f (wok_of _), wv_small (n := a * b) (by omega), Option.bind_some,
    Option.bind_some, sign_f (wok_of _), wv_small (n := a) (by omega), Option.bind_some, Option.bind_some, sign_f (wok_of _), wv_small (n := b) (by omega), Option.bind_some, if_pos s1.symm, Option.bind_some, wmul_f hb ha, Option.bind_some, if_pos (both ⟨by rw [Int.mul_comm], by rw [Int.mul_comm]⟩), lives_true]
  rfl
theorem numbers_f (a b : Int) (ha : -9223372036854775808 ≤ a ∧ a ≤ 9223372036854775807) (hb : -9223372036854775808 ≤ b ∧ b ≤ 9223372036854775807) : zelligelaw01_WideNumbers.f 5 a b = some true := by
  unfold zelligelaw01_WideNumbers.f
  by_cases h1 : a < b
  · rw [if_pos h1, zelligelaw01_WideNumbers.j0, if_neg (by omega)]
    exact numbers_j1 a b _ ha hb (by rw [if_pos h1]) 3
  · rw [if_neg h1, zelligelaw01_WideNumbers.j0]
    by_cases h2 : a > b
    · rw [if_pos h2]
      exact numbers_j1 a b _ ha hb (by rw [if_neg h1, if_pos h2]) 3
    · rw [if_neg h2]
      exact numbers_j1 a b _ ha hb (by rw [if_neg h1, if_neg h2]) 3
theorem numbers_calls (a b : Int) (w : World) (h0 : (Lit.int .i64 a).wf = true) (h1 : (Lit.int .i64 b).wf = true) :
    Calls Try.prog 6 #[.int .i64 a, .int .i64 b] w fun e w' => e = .returned (.bool true) ∧ Below w.heap.size w w' :=
  zelligelaw01_WideNumbers.calls 5 a b true w (numbers_f a b (bounds_i64 h0) (bounds_i64 h1))
end Go.Proofs.Ytbccokfdkieakaa.Wd
