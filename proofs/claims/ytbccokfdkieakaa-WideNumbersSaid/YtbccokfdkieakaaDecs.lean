/- Decimal digits of a number, eighteen at a time: plain numbers and lists. -/
import Derived.Test.YtbccokfdkieakaaFwidecut
namespace Go.Proofs.Ytbccokfdkieakaa.F
open Go Go.RowKit Go.Proofs.YtbccokfdkieakaaW.PrintWords
set_option linter.unusedVariables false
/-- What is left of N behind n digits, in eighteens; and the rest of the last eighteen. -/
def qq (N n : Nat) : Nat := N / 10 ^ (18 * ((n + 17) / 18))
def rr (N n : Nat) : Nat := N / 10 ^ n % 10 ^ (18 * ((n + 17) / 18) - n)
/-- The last n digits, as letters. -/
def chars (N : Nat) : Nat → List Int
  | 0 => []
  | n + 1 => ((48 + N / 10 ^ n % 10 : Nat) : Int) :: chars N n
def bcells (l : List Int) : Array Value := (l.map (Value.int .u8)).toArray
theorem chars_len (N n : Nat) : (chars N n).length = n := by
  induction n with
  | zero => rfl
  | succ n ih => rw [chars, List.length_cons, ih]
theorem qq_zero (N : Nat) : qq N 0 = N := by unfold qq; rw [show 18 * ((0 + 17) / 18) = 0 from rfl, Nat.pow_zero, Nat.div_one]
theorem rr_zero (N : Nat) : rr N 0 = 0 := by unfold rr; rw [show 18 * ((0 + 17) / 18) - 0 = 0 from rfl, Nat.pow_zero, Nat.mod_one]
theorem mod_div10 (M e : Nat) : M % 10 ^ (e + 1) / 10 = M / 10 % 10 ^ e := by
  rw [Nat.pow_succ, Nat.mul_comm, Nat.mod_mul_right_div_self]
theorem mod_mod10 (M e : Nat) : M % 10 ^ (e + 1) % 10 = M % 10 := by
  rw [Nat.pow_succ, Nat.mul_comm]; exact Nat.mod_mul_right_mod _ _ _
theorem div_pow_succ (N n : Nat) : N / 10 ^ n / 10 = N / 10 ^ (n + 1) := by rw [Nat.div_div_eq_div_mul, Nat.pow_succ]
theorem qq_at {N n : Nat} (h : n % 18 = 0) : qq N n = N / 10 ^ n := by unfold qq; rw [show 18 * ((n + 17) / 18) = n by omega]
theorem qq_new {N n : Nat} (h : n % 18 = 0) : qq N (n + 1) = qq N n / 1000000000000000000 := by
  rw [qq_at h]; unfold qq
  rw [show 18 * ((n + 1 + 17) / 18) = n + 18 by omega, Nat.pow_add, ← Nat.div_div_eq_div_mul]
theorem rr_new {N n : Nat} (h : n % 18 = 0) : rr N (n + 1) = qq N n % 1000000000000000000 / 10 := by
  rw [qq_at h, show 1000000000000000000 = 10 ^ (17 + 1) from rfl, mod_div10, div_pow_succ]; unfold rr
  rw [show 18 * ((n + 1 + 17) / 18) - (n + 1) = 17 by omega]
theorem dig_new {N n : Nat} (h : n % 18 = 0) : qq N n % 1000000000000000000 % 10 = N / 10 ^ n % 10 := by
  rw [qq_at h, show 1000000000000000000 = 10 ^ (17 + 1) from rfl, mod_mod10]
theorem qq_old {N n : Nat} (h : ¬ n % 18 = 0) : qq N (n + 1) = qq N n := by
  unfold qq; rw [show (n + 1 + 17) / 18 = (n + 17) / 18 by omega]
theorem rr_old {N n : Nat} (h : ¬ n % 18 = 0) : rr N (n + 1) = rr N n / 10 := by
  unfold rr
  rw [show (n + 1 + 17) / 18 = (n + 17) / 18 by omega, show 18 * ((n + 17) / 18) - n = (18 * ((n + 17) / 18) - (n + 1)) + 1 by omega, mod_div10, div_pow_succ]
theorem dig_old {N n : Nat} (h : ¬ n % 18 = 0) : rr N n % 10 = N / 10 ^ n % 10 := by
  unfold rr
  rw [show 18 * ((n + 17) / 18) - n = (18 * ((n + 17) / 18) - (n + 1)) + 1 by omega, mod_mod10]
theorem left_zero {N n : Nat} : N / 10 ^ n = 0 ↔ qq N n = 0 ∧ rr N n = 0 := by
  have e : qq N n = N / 10 ^ n / 10 ^ (18 * ((n + 17) / 18) - n) := by
    unfold qq; rw [Nat.div_div_eq_div_mul, ← Nat.pow_add, show n + (18 * ((n + 17) / 18) - n) = 18 * ((n + 17) / 18) by omega]
  rw [e]; unfold rr
  have h := Nat.div_add_mod (N / 10 ^ n) (10 ^ (18 * ((n + 17) / 18) - n))
  constructor
  · intro h0; rw [h0]; simp
  · rintro ⟨h1, h2⟩; rw [h1, h2] at h; simpa using h.symm
theorem rr_lt (N n : Nat) : rr N n < 1000000000000000000 := by
  unfold rr
  have h1 : 10 ^ (18 * ((n + 17) / 18) - n) ≤ 10 ^ 18 := Nat.pow_le_pow_right (by omega) (by omega)
  have h2 := Nat.mod_lt (N / 10 ^ n) (show 0 < 10 ^ (18 * ((n + 17) / 18) - n) from Nat.pow_pos (by omega))
  have h3 : (10 : Nat) ^ 18 = 1000000000000000000 := rfl
  omega
theorem qq_le (N n : Nat) : qq N n ≤ N := Nat.div_le_self _ _
theorem left_of {N n : Nat} (hN : N < 10 ^ 39) (h : ¬ N / 10 ^ n = 0) : n < 39 := by
  rcases Nat.lt_or_ge n 39 with h1 | h1
  · exact h1
  · exact absurd (Nat.div_eq_of_lt (Nat.lt_of_lt_of_le hN (Nat.pow_le_pow_right (by omega) h1))) h
theorem bcells_put {n : Nat} (hn : n < 40) (l : List Int) (v : Int) :
    (bcells (List.replicate (40 - n) 0 ++ l)).setIfInBounds (39 - n) (.int .u8 v) = bcells (List.replicate (40 - (n + 1)) 0 ++ (v :: l)) := by
  unfold bcells
  rw [List.setIfInBounds_toArray]
  congr 1
  rw [show 40 - n = (39 - n) + 1 by omega, List.replicate_succ', List.append_assoc, show 40 - (n + 1) = 39 - n by omega, List.map_append, List.map_append, List.set_append_right _ _ (by simp)]
  simp
theorem bcells_at {n : Nat} (hn : n ≤ 40) (l : List Int) (hl : l.length = n) {j : Nat} (hj : j < n) : (bcells (List.replicate (40 - n) 0 ++ l))[40 - n + j]? = some (.int .u8 (l.getD j 0)) := by
  unfold bcells
  simp [hl, hj, List.getD_eq_getElem?_getD]
theorem bcells_get {n i : Nat} (l : List Int) (hi : i < 40 - n) : (bcells (List.replicate (40 - n) 0 ++ l))[i]? = some (.int .u8 0) := by
  unfold bcells
  simp [List.getElem?_append_left, hi]
theorem cut_arith (q A r : Nat) (hq : q = A * 18446744073709551616 + r) (hr : r < 18446744073709551616) (hA : A < 18446744073709551616) :
    (A : Int) / 1000000000000000000 % 18446744073709551616 = ((q / 1000000000000000000 / 18446744073709551616 : Nat) : Int) ∧
    ((A : Int) % 1000000000000000000 * 18446744073709551616 + (r : Int)) / 1000000000000000000 = ((q / 1000000000000000000 % 18446744073709551616 : Nat) : Int) ∧
    ((A : Int) % 1000000000000000000 * 18446744073709551616 + (r : Int)) % 1000000000000000000 = ((q % 1000000000000000000 : Nat) : Int) := by
  have h1 : q / 1000000000000000000 = A / 1000000000000000000 * 18446744073709551616 + (A % 1000000000000000000 * 18446744073709551616 + r) / 1000000000000000000 := by omega
  have h3 : q % 1000000000000000000 = (A % 1000000000000000000 * 18446744073709551616 + r) % 1000000000000000000 := by omega
  have h2 : (A % 1000000000000000000 * 18446744073709551616 + r) / 1000000000000000000 < 18446744073709551616 := by omega
  have h4 : q / 1000000000000000000 / 18446744073709551616 = A / 1000000000000000000 := by omega
  have h5 : q / 1000000000000000000 % 18446744073709551616 = (A % 1000000000000000000 * 18446744073709551616 + r) / 1000000000000000000 := by omega
  refine ⟨?_, ?_, ?_⟩
  · rw [h4]; clear h1 h3 h2 h4 h5; omega
  · rw [h5]; clear h1 h3 h2 h4 h5; omega
  · rw [h3]; clear h1 h3 h2 h4 h5; omega
theorem cut_f (q : Nat) (hq : q < 340282366920938463463374607431768211456) : wide_cut.f ((q / 18446744073709551616 : Nat) : Int) ((q % 18446744073709551616 : Nat) : Int) 1000000000000000000 =
    some (((q / 1000000000000000000 / 18446744073709551616 : Nat) : Int), ((q / 1000000000000000000 % 18446744073709551616 : Nat) : Int), ((q % 1000000000000000000 : Nat) : Int)) := by
  unfold wide_cut.f bits_Div64.f
  obtain ⟨e1, e2, e3⟩ := cut_arith q (q / 18446744073709551616) (q % 18446744073709551616) (by omega) (by omega) (by omega)
  rw [if_neg (by decide), Int.tmod_eq_emod_of_nonneg (by omega), Int.tdiv_eq_ediv_of_nonneg (by omega), if_pos ⟨rfl, by omega, by omega⟩, Option.bind_some, IntKind.wrap_u64, e1, e2, e3]
end Go.Proofs.Ytbccokfdkieakaa.F
