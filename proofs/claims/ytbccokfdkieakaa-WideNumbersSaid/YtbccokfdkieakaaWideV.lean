/- Numbers of 128 bits as two words: what wide's functions come to. Plain numbers. -/
import Derived.Test.YtbccokfdkieakaaFwideMul
import Derived.Test.YtbccokfdkieakaaFwideOf
import Derived.Test.YtbccokfdkieakaaFwideSmall
import Derived.Test.YtbccokfdkieakaaFwideCmp
import Derived.Test.YtbccokfdkieakaaFwideSign
import Derived.Test.YtbccokfdkieakaaFwideNeg
import Derived.Test.YtbccokfdkieakaaFwideAdd
import Derived.Test.YtbccokfdkieakaaFwideSub
import Derived.Test.YtbccokfdkieakaaFzelligelaw01lives
import Derived.Lib.Mul64
namespace Go.Proofs.Ytbccokfdkieakaa.Wd
open Go Go.RowKit Go.Proofs.YtbccokfdkieakaaW.PrintWords Go.Proofs.Ytbccokfdkieakaa.F
set_option linter.unusedVariables false

theorem wok_of (n : Int) : WOk (whi n) (wlo n) := by
  unfold whi wlo wrap64
  exact ⟨by omega, by omega⟩
theorem wv_of (n : Int) : ∃ t : Int, wv (whi n) (wlo n) = n + 340282366920938463463374607431768211456 * t := by
  unfold wv whi wlo wrap64
  exact ⟨-((n / 18446744073709551616 + 9223372036854775808) / 18446744073709551616), by omega⟩
/-- The words of a number are those of any number that is the same modulo 2^128. -/
theorem wcong {n m t : Int} (h : n = m + 340282366920938463463374607431768211456 * t) : whi n = whi m ∧ wlo n = wlo m := by
  unfold whi wlo wrap64
  omega
theorem wuniq {h l : Int} (ok : WOk h l) : whi (wv h l) = h ∧ wlo (wv h l) = l := by
  obtain ⟨h1, h2⟩ := ok
  unfold whi wlo wv wrap64
  omega
theorem weq {h l n t : Int} (ok : WOk h l) (e : n = wv h l + 340282366920938463463374607431768211456 * t) : whi n = h ∧ wlo n = l := by
  obtain ⟨e1, e2⟩ := wcong e
  obtain ⟨e3, e4⟩ := wuniq ok
  exact ⟨e1.trans e3, e2.trans e4⟩
/-- A wide that is small enough is told as it is. -/
theorem wv_small {n : Int} (h : -170141183460469231731687303715884105728 ≤ n ∧ n < 170141183460469231731687303715884105728) : wv (whi n) (wlo n) = n := by
  unfold wv whi wlo wrap64
  omega
theorem wv_le {h l : Int} (ok : WOk h l) : -170141183460469231731687303715884105728 ≤ wv h l ∧ wv h l < 170141183460469231731687303715884105728 := by
  obtain ⟨h1, h2⟩ := ok
  unfold wv
  omega
theorem wadd_f {a b c d : Int} (h : WOk a b) (h' : WOk c d) : wide_Add.f a b c d = some (whi (wv a b + wv c d), wlo (wv a b + wv c d)) := by
  unfold wide_Add.f wide_add.f
  rw [if_pos ⟨h, h'⟩, Option.bind_some]
theorem wsub_f {a b c d : Int} (h : WOk a b) (h' : WOk c d) : wide_Sub.f a b c d = some (whi (wv a b - wv c d), wlo (wv a b - wv c d)) := by
  unfold wide_Sub.f wide_sub.f
  rw [if_pos ⟨h, h'⟩, Option.bind_some]
theorem wneg_f {a b : Int} (h : WOk a b) : wide_Neg.f a b = some (whi (-(wv a b)), wlo (-(wv a b))) := by
  unfold wide_Neg.f wide_sub.f
  rw [if_pos ⟨⟨by omega, by omega⟩, h⟩, Option.bind_some]
  have e : wv 0 0 - wv a b = -(wv a b) := by unfold wv; omega
  rw [e]
theorem of_f {a : Int} (h : -9223372036854775808 ≤ a ∧ a ≤ 9223372036854775807) : wide_Of.f a = some (whi a, wlo a) := by
  unfold wide_Of.f
  rw [IntKind.wrap_u64]
  have e : whi a = a / 9223372036854775808 := by unfold whi wrap64; omega
  rw [e]
  rfl
theorem mask_n (a : Nat) (ha : a < 18446744073709551616) : bits .and .u64 (a : Int) 4294967295 = ((a % 4294967296 : Nat) : Int) := by
  rw [and_mask _ (by omega) (by omega)]; omega
theorem wrap_n (a : Nat) (ha : a < 18446744073709551616) : IntKind.u64.wrap (a : Int) = (a : Int) := by rw [IntKind.wrap_u64]; omega
theorem mul64_f {x y : Int} (hx : 0 ≤ x ∧ x < 18446744073709551616) (hy : 0 ≤ y ∧ y < 18446744073709551616) : bits_Mul64.f x y = some (x * y / 18446744073709551616, x * y % 18446744073709551616) := by
  obtain ⟨X, rfl⟩ := Int.eq_ofNat_of_zero_le hx.1
  obtain ⟨Y, rfl⟩ := Int.eq_ofNat_of_zero_le hy.1
  obtain ⟨m1, m2, m3, m4⟩ := Lib.mul64_hi X Y (by omega) (by omega)
  have ba := Lib.half_mul_le (a := X / 4294967296) (b := Y / 4294967296) (by omega) (by omega)
  have bb := Lib.half_mul_le (a := X / 4294967296) (b := Y % 4294967296) (by omega) (by omega)
  have bc := Lib.half_mul_le (a := X % 4294967296) (b := Y / 4294967296) (by omega) (by omega)
  have d1 : ((X : Int)) / 4294967296 = ((X / 4294967296 : Nat) : Int) := by omega
  have d2 : ((Y : Int)) / 4294967296 = ((Y / 4294967296 : Nat) : Int) := by omega
  have e1 : (X : Int) * (Y : Int) / 18446744073709551616 = ((X * Y / 18446744073709551616 : Nat) : Int) := by rw [← Int.natCast_mul]; omega
  have e2 : IntKind.u64.wrap ((X : Int) * (Y : Int)) = (X : Int) * (Y : Int) % 18446744073709551616 := IntKind.wrap_u64 _
  unfold bits_Mul64.f
  rw [e1, e2, mask_n X (by omega), mask_n Y (by omega), d1, d2, ← Int.natCast_mul, ← Int.natCast_mul, ← Int.natCast_mul, ← Int.natCast_mul, ← m4]
  clear e1 e2 d1 d2
  generalize X / 4294967296 * (Y / 4294967296) = p at m4 ba ⊢
  generalize X / 4294967296 * (Y % 4294967296) = q at m2 m3 m4 bb ⊢
  generalize X % 4294967296 * (Y / 4294967296) = r at m3 m4 bc ⊢
  generalize X % 4294967296 * (Y % 4294967296) = s at m1 m2 m3 m4 ⊢
  have f1 : ((s : Int)) / 4294967296 = ((s / 4294967296 : Nat) : Int) := by omega
  have f2 : (q : Int) + ((s / 4294967296 : Nat) : Int) = ((q + s / 4294967296 : Nat) : Int) := by omega
  have f3 : ((q + s / 4294967296 : Nat) : Int) / 4294967296 = (((q + s / 4294967296) / 4294967296 : Nat) : Int) := by omega
  have f4 : (((q + s / 4294967296) % 4294967296 : Nat) : Int) + (r : Int) = (((q + s / 4294967296) % 4294967296 + r : Nat) : Int) := by omega
  have f5 : (((q + s / 4294967296) % 4294967296 + r : Nat) : Int) / 4294967296 = ((((q + s / 4294967296) % 4294967296 + r) / 4294967296 : Nat) : Int) := by omega
  rw [wrap_n s m1, f1, wrap_n q (by omega), f2, wrap_n _ m2, f3, mask_n _ m2, wrap_n r (by omega), f4, wrap_n _ m3, f5, wrap_n p (by omega)]
  have hlt : p + (q + s / 4294967296) / 4294967296 + ((q + s / 4294967296) % 4294967296 + r) / 4294967296 < 18446744073709551616 := by
    rw [m4]
    have hXY : X * Y < 18446744073709551616 * 18446744073709551616 := Nat.mul_lt_mul_of_lt_of_lt (by omega) (by omega)
    omega
  have f6 : (p : Int) + (((q + s / 4294967296) / 4294967296 : Nat) : Int) = ((p + (q + s / 4294967296) / 4294967296 : Nat) : Int) := by omega
  have f7 : ((p + (q + s / 4294967296) / 4294967296 : Nat) : Int) + ((((q + s / 4294967296) % 4294967296 + r) / 4294967296 : Nat) : Int) = ((p + (q + s / 4294967296) / 4294967296 + ((q + s / 4294967296) % 4294967296 + r) / 4294967296 : Nat) : Int) := by omega
  rw [f6, wrap_n _ (by omega), f7, wrap_n _ hlt]
/-- Mul: the product. -/
theorem wmul_f {a b : Int} (ha : -9223372036854775808 ≤ a ∧ a ≤ 9223372036854775807) (hb : -9223372036854775808 ≤ b ∧ b ≤ 9223372036854775807) : wide_Mul.f a b = some (whi (a * b), wlo (a * b)) := by
  unfold wide_Mul.f
  have wa := IntKind.wrap_u64 a
  have wb := IntKind.wrap_u64 b
  rw [mul64_f (by omega) (by omega), Option.bind_some]
  generalize hU : IntKind.u64.wrap a = U at wa ⊢
  generalize hV : IntKind.u64.wrap b = V at wb ⊢
  clear hU hV
  have w1 := fun z => IntKind.wrap_u64 z
  by_cases na : a < 0
  · obtain rfl : U = a + 18446744073709551616 := by omega
    rw [if_pos na]
    by_cases nb : b < 0
    · obtain rfl : V = b + 18446744073709551616 := by omega
      have e : (a + 18446744073709551616) * (b + 18446744073709551616) = a * b + 18446744073709551616 * (a + b + 18446744073709551616) := by grind
      rw [if_pos nb, w1, w1, e]
      generalize a * b = M
      unfold whi wlo wrap64
      congr 2
      · omega
      · omega
    · obtain rfl : V = b := by omega
      have e : (a + 18446744073709551616) * V = a * V + 18446744073709551616 * V := by grind
      rw [if_neg nb, w1, e]
      generalize a * V = M
      unfold whi wlo wrap64
      congr 2
      · omega
      · omega
  · obtain rfl : U = a := by omega
    rw [if_neg na]
    by_cases nb : b < 0
    · obtain rfl : V = b + 18446744073709551616 := by omega
      have e : U * (b + 18446744073709551616) = U * b + 18446744073709551616 * U := by grind
      rw [if_pos nb, w1, e]
      generalize U * b = M
      unfold whi wlo wrap64
      congr 2
      · omega
      · omega
    · obtain rfl : V = b := by omega
      rw [if_neg nb]
      generalize U * V = M
      unfold whi wlo wrap64
      congr 2
theorem small_f {h l : Int} (ok : WOk h l) : wide_Small.f h l = some (if -9223372036854775808 ≤ wv h l ∧ wv h l ≤ 9223372036854775807 then (wv h l, true) else (0, false)) := by
  obtain ⟨h1, h2⟩ := ok
  unfold wide_Small.f
  by_cases k : -9223372036854775808 ≤ wv h l ∧ wv h l ≤ 9223372036854775807
  · rw [if_pos k]
    unfold wv at k ⊢
    have e : wrap64 l = h * 18446744073709551616 + l := by unfold wrap64; omega
    rw [e, if_pos (by omega)]
  · rw [if_neg k]
    unfold wv at k
    rw [if_neg (by unfold wrap64; omega)]
theorem cmp_f {a b c d : Int} (h : WOk a b) (h' : WOk c d) : wide_Cmp.f a b c d = some (if wv a b < wv c d then -1 else if wv c d < wv a b then 1 else 0) := by
  obtain ⟨h1, h2⟩ := h
  obtain ⟨h3, h4⟩ := h'
  unfold wide_Cmp.f wv
  by_cases k : a = c ∧ b = d
  · obtain ⟨rfl, rfl⟩ := k
    rw [if_pos ⟨rfl, rfl⟩, if_neg (by omega), if_neg (by omega)]
  · rw [if_neg k]
    by_cases k1 : a < c
    · rw [if_pos k1, if_pos (by omega)]
    · rw [if_neg k1]
      by_cases k2 : a = c ∧ b < d
      · rw [if_pos k2, if_pos (by omega)]
      · rw [if_neg k2, if_neg (by omega), if_pos (by omega)]
theorem sign_f {h l : Int} (ok : WOk h l) : wide_Sign.f h l = some (wv h l).sign := by
  obtain ⟨h1, h2⟩ := ok
  unfold wide_Sign.f wide_sign.f
  by_cases k : h < 0
  · rw [if_pos k, Option.bind_some, Int.sign_eq_neg_one_of_neg (by unfold wv; omega)]
  · rw [if_neg k]
    by_cases k2 : h = 0
    · rw [if_pos k2]
      by_cases k3 : l = 0
      · rw [if_pos k3, Option.bind_some, k2, k3]; rfl
      · rw [if_neg k3, Option.bind_some, Int.sign_eq_one_of_pos (by unfold wv; omega)]
    · rw [if_neg k2, Option.bind_some, Int.sign_eq_one_of_pos (by unfold wv; omega)]
/-! ### lives -/
theorem dlen_eq {N n : Nat} (h : 1 ≤ n) (h0 : N / 10 ^ n = 0) (h1 : ¬ N / 10 ^ (n - 1) = 0) : dlen N = n := by
  obtain ⟨d1, d2, d3⟩ := dlen_ok N
  rcases Nat.lt_trichotomy (dlen N) n with k | k | k
  · exact absurd (Nat.div_eq_of_lt (Nat.lt_of_lt_of_le ((Nat.div_eq_zero_iff.1 d2).resolve_left (by have := Nat.pow_pos (n := dlen N) (show 0 < 10 by omega); omega)) (Nat.pow_le_pow_right (by omega) (by omega)))) h1
  · exact k
  · exact absurd h0 (d3 n k h)
theorem lives_true : zelligelaw01_lives.f = some true := by
  have e1 : wide_Mul.f (-3) 4611686018427387904 = some (whi (-13835058055282163712), wlo (-13835058055282163712)) := wmul_f (by omega) (by omega)
  have e2 : whi (-13835058055282163712) = -1 := by unfold whi wrap64; omega
  have e3 : wlo (-13835058055282163712) = 4611686018427387904 := by unfold wlo; omega
  have e4 : wide_Show.f (-1) 4611686018427387904 = some (strOfNums (45 :: chars 13835058055282163712 20)) := by
    unfold wide_Show.f wide_show.f
    have e5 : (wv (-1) 4611686018427387904).natAbs = 13835058055282163712 := by decide
    have e6 : dlen 13835058055282163712 = 20 := dlen_eq (by omega) (by decide) (by decide)
    rw [if_pos ⟨by omega, by omega⟩, Option.bind_some, if_pos (by omega), e5, e6]
  unfold zelligelaw01_lives.f
  rw [e1, Option.bind_some, e2, e3, e4, Option.bind_some]
  decide +kernel
end Go.Proofs.Ytbccokfdkieakaa.Wd
