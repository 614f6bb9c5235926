/- The bits of a number's bytes: seven at a time. -/
import Derived.Test.YtbmeleolpemakaaWMore
import Derived.Laws.Bits64b
import Derived.WalkKit
namespace Go.Proofs.Ytbmeleolpemakaa.Pk
open Go Go.RowKit Go.Proofs.YtbmeleolpemakaaW.PrintWords Go.Proofs.YtbmeleolpemakaaW.PrintLast Go.Proofs.YtbmeleolpemakaaW.PrintMore
set_option linter.unusedVariables false
theorem p64 {x : Int} (h : -9223372036854775808 ≤ x ∧ x ≤ 9223372036854775807) : wrap64 x = x := by unfold wrap64; omega
theorem andnot (c : Int) (h0 : 0 ≤ c) (h1 : c < 256) : Go.bits .andNot .u8 c 128 = c % 128 := by
  obtain ⟨n, rfl⟩ := Int.eq_ofNat_of_zero_le h0
  have : ∀ n : Fin 256, Go.bits .andNot .u8 ((n.val : Nat) : Int) 128 = ((n.val : Nat) : Int) % 128 := by decide +kernel
  exact this ⟨n, by omega⟩
theorem or128 (c : Int) (h0 : 0 ≤ c) (h1 : c < 128) : Go.bits .or .u8 c 128 = c + 128 := by
  obtain ⟨n, rfl⟩ := Int.eq_ofNat_of_zero_le h0
  have : ∀ n : Fin 128, Go.bits .or .u8 ((n.val : Nat) : Int) 128 = ((n.val : Nat) : Int) + 128 := by decide +kernel
  exact this ⟨n, by omega⟩
/-- 128 to the power i. -/
def Q (i : Nat) : Int := ((2 ^ (7 * i) : Nat) : Int)
theorem Q_succ (i : Nat) : Q (i + 1) = 128 * Q i := by
  unfold Q
  rw [show 7 * (i + 1) = 7 * i + 7 by omega, Nat.pow_add]
  omega
theorem Q_pos (i : Nat) : 0 < Q i := by unfold Q; exact Int.natCast_pos.2 (Nat.two_pow_pos _)
theorem or_add {x y : Int} {i : Nat} (hx : 0 ≤ x) (hx2 : x < Q i) (hy : 0 ≤ y) (hy2 : y * Q i < 18446744073709551616) (hi : i ≤ 9) : Go.bits .or .u64 x (shl .u64 (IntKind.u64.wrap y) (7 * (i : Int))) = x + y * Q i := by
  have q1 := Q_pos i
  obtain ⟨X, rfl⟩ := Int.eq_ofNat_of_zero_le hx
  obtain ⟨Y, rfl⟩ := Int.eq_ofNat_of_zero_le hy
  have hyl : (Y : Int) < 18446744073709551616 := by
    have := Int.mul_le_mul_of_nonneg_left (show (1 : Int) ≤ Q i by omega) hy
    omega
  have w : IntKind.u64.wrap (Y : Int) = Y := by rw [IntKind.wrap_u64]; omega
  have e7 : min (7 * (i : Int)).toNat IntKind.u64.bits = 7 * i := by
    have : (7 * (i : Int)).toNat = 7 * i := by omega
    rw [this]
    exact Nat.min_eq_left (show 7 * i ≤ 64 by omega)
  have s : shl .u64 (Y : Int) (7 * (i : Int)) = ((Y * 2 ^ (7 * i) : Nat) : Int) := by
    unfold shl
    rw [e7, IntKind.wrap_u64]
    have e : (Y : Int) * 2 ^ (7 * i) = (Y : Int) * Q i := by unfold Q; push_cast; rfl
    rw [e]
    have e2 : ((Y * 2 ^ (7 * i) : Nat) : Int) = (Y : Int) * Q i := by unfold Q; push_cast; rfl
    rw [e2]
    have := Int.mul_nonneg hy (Int.le_of_lt q1)
    omega
  have eq : (Y : Int) * Q i = ((Y * 2 ^ (7 * i) : Nat) : Int) := by unfold Q; push_cast; rfl
  rw [eq] at hy2
  have hx3 : X < 2 ^ (7 * i) := by unfold Q at hx2; exact Int.ofNat_lt.1 hx2
  have hq : (2 : Nat) ^ (7 * i) ≤ 2 ^ 63 := Nat.pow_le_pow_right (by decide) (by omega)
  rw [w, s, bits_or_u64_nat X _ (by omega) (by omega), eq]
  have o := Nat.two_pow_add_eq_or_of_lt hx3 Y
  rw [Nat.or_comm, Nat.mul_comm Y, ← o]
  omega
theorem and_one {u : Int} (h0 : 0 ≤ u) (h1 : u < 18446744073709551616) : Go.bits .and .u64 u 1 = u % 2 := by
  obtain ⟨U, rfl⟩ := Int.eq_ofNat_of_zero_le h0
  rw [show (1 : Int) = ((1 : Nat) : Int) from rfl, bits_and_u64_nat U 1 (by omega) (by omega), Nat.and_one_is_mod]
  omega
theorem xor_zero {a : Int} (h0 : 0 ≤ a) (h1 : a < 9223372036854775808) : Go.bits .xor .i64 a 0 = a := by
  obtain ⟨A, rfl⟩ := Int.eq_ofNat_of_zero_le h0
  show IntKind.i64.wrap (((BitVec.ofInt 64 (A : Int) ^^^ BitVec.ofInt 64 0).toNat : Nat) : Int) = _
  have h : (BitVec.ofInt 64 (A : Int)).toNat = A := by rw [BitVec.ofInt_natCast, BitVec.toNat_ofNat]; exact Nat.mod_eq_of_lt (by omega)
  rw [show BitVec.ofInt 64 0 = 0#64 from rfl, BitVec.xor_zero, h, i64_w]
  exact p64 (by omega)
theorem xor_ones {a : Int} (h0 : 0 ≤ a) (h1 : a < 9223372036854775808) : Go.bits .xor .i64 a (-1) = -a - 1 := by
  obtain ⟨A, rfl⟩ := Int.eq_ofNat_of_zero_le h0
  show IntKind.i64.wrap (((BitVec.ofInt 64 (A : Int) ^^^ BitVec.ofInt 64 (-1)).toNat : Nat) : Int) = _
  have h : (BitVec.ofInt 64 (A : Int)).toNat = A := by rw [BitVec.ofInt_natCast, BitVec.toNat_ofNat]; exact Nat.mod_eq_of_lt (by omega)
  rw [show BitVec.ofInt 64 (-1) = BitVec.allOnes 64 by decide, BitVec.xor_allOnes, BitVec.toNat_not, h, i64_w]
  unfold wrap64
  omega
theorem dec {u : Int} (h0 : 0 ≤ u) (h1 : u < 18446744073709551616) : Go.bits .xor .i64 (wrap64 (u / 2)) (wrap64 (-(wrap64 (Go.bits .and .u64 u 1)))) = if u % 2 = 1 then -(u / 2) - 1 else u / 2 := by
  rw [and_one h0 h1, p64 (x := u / 2) (by omega), p64 (x := u % 2) (by omega), p64 (x := -(u % 2)) (by omega)]
  by_cases h : u % 2 = 1
  · rw [if_pos h, h]; exact xor_ones (by omega) (by omega)
  · rw [if_neg h, show u % 2 = 0 by omega]; exact xor_zero (by omega) (by omega)
end Go.Proofs.Ytbmeleolpemakaa.Pk
