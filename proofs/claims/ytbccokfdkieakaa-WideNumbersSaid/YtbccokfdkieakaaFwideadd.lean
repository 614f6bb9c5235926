/- wide.add and wide.sub, in the print's form: sums and differences of numbers of 128 bits, modulo 2^128. -/
import Derived.Test.YtbccokfdkieakaaFx0
import Derived.Laws.Externs
namespace Go.Proofs.Ytbccokfdkieakaa.F
open Go Go.RowKit Go.Proofs.YtbccokfdkieakaaW.PrintWords Go.Proofs.YtbccokfdkieakaaW.PrintLast Go.Proofs.YtbccokfdkieakaaW.PrintMore
set_option linter.unusedVariables false
theorem add64_run (x y c : Int) (hx : 0 ≤ x) (hy : 0 ≤ y) (hc0 : 0 ≤ c) (hc : c ≤ 1) (w : World) :
    (callFunc 39 #[.int .u64 x, .int .u64 y, .int .u64 c]).run Try.prog w = .ok (.value (.tuple #[.int .u64 ((x + y + c) % 18446744073709551616), .int .u64 ((x + y + c) / 18446744073709551616)])) w := by
  rw [run_callFunc_extern Try.func39 (by kernel_rfl) (by kernel_rfl) (by kernel_rfl) (e := add64Entry) (by kernel_rfl), run_add64 x y c hx hy hc0 hc]
  rfl
def sub64Entry : Array Value → Sem Value := fun args => do
  let (x, y, b) ← Extern.MathBitsCarry.three "Sub64" args
  pure (Extern.MathBitsCarry.pair ((x + Extern.MathBitsCarry.m64 - y - b) % Extern.MathBitsCarry.m64) (if x < y + b then 1 else 0))
theorem sub64_nat (x y b : Nat) (hb : b ≤ 1) (P : Program) (w : World) :
    (sub64Entry #[.int .u64 x, .int .u64 y, .int .u64 b]).run P w =
      .ok (.tuple #[.int .u64 (((x + 18446744073709551616 - y - b) % 18446744073709551616 : Nat) : Int), .int .u64 ((if x < y + b then 1 else 0 : Nat) : Int)]) w := by
  have : b = 0 ∨ b = 1 := by omega
  rcases this with rfl | rfl <;> rfl
theorem sub64_run (x y c : Int) (hx : 0 ≤ x ∧ x < 18446744073709551616) (hy : 0 ≤ y ∧ y < 18446744073709551616) (hc0 : 0 ≤ c) (hc : c ≤ 1) (w : World) :
    (callFunc 40 #[.int .u64 x, .int .u64 y, .int .u64 c]).run Try.prog w = .ok (.value (.tuple #[.int .u64 ((x - y - c) % 18446744073709551616), .int .u64 (-((x - y - c) / 18446744073709551616))])) w := by
  obtain ⟨X, rfl⟩ := Int.eq_ofNat_of_zero_le hx.1
  obtain ⟨Y, rfl⟩ := Int.eq_ofNat_of_zero_le hy.1
  obtain ⟨C, rfl⟩ := Int.eq_ofNat_of_zero_le hc0
  rw [run_callFunc_extern Try.func40 (by kernel_rfl) (by kernel_rfl) (by kernel_rfl) (e := sub64Entry) (by kernel_rfl), sub64_nat X Y C (by omega)]
  have e1 : (((X + 18446744073709551616 - Y - C) % 18446744073709551616 : Nat) : Int) = ((X : Int) - Y - C) % 18446744073709551616 := by omega
  have e2 : ((if X < Y + C then 1 else 0 : Nat) : Int) = -(((X : Int) - Y - C) / 18446744073709551616) := by split <;> omega
  rw [e1, e2]
  rfl
theorem three_below (w : World) (o0 o1 o2 : Obj) : Below w.heap.size w (((w.alloc o0).alloc o1).alloc o2) := (((Below.refl _ _).alloc (Nat.le_refl _) _).alloc (by simp) _).alloc (by simp; omega) _
set_option maxHeartbeats 1000000 in
theorem add_walk (a0 a1 b0 b1 lo c hi d : Int) (k1 : ∀ w, (callFunc 39 #[.int .u64 a1, .int .u64 b1, .int .u64 0]).run Try.prog w = .ok (.value (.tuple #[.int .u64 lo, .int .u64 c])) w)
    (k2 : ∀ w, (callFunc 39 #[.int .u64 (IntKind.u64.wrap a0), .int .u64 (IntKind.u64.wrap b0), .int .u64 c]).run Try.prog w = .ok (.value (.tuple #[.int .u64 hi, .int .u64 d])) w) (w : World) :
    Calls Try.prog 32 #[.agg #[.int .i64 a0, .int .u64 a1], .agg #[.int .i64 b0, .int .u64 b1]] w fun e w' => e = .returned (.agg #[.int .i64 (wrap64 hi), .int .u64 lo]) ∧ Below w.heap.size w w' := by
  go_enter Try.func32, Try.ntmps32
  go_wp2
  exact bodyPost_ret (v := .agg #[.int .i64 (wrap64 hi), .int .u64 lo]) (by simp [results, Try.results32, go_sem]) rfl ⟨rfl, three_below _ _ _ _⟩
set_option maxHeartbeats 1000000 in
theorem sub_walk (a0 a1 b0 b1 lo c hi d : Int) (k1 : ∀ w, (callFunc 40 #[.int .u64 a1, .int .u64 b1, .int .u64 0]).run Try.prog w = .ok (.value (.tuple #[.int .u64 lo, .int .u64 c])) w)
    (k2 : ∀ w, (callFunc 40 #[.int .u64 (IntKind.u64.wrap a0), .int .u64 (IntKind.u64.wrap b0), .int .u64 c]).run Try.prog w = .ok (.value (.tuple #[.int .u64 hi, .int .u64 d])) w) (w : World) :
    Calls Try.prog 33 #[.agg #[.int .i64 a0, .int .u64 a1], .agg #[.int .i64 b0, .int .u64 b1]] w fun e w' => e = .returned (.agg #[.int .i64 (wrap64 hi), .int .u64 lo]) ∧ Below w.heap.size w w' := by
  go_enter Try.func33, Try.ntmps33
  go_wp2
  exact bodyPost_ret (v := .agg #[.int .i64 (wrap64 hi), .int .u64 lo]) (by simp [results, Try.results33, go_sem]) rfl ⟨rfl, three_below _ _ _ _⟩
/-- The number that a wide's words stand for. -/
def wv (h l : Int) : Int := h * 18446744073709551616 + l
/-- The words of a number, modulo 2^128. -/
def whi (n : Int) : Int := wrap64 (n / 18446744073709551616)
def wlo (n : Int) : Int := n % 18446744073709551616
abbrev WOk (h l : Int) : Prop := (-9223372036854775808 ≤ h ∧ h ≤ 9223372036854775807) ∧ (0 ≤ l ∧ l < 18446744073709551616)
def wide_add.f (a0_0 : Int) (a0_1 : Int) (a1_0 : Int) (a1_1 : Int) : Option (Int × Int) := if WOk a0_0 a0_1 ∧ WOk a1_0 a1_1 then some (whi (wv a0_0 a0_1 + wv a1_0 a1_1), wlo (wv a0_0 a0_1 + wv a1_0 a1_1)) else none
def wide_sub.f (a0_0 : Int) (a0_1 : Int) (a1_0 : Int) (a1_1 : Int) : Option (Int × Int) := if WOk a0_0 a0_1 ∧ WOk a1_0 a1_1 then some (whi (wv a0_0 a0_1 - wv a1_0 a1_1), wlo (wv a0_0 a0_1 - wv a1_0 a1_1)) else none
theorem wide_add.calls (a0_0 : Int) (a0_1 : Int) (a1_0 : Int) (a1_1 : Int) (r1 : Int) (r2 : Int) (w : World) (h : wide_add.f a0_0 a0_1 a1_0 a1_1 = some (r1, r2)) :
    Calls Try.prog 32 #[.agg #[.int .i64 a0_0, .int .u64 a0_1], .agg #[.int .i64 a1_0, .int .u64 a1_1]] w fun e w' => e = .returned (.agg #[.int .i64 r1, .int .u64 r2]) ∧ Below w.heap.size w w' := by
  unfold wide_add.f at h
  by_cases hb : WOk a0_0 a0_1 ∧ WOk a1_0 a1_1
  · rw [if_pos hb] at h
    injection h with h
    injection h with h1 h2
    obtain ⟨⟨b1, b2⟩, b3, b4⟩ := hb
    have w1 := IntKind.wrap_u64 a0_0
    have w2 := IntKind.wrap_u64 a1_0
    have e1 : r2 = (a0_1 + a1_1 + 0) % 18446744073709551616 := by rw [← h2]; unfold wlo wv; omega
    have e2 : r1 = wrap64 ((IntKind.u64.wrap a0_0 + IntKind.u64.wrap a1_0 + (a0_1 + a1_1 + 0) / 18446744073709551616) % 18446744073709551616) := by rw [← h1]; unfold whi wv wrap64; omega
    rw [e1, e2]
    exact add_walk a0_0 a0_1 a1_0 a1_1 _ _ _ _ (fun w => add64_run a0_1 a1_1 0 (by omega) (by omega) (by omega) (by omega) w) (fun w => add64_run _ _ _ (by omega) (by omega) (by omega) (by omega) w) w
  · rw [if_neg hb] at h
    cases h
theorem wide_sub.calls (a0_0 : Int) (a0_1 : Int) (a1_0 : Int) (a1_1 : Int) (r1 : Int) (r2 : Int) (w : World) (h : wide_sub.f a0_0 a0_1 a1_0 a1_1 = some (r1, r2)) :
    Calls Try.prog 33 #[.agg #[.int .i64 a0_0, .int .u64 a0_1], .agg #[.int .i64 a1_0, .int .u64 a1_1]] w fun e w' => e = .returned (.agg #[.int .i64 r1, .int .u64 r2]) ∧ Below w.heap.size w w' := by
  unfold wide_sub.f at h
  by_cases hb : WOk a0_0 a0_1 ∧ WOk a1_0 a1_1
  · rw [if_pos hb] at h
    injection h with h
    injection h with h1 h2
    obtain ⟨⟨b1, b2⟩, b3, b4⟩ := hb
    have w1 := IntKind.wrap_u64 a0_0
    have w2 := IntKind.wrap_u64 a1_0
    have e1 : r2 = (a0_1 - a1_1 - 0) % 18446744073709551616 := by rw [← h2]; unfold wlo wv; omega
    have e2 : r1 = wrap64 ((IntKind.u64.wrap a0_0 - IntKind.u64.wrap a1_0 - -((a0_1 - a1_1 - 0) / 18446744073709551616)) % 18446744073709551616) := by rw [← h1]; unfold whi wv wrap64; omega
    rw [e1, e2]
    exact sub_walk a0_0 a0_1 a1_0 a1_1 _ _ _ _ (fun w => sub64_run a0_1 a1_1 0 ⟨by omega, by omega⟩ ⟨by omega, by omega⟩ (by omega) (by omega) w) (fun w => sub64_run _ _ _ ⟨by omega, by omega⟩ ⟨by omega, by omega⟩ (by omega) (by omega) w) w
  · rw [if_neg hb] at h
    cases h
end Go.Proofs.Ytbccokfdkieakaa.F
