/- A number's bytes: number and the reference's Number come to the same bytes, and Take takes the number from them. Plain lists and whole numbers. -/
import Derived.Test.YtbmeleolpemakaaPackLT
import Derived.Test.YtbmeleolpemakaaFpackNumber
import Derived.Test.YtbmeleolpemakaaFzelligeref44Number
namespace Go.Proofs.Ytbmeleolpemakaa.Pk
open Go Go.RowKit Go.Proofs.YtbmeleolpemakaaW.PrintWords Go.Proofs.Ytbmeleolpemakaa.F
set_option linter.unusedVariables false
theorem or128' (c : Int) (h0 : 0 ≤ c) (h1 : c < 256) : Go.bits .or .u8 c 128 = c % 128 + 128 := by
  obtain ⟨n, rfl⟩ := Int.eq_ofNat_of_zero_le h0
  have : ∀ n : Fin 256, Go.bits .or .u8 ((n.val : Nat) : Int) 128 = ((n.val : Nat) : Int) % 128 + 128 := by decide +kernel
  exact this ⟨n, by omega⟩
/-- The number without sign. -/
def zig (n : Int) : Int := if n < 0 then -2 * n - 1 else 2 * n
theorem zig_bd {n : Int} (h : -9223372036854775808 ≤ n ∧ n ≤ 9223372036854775807) : 0 ≤ zig n ∧ zig n < 18446744073709551616 := by unfold zig; split <;> omega
theorem de_zig (n : Int) : de (zig n) = n := by unfold de zig; split <;> split <;> omega
theorem zig_p {n : Int} (h : -9223372036854775808 ≤ n ∧ n ≤ 9223372036854775807) : Go.bits .xor .u64 (IntKind.u64.wrap ((IntKind.u64.wrap n) * 2)) (IntKind.u64.wrap (n / 9223372036854775808)) = zig n := by
  have w1 := IntKind.wrap_u64 n
  have w2 := IntKind.wrap_u64 ((IntKind.u64.wrap n) * 2)
  have w3 := IntKind.wrap_u64 (n / 9223372036854775808)
  unfold zig
  by_cases c : n < 0
  · rw [if_pos c]
    have e3 : IntKind.u64.wrap (n / 9223372036854775808) = 18446744073709551615 := by rw [w3]; omega
    have e2 : IntKind.u64.wrap ((IntKind.u64.wrap n) * 2) = 18446744073709551616 + 2 * n := by rw [w2, w1]; omega
    rw [e2, e3]
    obtain ⟨A, hA⟩ := Int.eq_ofNat_of_zero_le (show 0 ≤ 18446744073709551616 + 2 * n by omega)
    rw [hA]
    show IntKind.u64.wrap (((BitVec.ofInt 64 (A : Int) ^^^ BitVec.ofInt 64 18446744073709551615).toNat : Nat) : Int) = _
    have hh : (BitVec.ofInt 64 (A : Int)).toNat = A := by rw [BitVec.ofInt_natCast, BitVec.toNat_ofNat]; exact Nat.mod_eq_of_lt (by omega)
    rw [show BitVec.ofInt 64 18446744073709551615 = BitVec.allOnes 64 by decide, BitVec.xor_allOnes, BitVec.toNat_not, hh, IntKind.wrap_u64]
    omega
  · rw [if_neg c]
    have e3 : IntKind.u64.wrap (n / 9223372036854775808) = 0 := by rw [w3]; omega
    have e2 : IntKind.u64.wrap ((IntKind.u64.wrap n) * 2) = 2 * n := by rw [w2, w1]; omega
    rw [e2, e3]
    obtain ⟨A, hA⟩ := Int.eq_ofNat_of_zero_le (show 0 ≤ 2 * n by omega)
    rw [hA]
    show IntKind.u64.wrap (((BitVec.ofInt 64 (A : Int) ^^^ BitVec.ofInt 64 0).toNat : Nat) : Int) = _
    have hh : (BitVec.ofInt 64 (A : Int)).toNat = A := by rw [BitVec.ofInt_natCast, BitVec.toNat_ofNat]; exact Nat.mod_eq_of_lt (by omega)
    rw [show BitVec.ofInt 64 0 = 0#64 from rfl, BitVec.xor_zero, hh, IntKind.wrap_u64]
    omega
/-- A number's bytes. -/
def D : Nat → Int → List Int
  | 0, u => [u]
  | k + 1, u => if 128 ≤ u then (u % 128 + 128) :: D k (u / 128) else [u]
theorem Q_zero : Q 0 = 1 := by decide
theorem Q_9 : Q 9 = 9223372036854775808 := by decide
theorem D_bytes (k : Nat) : ∀ (u : Int), 0 ≤ u → u < Q (k + 1) → By (D k u) ∧ 1 ≤ (D k u).length ∧ (D k u).length ≤ k + 1 := by
  induction k with
  | zero =>
    intro u h0 h1
    have : u < 128 := by rw [Q_succ, Q_zero] at h1; omega
    exact ⟨fun x hx => by simp [D] at hx; omega, by simp [D], by simp [D]⟩
  | succ k ih0 =>
    intro u h0 h1
    unfold D
    by_cases c : 128 ≤ u
    · rw [if_pos c]
      have ih := ih0 (u / 128) (by omega) (by rw [Q_succ] at h1; omega)
      refine ⟨fun x hx => ?_, by simp, by simp; omega⟩
      rcases List.mem_cons.1 hx with rfl | hx
      · omega
      · exact ih.1 x hx
    · rw [if_neg c]
      exact ⟨fun x hx => by simp at hx; omega, by simp, by simp⟩
theorem V_cons (x : Int) (l : List Int) : ∀ n, V (x :: l) (n + 1) = x % 128 + 128 * V l n
  | 0 => by
    show V (x :: l) 0 + b (x :: l) 0 % 128 * Q 0 = x % 128 + 128 * V l 0
    rw [Q_zero]
    show 0 + x % 128 * 1 = x % 128 + 128 * 0
    omega
  | n + 1 => by
    show V (x :: l) (n + 1) + b (x :: l) (n + 1) % 128 * Q (n + 1) = x % 128 + 128 * (V l n + b l n % 128 * Q n)
    rw [V_cons x l n, Q_succ]
    have e : b (x :: l) (n + 1) = b l n := by unfold b; simp [List.getD_eq_getElem?_getD]
    rw [e]
    have : b l n % 128 * (128 * Q n) = 128 * (b l n % 128 * Q n) := by rw [← Int.mul_assoc, Int.mul_comm (b l n % 128) 128, Int.mul_assoc]
    omega
theorem b_cons (x : Int) (l : List Int) (n : Nat) : b (x :: l) (n + 1) = b l n := by unfold b; simp [List.getD_eq_getElem?_getD]
/-- What a number's bytes tell, with whatever behind them. -/
theorem D_reads (L : List Int) (k : Nat) : ∀ (u : Int), 0 ≤ u → u < Q (k + 1) → ∃ m, (D k u).length = m + 1 ∧ (∀ j, j < m → 128 ≤ b (D k u ++ L) j) ∧ b (D k u ++ L) m < 128 ∧ 0 ≤ b (D k u ++ L) m ∧ V (D k u ++ L) (m + 1) = u ∧ (1 ≤ u → 1 ≤ b (D k u ++ L) m) ∧ b (D k u ++ L) m * Q m ≤ u ∧ (0 < m → 128 ≤ u) := by
  induction k with
  | zero =>
    intro u h0 h1
    have h : u < 128 := by rw [Q_succ, Q_zero] at h1; omega
    refine ⟨0, rfl, fun j hj => absurd hj (Nat.not_lt_zero _), h, h0, ?_, fun h => h, ?_, fun h => absurd h (by decide)⟩
    · show V (u :: L) (0 + 1) = u
      rw [V_cons]
      show u % 128 + 128 * 0 = u
      omega
    · rw [Q_zero]; show u * 1 ≤ u; omega
  | succ k ih0 =>
    intro u h0 h1
    unfold D
    by_cases c : 128 ≤ u
    · rw [if_pos c]
      obtain ⟨m, hm, hj, hb, hb0, hV, h1u, hQ, hmu⟩ := ih0 (u / 128) (by omega) (by rw [Q_succ] at h1; omega)
      refine ⟨m + 1, by rw [List.length_cons, hm], fun j hj' => ?_, ?_, ?_, ?_, fun _ => ?_, ?_, fun _ => c⟩
      · cases j with
        | zero => show 128 ≤ u % 128 + 128; omega
        | succ j => rw [List.cons_append, b_cons]; exact hj j (by omega)
      · rw [List.cons_append, b_cons]; exact hb
      · rw [List.cons_append, b_cons]; exact hb0
      · rw [List.cons_append, V_cons, hV]; omega
      · rw [List.cons_append, b_cons]; exact h1u (by omega)
      · rw [List.cons_append, b_cons, Q_succ]
        have : b (D k (u / 128) ++ L) m * (128 * Q m) = 128 * (b (D k (u / 128) ++ L) m * Q m) := by rw [← Int.mul_assoc, Int.mul_comm (b (D k (u / 128) ++ L) m) 128, Int.mul_assoc]
        omega
    · rw [if_neg c]
      refine ⟨0, rfl, fun j hj => absurd hj (Nat.not_lt_zero _), (by show u < 128; omega), h0, ?_, fun h => h, ?_, fun h => absurd h (by decide)⟩
      · show V (u :: L) (0 + 1) = u
        rw [V_cons]
        show u % 128 + 128 * 0 = u
        omega
      · rw [Q_zero]; show u * 1 ≤ u; omega
theorem small9 {u : Int} (h : u < 18446744073709551616) : u < Q (9 + 1) := by rw [Q_succ, Q_9]; omega
/-- Take takes a number from its bytes. -/
theorem T_D (L : List Int) {u : Int} (h0 : 0 ≤ u) (h1 : u < 18446744073709551616) : T (D 9 u ++ L) = (de u, ((D 9 u).length : Int)) := by
  obtain ⟨m, hm, hj, hb, hb0, hV, h1u, hQ, hmu⟩ := D_reads L 9 u h0 (small9 h1)
  have hlen := (D_bytes 9 u h0 (small9 h1)).2.2
  have hfl : fl (D 9 u ++ L) = m := fl_eq hj (by rw [List.length_append]; omega) hb
  unfold T
  rw [if_neg (by
    rw [hfl]
    rintro (h | h | h | h)
    · rw [List.length_append] at h; omega
    · omega
    · obtain ⟨rfl, h⟩ := h
      rw [Q_9] at hQ
      omega
    · have := h1u (by have := hmu h.1; omega)
      omega), hfl, hV, hm]
theorem strip {l : List Int} {j : Nat} : (D 9 (j : Int) ++ l).drop (D 9 (j : Int)).length = l := by simp
theorem number_l0 (j : Nat) : ∀ (u : Int) (k : Nat) (x : List Int), 0 ≤ u → u < Q (j + 1) → j + 1 ≤ k → x.length + j < 100000000 → pack_number.l0 k x u = some (x ++ D j u) := by
  induction j with
  | zero =>
    intro u k x h0 h1 hk hx
    obtain ⟨k, rfl⟩ : ∃ i, k = i + 1 := ⟨k - 1, by omega⟩
    have h : u < 128 := by rw [Q_succ, Q_zero] at h1; omega
    unfold pack_number.l0 D
    rw [if_neg (by omega), if_pos (by omega), show u % 256 = u by omega]
  | succ j ih =>
    intro u k x h0 h1 hk hx
    obtain ⟨k, rfl⟩ : ∃ i, k = i + 1 := ⟨k - 1, by omega⟩
    unfold pack_number.l0 D
    by_cases c : 128 ≤ u
    · rw [if_pos c, if_pos c, if_pos (by omega), or128' (u % 256) (by omega) (by omega), show u % 256 % 128 + 128 = u % 128 + 128 by omega,
        ih (u / 128) k _ (by omega) (by rw [Q_succ] at h1; omega) (by omega) (by rw [List.length_append, List.length_singleton]; omega), List.append_assoc]
      rfl
    · rw [if_neg (by omega), if_neg c, if_pos (by omega), show u % 256 = u by omega]
theorem ref_l0n (j : Nat) : ∀ (u : Int) (k : Nat) (x : List Int), 0 ≤ u → u < Q (j + 1) → u < 18446744073709551616 → j + 1 ≤ k → x.length + j < 1000 → zelligeref44_Number.l0 k u x = some (x ++ D j u) := by
  induction j with
  | zero =>
    intro u k x h0 h1 h2 hk hx
    obtain ⟨k, rfl⟩ : ∃ i, k = i + 1 := ⟨k - 1, by omega⟩
    have h : u < 128 := by rw [Q_succ, Q_zero] at h1; omega
    unfold zelligeref44_Number.l0 D
    rw [if_neg (by omega), if_pos (by omega), show u % 256 = u by omega]
  | succ j ih =>
    intro u k x h0 h1 h2 hk hx
    obtain ⟨k, rfl⟩ : ∃ i, k = i + 1 := ⟨k - 1, by omega⟩
    unfold zelligeref44_Number.l0 D
    by_cases c : 128 ≤ u
    · have t1 : Int.tdiv u 128 = u / 128 := Int.tdiv_eq_ediv_of_nonneg h0
      have t2 : Int.tmod u 128 = u % 128 := Int.tmod_eq_emod_of_nonneg h0
      have w1 := IntKind.wrap_u64 (u / 128)
      have w2 := IntKind.wrap_u64 (u % 128 + 128)
      have e1 : IntKind.u64.wrap (u / 128) = u / 128 := by rw [w1]; omega
      have e2 : IntKind.u64.wrap (u % 128 + 128) % 256 = u % 128 + 128 := by rw [w2]; omega
      rw [if_pos c, if_pos c, if_pos (by omega), t1, t2, e1, e2,
        ih (u / 128) k _ (by omega) (by rw [Q_succ] at h1; omega) (by omega) (by omega) (by rw [List.length_append, List.length_singleton]; omega), List.append_assoc]
      rfl
    · rw [if_neg (by omega), if_neg c, if_pos (by omega), show u % 256 = u by omega]
theorem number_f {l : List Int} {n : Int} (h : -9223372036854775808 ≤ n ∧ n ≤ 9223372036854775807) (hl : l.length ≤ 90000000) {k : Nat} (hk : 11 ≤ k) : pack_number.f k l n = some (l ++ D 9 (zig n)) := by
  unfold pack_number.f
  rw [zig_p h]
  exact number_l0 9 _ k l (zig_bd h).1 (small9 (zig_bd h).2) (by omega) (by omega)
theorem Number_f {l : List Int} {n : Int} (h : -9223372036854775808 ≤ n ∧ n ≤ 9223372036854775807) (hl : l.length ≤ 500) {k : Nat} (hk : 11 ≤ k) : pack_Number.f k l n = some (l ++ D 9 (zig n)) := by
  unfold pack_Number.f slices_Clone_byte_byte.f
  rw [if_pos (by omega), Option.bind_some, number_f h (by omega) hk]
  rfl
theorem ref_Number_f {n : Int} (h : -9223372036854775808 ≤ n ∧ n ≤ 9223372036854775807) {k : Nat} (hk : 13 ≤ k) : zelligeref44_Number.f k n = some (D 9 (zig n)) := by
  unfold zelligeref44_Number.f
  obtain ⟨k, rfl⟩ : ∃ j, k = j + 1 := ⟨k - 1, by omega⟩
  have z := zig_bd h
  have w1 := IntKind.wrap_u64 n
  have w2 := IntKind.wrap_u64 ((IntKind.u64.wrap n) * 2)
  have p1 : wrap64 (n + 1) = if n = 9223372036854775807 then -9223372036854775808 else n + 1 := by unfold wrap64; split <;> omega
  rw [Option.bind_some]
  by_cases c : n < 0
  · have e1 : wrap64 (n + 1) = n + 1 := p64 (by omega)
    have e2 : wrap64 (-(n + 1)) = -(n + 1) := p64 (by omega)
    have v1 := IntKind.wrap_u64 (-(n + 1))
    have f1 : IntKind.u64.wrap (-(n + 1)) = -(n + 1) := by rw [v1]; omega
    have v2 := IntKind.wrap_u64 (-(n + 1) * 2)
    have f2 : IntKind.u64.wrap (-(n + 1) * 2) = -2 * n - 2 := by rw [v2]; omega
    have v3 := IntKind.wrap_u64 (-2 * n - 2 + 1)
    have f3 : IntKind.u64.wrap (-2 * n - 2 + 1) = zig n := by rw [v3]; unfold zig; rw [if_pos c]; omega
    rw [if_pos c, e1, e2, f1, f2, f3]
    show zelligeref44_Number.l0 k (zig n) [] = _
    exact ref_l0n 9 _ k [] z.1 (small9 z.2) z.2 (by omega) (by simp)
  · have e1 : IntKind.u64.wrap ((IntKind.u64.wrap n) * 2) = zig n := by rw [w2, w1]; unfold zig; rw [if_neg c]; omega
    rw [if_neg c, e1]
    show zelligeref44_Number.l0 k (zig n) [] = _
    exact ref_l0n 9 _ k [] z.1 (small9 z.2) z.2 (by omega) (by simp)
theorem Take_D {L : List Int} {n : Int} (h : -9223372036854775808 ≤ n ∧ n ≤ 9223372036854775807) (hB : By L) (hl : L.length ≤ 300) : pack_Take.f (D 9 (zig n) ++ L) = some (n, L, 0) := by
  have z := zig_bd h
  have d := D_bytes 9 (zig n) z.1 (small9 z.2)
  have hBy : By (D 9 (zig n) ++ L) := fun x hx => by
    rcases List.mem_append.1 hx with hx | hx
    · exact d.1 x hx
    · exact hB x hx
  rw [Take_p hBy (by rw [List.length_append]; omega), T_D L z.1 z.2, de_zig]
  rw [if_neg (by show ¬ ((D 9 (zig n)).length : Int) = 0; omega)]
  show some (n, (D 9 (zig n) ++ L).drop (((D 9 (zig n)).length : Nat) : Int).toNat, 0) = _
  rw [Int.toNat_natCast, List.drop_left]
end Go.Proofs.Ytbmeleolpemakaa.Pk
