/- math/bits.Div64 by 10^18, in the print's form: the quotient and the rest. -/
import Derived.Test.YtbccokfdkieakaaFwideadd
import Derived.Laws.Bits64b
namespace Go.Proofs.Ytbccokfdkieakaa.F
open Go Go.RowKit Go.Proofs.YtbccokfdkieakaaW.PrintWords Go.Proofs.YtbccokfdkieakaaW.PrintLast Go.Proofs.YtbccokfdkieakaaW.PrintMore
set_option linter.unusedVariables false
set_option maxRecDepth 100000 in
theorem len_18 (w : World) : Calls Try.prog 46 #[.int .u64 1000000000000000000] w fun e w' => e = .returned (.int .i64 60) ∧ w = w' := by
  go_enter Try.func46, Try.ntmps46
  go_wp2
  go_ret
  exact ⟨by kernel_rfl, rfl⟩
theorem lz_18 (w : World) : Calls Try.prog 45 #[.int .u64 1000000000000000000] w fun e w' => e = .returned (.int .i64 4) ∧ w = w' := by
  go_enter Try.func45, Try.ntmps45
  go_wp2_with fail
  refine (len_18 _).mono ?_
  rintro e w' ⟨rfl, rfl⟩
  go_wp2
  go_ret
  exact ⟨rfl, rfl⟩
theorem or_low (a b : Int) (ha : 0 ≤ a) (ha2 : a < 1152921504606846976) (hb : 0 ≤ b) (hb2 : b < 16) : bits .or .u64 (a * 16) b = a * 16 + b := by
  obtain ⟨A, rfl⟩ := Int.eq_ofNat_of_zero_le ha
  obtain ⟨B, rfl⟩ := Int.eq_ofNat_of_zero_le hb
  have e := bits_or_u64_nat (A * 16) B (by omega) (by omega)
  have e2 : A * 16 ||| B = A * 16 + B := by
    have := Nat.two_pow_add_eq_or_of_lt (i := 4) (b := B) (by omega) A
    rw [Nat.mul_comm A 16]
    exact this.symm
  rw [e2] at e
  exact_mod_cast e
theorem and_mask (a : Int) (ha : 0 ≤ a) (ha2 : a < 18446744073709551616) : bits .and .u64 a 4294967295 = a % 4294967296 := by
  obtain ⟨A, rfl⟩ := Int.eq_ofNat_of_zero_le ha
  have h := bits_and_u64_nat A 4294967295 (by omega) (by omega)
  have e : A &&& 4294967295 = A % 4294967296 := Nat.and_two_pow_sub_one_eq_mod A 32
  rw [e] at h
  exact h
set_option maxHeartbeats 2000000 in
theorem div_zero (l : Int) (Hl : Aside0 (0 ≤ l ∧ l < 18446744073709551616)) (w : World) :
    Calls Try.prog 43 #[.int .u64 0, .int .u64 l, .int .u64 1000000000000000000] w fun e w' => e = .returned (.tuple #[.int .u64 (l / 1000000000000000000), .int .u64 (l % 1000000000000000000)]) ∧ Below w.heap.size w w' := by
  have hl := Hl.out.1
  have hl2 := Hl.out.2
  go_enter Try.func43, Try.ntmps43
  go_wp2_with fail
  go_quiet (fail)
  go_wp2_with fail
  go_ret2
  exact ⟨rfl, pw_below_drewN (Below.refl _ _) _⟩
/-- Of a division: its numbers, as the text names them. -/
structure DV (h l U T Q V Q0 R : Int) : Prop where
  u : U = h * 16 + l / 1152921504606846976
  t : T = (l * 16) % 18446744073709551616
  q : U * 4294967296 + T / 4294967296 = Q * 16000000000000000000 + V
  v0 : 0 ≤ V
  v1 : V < 16000000000000000000
  q0 : V * 4294967296 + T % 4294967296 = Q0 * 16000000000000000000 + R
  r0 : 0 ≤ R
  r1 : R < 16000000000000000000
structure IsV (w : World) (n : Int) (v : Value) (wx : World) : Prop where
  v : v = .int .u64 n
  w : w = wx
structure QR (U t Q : Int) (w : World) (a b : Value) (wx : World) : Prop where
  out : ∃ q r : Int, a = .int .u64 q ∧ b = .int .u64 r ∧ w = wx ∧ 0 ≤ r ∧ r < 4294967296 ∧ 0 ≤ q ∧ q ≤ 4294967297 ∧ Q ≤ q ∧ U = q * 3725290298 + r
theorem two_eq {a b c d : Int} (h : a = c) (h' : b = d) : Ending.returned (.tuple #[.int .u64 a, .int .u64 b]) = .returned (.tuple #[.int .u64 c, .int .u64 d]) := by rw [h, h']
theorem u64_int {a b : Int} (h : a = b) : Value.int .u64 a = .int .u64 b := by rw [h]
set_option maxHeartbeats 4000000 in
set_option maxRecDepth 100000 in
theorem div_pos (h l U T Q V Q0 R : Int) (Hh : Aside0 (0 < h ∧ h < 1000000000000000000)) (Hl : Aside0 (0 ≤ l ∧ l < 18446744073709551616)) (D : Aside0 (DV h l U T Q V Q0 R)) (w : World) :
    Calls Try.prog 43 #[.int .u64 h, .int .u64 l, .int .u64 1000000000000000000] w fun e w' => e = .returned (.tuple #[.int .u64 (Q * 4294967296 + Q0), .int .u64 (R / 16)]) ∧ Below w.heap.size w w' := by
  have hl := Hl.out.1
  have hl2 := Hl.out.2
  have hh := Hh.out.1
  have hh2 := Hh.out.2
  have t1 : (h == 0) = false := beq_eq_false_iff_ne.2 (by omega)
  have t2 : decide (1000000000000000000 ≤ h) = false := decide_eq_false (by omega)
  obtain ⟨d1, d2, d3, d4, d5, d6, d7, d8⟩ := D.out
  have b1 : 0 ≤ U := by omega
  have b2 : U < 16000000000000000000 := by omega
  have b3 : 0 ≤ T := by omega
  have b4 : T < 18446744073709551616 := by omega
  have b5 : 0 ≤ Q ∧ Q < 4294967296 := by omega
  have b6 : 0 ≤ Q0 ∧ Q0 < 4294967296 := by omega
  obtain ⟨T1, hT1⟩ : ∃ x, T / 4294967296 = x := ⟨_, rfl⟩
  obtain ⟨T0, hT0⟩ : ∃ x, T % 4294967296 = x := ⟨_, rfl⟩
  rw [hT1] at d3
  rw [hT0] at d6
  have c1 : 0 ≤ T1 := by omega
  have c2 : T1 < 4294967296 := by omega
  have c3 : 0 ≤ T0 := by omega
  have c4 : T0 < 4294967296 := by omega
  have k1 : bits .and .u64 16000000000000000000 4294967295 = 1983905792 := by decide
  have k2 : bits .or .u64 (h * 16) (l / 1152921504606846976) = U := by rw [or_low h _ (by omega) (by omega) (by omega) (by omega), d1]
  have k3 : IntKind.u64.wrap (l * 16) = T := by rw [IntKind.wrap_u64, d2]
  have k4 : bits .and .u64 T 4294967295 = T0 := by rw [and_mask T b3 b4, hT0]
  have D3 := Aside0.mk d3
  have D6 := Aside0.mk d6
  have D4 := Aside0.mk (And.intro d4 d5)
  have D7 := Aside0.mk (And.intro d7 d8)
  have B5 := Aside0.mk b5
  have B6 := Aside0.mk b6
  clear d1 d2 d3 d4 d5 d6 d7 d8 hT0 b5 b6
  go_enter Try.func43, Try.ntmps43
  go_wp2_with fail
  refine (lz_18 _).mono ?_
  rintro e w' ⟨rfl, rfl⟩
  go_wp2_with fail
  clear k1 k2 k3 k4 hT1 t1 t2
  go_loopw [15, 16] (fun a b wx => QR U T1 Q w a b wx) (fun a _ _ => (intOf a).toNat)
  case atStart =>
    refine ⟨_, _, rfl, rfl, rfl, ?_⟩
    have d3 := D3.out
    have d4 := D4.out
    have b5 := B5.out
    omega
  case round =>
    obtain ⟨q, r, rfl, rfl, rfl, r0, r1, q0, q1, hQ, hU⟩ := hrel
    have HU := Aside0.mk hU
    have HQ := Aside0.mk hQ
    clear hU hQ
    by_cases c1 : 4294967296 ≤ q
    · have e1 : decide (4294967296 ≤ q) = true := decide_eq_true c1
      by_cases c2 : 4294967296 ≤ r + 3725290298
      · have e2 : decide (4294967296 ≤ r + 3725290298) = true := decide_eq_true c2
        obtain rfl : q = Q + 1 := by
          have hU := HU.out
          have hQ := HQ.out
          have d3 := D3.out
          have d4 := D4.out
          have b5 := B5.out
          omega
        clear HU HQ
        go_upto_region 21 with fail
        clear e1 c1 r0 r1 q0 q1
        (try clear e2 c2)
        (try clear e3 c3)
        (try clear c1')
        go_cut [17] (fun a wx => IsV w V a wx)
        case first =>
          go_wp2_with fail
          go_meet
          refine ⟨u64_int ?_, rfl⟩
          have d3 := D3.out
          have d4 := D4.out
          have b5 := B5.out
          clear D3 D4 D6 D7 B5 B6 D Hh Hl
          simp only [IntKind.wrap_u64]
          omega
        case rest =>
        obtain ⟨rfl, rfl⟩ := hcut
        have v0 := D4.out.1
        have v1 := D4.out.2
        go_wp2_with fail
        go_loopw [18, 16] (fun a b wx => QR V T0 Q0 w a b wx) (fun a _ _ => (intOf a).toNat)
        case atStart =>
          refine ⟨_, _, rfl, rfl, rfl, ?_⟩
          have d6 := D6.out
          have d7 := D7.out
          have b6 := B6.out
          omega
        case round =>
          obtain ⟨q, r, rfl, rfl, rfl, r0, r1, q0, q1, hQ, hU⟩ := hrel
          have HU := Aside0.mk hU
          have HQ := Aside0.mk hQ
          clear hU hQ
          by_cases c1 : 4294967296 ≤ q
          · have e1 : decide (4294967296 ≤ q) = true := decide_eq_true c1
            by_cases c2 : 4294967296 ≤ r + 3725290298
            · have e2 : decide (4294967296 ≤ r + 3725290298) = true := decide_eq_true c2
              obtain rfl : q = Q0 + 1 := by
                have hU := HU.out
                have hQ := HQ.out
                have d6 := D6.out
                have d7 := D7.out
                have b6 := B6.out
                omega
              clear HU HQ
              go_wp2_with fail
              go_ret2
              refine ⟨?_, Below.refl _ _⟩
              have d3 := D3.out
              have d4 := D4.out
              have d6 := D6.out
              have d7 := D7.out
              have b5 := B5.out
              have b6 := B6.out
              clear D3 D4 D6 D7 B5 B6 D Hh Hl
              refine two_eq ?_ ?_
              · simp only [IntKind.wrap_u64]; omega
              · simp only [IntKind.wrap_u64]; omega
            · have e2 : decide (4294967296 ≤ r + 3725290298) = false := decide_eq_false c2
              go_wp2_with fail
              go_roundw
              case rel =>
                refine ⟨_, _, rfl, rfl, rfl, ?_⟩
                have hU := HU.out
                have hQ := HQ.out
                have d6 := D6.out
                have d7 := D7.out
                have b6 := B6.out
                omega
              case measure => simp [intOf]; omega
          · have e1 : decide (4294967296 ≤ q) = false := decide_eq_false c1
            have c1' : q < 4294967296 := by omega
            by_cases c3 : 4294967296 * r + T0 < q * 1983905792
            · have e3 : decide (4294967296 * r + T0 < q * 1983905792) = true := decide_eq_true c3
              by_cases c2 : 4294967296 ≤ r + 3725290298
              · have e2 : decide (4294967296 ≤ r + 3725290298) = true := decide_eq_true c2
                obtain rfl : q = Q0 + 1 := by
                  have hU := HU.out
                  have hQ := HQ.out
                  have d6 := D6.out
                  have d7 := D7.out
                  have b6 := B6.out
                  omega
                clear HU HQ
                go_wp2_with fail
                go_ret2
                refine ⟨?_, Below.refl _ _⟩
                have d3 := D3.out
                have d4 := D4.out
                have d6 := D6.out
                have d7 := D7.out
                have b5 := B5.out
                have b6 := B6.out
                clear D3 D4 D6 D7 B5 B6 D Hh Hl
                refine two_eq ?_ ?_
                · simp only [IntKind.wrap_u64]; omega
                · simp only [IntKind.wrap_u64]; omega
              · have e2 : decide (4294967296 ≤ r + 3725290298) = false := decide_eq_false c2
                have c4 : 1 ≤ q := by
                  have hU := HU.out
                  have hQ := HQ.out
                  have d6 := D6.out
                  have d7 := D7.out
                  have b6 := B6.out
                  omega
                go_wp2_with fail
                go_roundw
                case rel =>
                  refine ⟨_, _, rfl, rfl, rfl, ?_⟩
                  have hU := HU.out
                  have hQ := HQ.out
                  have d6 := D6.out
                  have d7 := D7.out
                  have b6 := B6.out
                  omega
                case measure => simp [intOf]; omega
            · have e3 : decide (4294967296 * r + T0 < q * 1983905792) = false := decide_eq_false c3
              obtain rfl : q = Q0 := by
                have hU := HU.out
                have hQ := HQ.out
                have d6 := D6.out
                have d7 := D7.out
                have b6 := B6.out
                omega
              clear HU HQ
              go_wp2_with fail
              go_ret2
              refine ⟨?_, Below.refl _ _⟩
              have d3 := D3.out
              have d4 := D4.out
              have d6 := D6.out
              have d7 := D7.out
              have b5 := B5.out
              have b6 := B6.out
              clear D3 D4 D6 D7 B5 B6 D Hh Hl
              refine two_eq ?_ ?_
              · simp only [IntKind.wrap_u64]; omega
              · simp only [IntKind.wrap_u64]; omega
      · have e2 : decide (4294967296 ≤ r + 3725290298) = false := decide_eq_false c2
        go_wp2_with fail
        go_roundw
        case rel =>
          refine ⟨_, _, rfl, rfl, rfl, ?_⟩
          have hU := HU.out
          have hQ := HQ.out
          have d3 := D3.out
          have d4 := D4.out
          have b5 := B5.out
          omega
        case measure => simp [intOf]; omega
    · have e1 : decide (4294967296 ≤ q) = false := decide_eq_false c1
      have c1' : q < 4294967296 := by omega
      by_cases c3 : 4294967296 * r + T1 < q * 1983905792
      · have e3 : decide (4294967296 * r + T1 < q * 1983905792) = true := decide_eq_true c3
        by_cases c2 : 4294967296 ≤ r + 3725290298
        · have e2 : decide (4294967296 ≤ r + 3725290298) = true := decide_eq_true c2
          obtain rfl : q = Q + 1 := by
            have hU := HU.out
            have hQ := HQ.out
            have d3 := D3.out
            have d4 := D4.out
            have b5 := B5.out
            omega
          clear HU HQ
          go_upto_region 21 with fail
          clear e1 c1 r0 r1 q0 q1
          (try clear e2 c2)
          (try clear e3 c3)
          (try clear c1')
          go_cut [17] (fun a wx => IsV w V a wx)
          case first =>
            go_wp2_with fail
            go_meet
            refine ⟨u64_int ?_, rfl⟩
            have d3 := D3.out
            have d4 := D4.out
            have b5 := B5.out
            clear D3 D4 D6 D7 B5 B6 D Hh Hl
            simp only [IntKind.wrap_u64]
            omega
          case rest =>
          obtain ⟨rfl, rfl⟩ := hcut
          have v0 := D4.out.1
          have v1 := D4.out.2
          go_wp2_with fail
          go_loopw [18, 16] (fun a b wx => QR V T0 Q0 w a b wx) (fun a _ _ => (intOf a).toNat)
          case atStart =>
            refine ⟨_, _, rfl, rfl, rfl, ?_⟩
            have d6 := D6.out
            have d7 := D7.out
            have b6 := B6.out
            omega
          case round =>
            obtain ⟨q, r, rfl, rfl, rfl, r0, r1, q0, q1, hQ, hU⟩ := hrel
            have HU := Aside0.mk hU
            have HQ := Aside0.mk hQ
            clear hU hQ
            by_cases c1 : 4294967296 ≤ q
            · have e1 : decide (4294967296 ≤ q) = true := decide_eq_true c1
              by_cases c2 : 4294967296 ≤ r + 3725290298
              · have e2 : decide (4294967296 ≤ r + 3725290298) = true := decide_eq_true c2
                obtain rfl : q = Q0 + 1 := by
                  have hU := HU.out
                  have hQ := HQ.out
                  have d6 := D6.out
                  have d7 := D7.out
                  have b6 := B6.out
                  omega
                clear HU HQ
                go_wp2_with fail
                go_ret2
                refine ⟨?_, Below.refl _ _⟩
                have d3 := D3.out
                have d4 := D4.out
                have d6 := D6.out
                have d7 := D7.out
                have b5 := B5.out
                have b6 := B6.out
                clear D3 D4 D6 D7 B5 B6 D Hh Hl
                refine two_eq ?_ ?_
                · simp only [IntKind.wrap_u64]; omega
                · simp only [IntKind.wrap_u64]; omega
              · have e2 : decide (4294967296 ≤ r + 3725290298) = false := decide_eq_false c2
                go_wp2_with fail
                go_roundw
                case rel =>
                  refine ⟨_, _, rfl, rfl, rfl, ?_⟩
                  have hU := HU.out
                  have hQ := HQ.out
                  have d6 := D6.out
                  have d7 := D7.out
                  have b6 := B6.out
                  omega
                case measure => simp [intOf]; omega
            · have e1 : decide (4294967296 ≤ q) = false := decide_eq_false c1
              have c1' : q < 4294967296 := by omega
              by_cases c3 : 4294967296 * r + T0 < q * 1983905792
              · have e3 : decide (4294967296 * r + T0 < q * 1983905792) = true := decide_eq_true c3
                by_cases c2 : 4294967296 ≤ r + 3725290298
                · have e2 : decide (4294967296 ≤ r + 3725290298) = true := decide_eq_true c2
                  obtain rfl : q = Q0 + 1 := by
                    have hU := HU.out
                    have hQ := HQ.out
                    have d6 := D6.out
                    have d7 := D7.out
                    have b6 := B6.out
                    omega
                  clear HU HQ
                  go_wp2_with fail
                  go_ret2
                  refine ⟨?_, Below.refl _ _⟩
                  have d3 := D3.out
                  have d4 := D4.out
                  have d6 := D6.out
                  have d7 := D7.out
                  have b5 := B5.out
                  have b6 := B6.out
                  clear D3 D4 D6 D7 B5 B6 D Hh Hl
                  refine two_eq ?_ ?_
                  · simp only [IntKind.wrap_u64]; omega
                  · simp only [IntKind.wrap_u64]; omega
                · have e2 : decide (4294967296 ≤ r + 3725290298) = false := decide_eq_false c2
                  have c4 : 1 ≤ q := by
                    have hU := HU.out
                    have hQ := HQ.out
                    have d6 := D6.out
                    have d7 := D7.out
                    have b6 := B6.out
                    omega
                  go_wp2_with fail
                  go_roundw
                  case rel =>
                    refine ⟨_, _, rfl, rfl, rfl, ?_⟩
                    have hU := HU.out
                    have hQ := HQ.out
                    have d6 := D6.out
                    have d7 := D7.out
                    have b6 := B6.out
                    omega
                  case measure => simp [intOf]; omega
              · have e3 : decide (4294967296 * r + T0 < q * 1983905792) = false := decide_eq_false c3
                obtain rfl : q = Q0 := by
                  have hU := HU.out
                  have hQ := HQ.out
                  have d6 := D6.out
                  have d7 := D7.out
                  have b6 := B6.out
                  omega
                clear HU HQ
                go_wp2_with fail
                go_ret2
                refine ⟨?_, Below.refl _ _⟩
                have d3 := D3.out
                have d4 := D4.out
                have d6 := D6.out
                have d7 := D7.out
                have b5 := B5.out
                have b6 := B6.out
                clear D3 D4 D6 D7 B5 B6 D Hh Hl
                refine two_eq ?_ ?_
                · simp only [IntKind.wrap_u64]; omega
                · simp only [IntKind.wrap_u64]; omega
        · have e2 : decide (4294967296 ≤ r + 3725290298) = false := decide_eq_false c2
          have c4 : 1 ≤ q := by
            have hU := HU.out
            have hQ := HQ.out
            have d3 := D3.out
            have d4 := D4.out
            have b5 := B5.out
            omega
          go_wp2_with fail
          go_roundw
          case rel =>
            refine ⟨_, _, rfl, rfl, rfl, ?_⟩
            have hU := HU.out
            have hQ := HQ.out
            have d3 := D3.out
            have d4 := D4.out
            have b5 := B5.out
            omega
          case measure => simp [intOf]; omega
      · have e3 : decide (4294967296 * r + T1 < q * 1983905792) = false := decide_eq_false c3
        obtain rfl : q = Q := by
          have hU := HU.out
          have hQ := HQ.out
          have d3 := D3.out
          have d4 := D4.out
          have b5 := B5.out
          omega
        clear HU HQ
        go_upto_region 21 with fail
        clear e1 c1 r0 r1 q0 q1
        (try clear e2 c2)
        (try clear e3 c3)
        (try clear c1')
        go_cut [17] (fun a wx => IsV w V a wx)
        case first =>
          go_wp2_with fail
          go_meet
          refine ⟨u64_int ?_, rfl⟩
          have d3 := D3.out
          have d4 := D4.out
          have b5 := B5.out
          clear D3 D4 D6 D7 B5 B6 D Hh Hl
          simp only [IntKind.wrap_u64]
          omega
        case rest =>
        obtain ⟨rfl, rfl⟩ := hcut
        have v0 := D4.out.1
        have v1 := D4.out.2
        go_wp2_with fail
        go_loopw [18, 16] (fun a b wx => QR V T0 Q0 w a b wx) (fun a _ _ => (intOf a).toNat)
        case atStart =>
          refine ⟨_, _, rfl, rfl, rfl, ?_⟩
          have d6 := D6.out
          have d7 := D7.out
          have b6 := B6.out
          omega
        case round =>
          obtain ⟨q, r, rfl, rfl, rfl, r0, r1, q0, q1, hQ, hU⟩ := hrel
          have HU := Aside0.mk hU
          have HQ := Aside0.mk hQ
          clear hU hQ
          by_cases c1 : 4294967296 ≤ q
          · have e1 : decide (4294967296 ≤ q) = true := decide_eq_true c1
            by_cases c2 : 4294967296 ≤ r + 3725290298
            · have e2 : decide (4294967296 ≤ r + 3725290298) = true := decide_eq_true c2
              obtain rfl : q = Q0 + 1 := by
                have hU := HU.out
                have hQ := HQ.out
                have d6 := D6.out
                have d7 := D7.out
                have b6 := B6.out
                omega
              clear HU HQ
              go_wp2_with fail
              go_ret2
              refine ⟨?_, Below.refl _ _⟩
              have d3 := D3.out
              have d4 := D4.out
              have d6 := D6.out
              have d7 := D7.out
              have b5 := B5.out
              have b6 := B6.out
              clear D3 D4 D6 D7 B5 B6 D Hh Hl
              refine two_eq ?_ ?_
              · simp only [IntKind.wrap_u64]; omega
              · simp only [IntKind.wrap_u64]; omega
            · have e2 : decide (4294967296 ≤ r + 3725290298) = false := decide_eq_false c2
              go_wp2_with fail
              go_roundw
              case rel =>
                refine ⟨_, _, rfl, rfl, rfl, ?_⟩
                have hU := HU.out
                have hQ := HQ.out
                have d6 := D6.out
                have d7 := D7.out
                have b6 := B6.out
                omega
              case measure => simp [intOf]; omega
          · have e1 : decide (4294967296 ≤ q) = false := decide_eq_false c1
            have c1' : q < 4294967296 := by omega
            by_cases c3 : 4294967296 * r + T0 < q * 1983905792
            · have e3 : decide (4294967296 * r + T0 < q * 1983905792) = true := decide_eq_true c3
              by_cases c2 : 4294967296 ≤ r + 3725290298
              · have e2 : decide (4294967296 ≤ r + 3725290298) = true := decide_eq_true c2
                obtain rfl : q = Q0 + 1 := by
                  have hU := HU.out
                  have hQ := HQ.out
                  have d6 := D6.out
                  have d7 := D7.out
                  have b6 := B6.out
                  omega
                clear HU HQ
                go_wp2_with fail
                go_ret2
                refine ⟨?_, Below.refl _ _⟩
                have d3 := D3.out
                have d4 := D4.out
                have d6 := D6.out
                have d7 := D7.out
                have b5 := B5.out
                have b6 := B6.out
                clear D3 D4 D6 D7 B5 B6 D Hh Hl
                refine two_eq ?_ ?_
                · simp only [IntKind.wrap_u64]; omega
                · simp only [IntKind.wrap_u64]; omega
              · have e2 : decide (4294967296 ≤ r + 3725290298) = false := decide_eq_false c2
                have c4 : 1 ≤ q := by
                  have hU := HU.out
                  have hQ := HQ.out
                  have d6 := D6.out
                  have d7 := D7.out
                  have b6 := B6.out
                  omega
                go_wp2_with fail
                go_roundw
                case rel =>
                  refine ⟨_, _, rfl, rfl, rfl, ?_⟩
                  have hU := HU.out
                  have hQ := HQ.out
                  have d6 := D6.out
                  have d7 := D7.out
                  have b6 := B6.out
                  omega
                case measure => simp [intOf]; omega
            · have e3 : decide (4294967296 * r + T0 < q * 1983905792) = false := decide_eq_false c3
              obtain rfl : q = Q0 := by
                have hU := HU.out
                have hQ := HQ.out
                have d6 := D6.out
                have d7 := D7.out
                have b6 := B6.out
                omega
              clear HU HQ
              go_wp2_with fail
              go_ret2
              refine ⟨?_, Below.refl _ _⟩
              have d3 := D3.out
              have d4 := D4.out
              have d6 := D6.out
              have d7 := D7.out
              have b5 := B5.out
              have b6 := B6.out
              clear D3 D4 D6 D7 B5 B6 D Hh Hl
              refine two_eq ?_ ?_
              · simp only [IntKind.wrap_u64]; omega
              · simp only [IntKind.wrap_u64]; omega
theorem div_split (h l : Int) (hh : 0 < h ∧ h < 1000000000000000000) (hl : 0 ≤ l ∧ l < 18446744073709551616) : ∃ U T Q V Q0 R, DV h l U T Q V Q0 R := by
  refine ⟨h * 16 + l / 1152921504606846976, (l * 16) % 18446744073709551616, _, ((h * 16 + l / 1152921504606846976) * 4294967296 + (l * 16) % 18446744073709551616 / 4294967296) % 16000000000000000000, _, (((h * 16 + l / 1152921504606846976) * 4294967296 + (l * 16) % 18446744073709551616 / 4294967296) % 16000000000000000000 * 4294967296 + (l * 16) % 18446744073709551616 % 4294967296) % 16000000000000000000,
    rfl, rfl, (Int.ediv_mul_add_emod _ 16000000000000000000).symm, Int.emod_nonneg _ (by omega), Int.emod_lt_of_pos _ (by omega), (Int.ediv_mul_add_emod _ 16000000000000000000).symm, Int.emod_nonneg _ (by omega), Int.emod_lt_of_pos _ (by omega)⟩
def bits_Div64.f (a0 : Int) (a1 : Int) (a2 : Int) : Option (Int × Int) :=
  if a2 = 1000000000000000000 ∧ (0 ≤ a0 ∧ a0 < 1000000000000000000) ∧ (0 ≤ a1 ∧ a1 < 18446744073709551616) then some ((a0 * 18446744073709551616 + a1) / 1000000000000000000, (a0 * 18446744073709551616 + a1) % 1000000000000000000) else none
theorem bits_Div64.calls (a0 : Int) (a1 : Int) (a2 : Int) (r1 : Int) (r2 : Int) (w : World) (h : bits_Div64.f a0 a1 a2 = some (r1, r2)) :
    Calls Try.prog 43 #[.int .u64 a0, .int .u64 a1, .int .u64 a2] w fun e w' => e = .returned (.tuple #[.int .u64 r1, .int .u64 r2]) ∧ Below w.heap.size w w' := by
  unfold bits_Div64.f at h
  by_cases hb : a2 = 1000000000000000000 ∧ (0 ≤ a0 ∧ a0 < 1000000000000000000) ∧ (0 ≤ a1 ∧ a1 < 18446744073709551616)
  · rw [if_pos hb] at h
    obtain ⟨rfl, h0, h1⟩ := hb
    injection h with h
    injection h with e1 e2
    by_cases hz : a0 = 0
    · subst hz
      rw [Int.zero_mul, Int.zero_add] at e1 e2
      subst e1 e2
      exact div_zero a1 ⟨h1⟩ w
    · obtain ⟨U, T, Q, V, Q0, R, D⟩ := div_split a0 a1 ⟨by omega, by omega⟩ h1
      have e3 : r1 = Q * 4294967296 + Q0 := by obtain ⟨d1, d2, d3, d4, d5, d6, d7, d8⟩ := D; omega
      have e4 : r2 = R / 16 := by obtain ⟨d1, d2, d3, d4, d5, d6, d7, d8⟩ := D; omega
      rw [e3, e4]
      exact div_pos a0 a1 U T Q V Q0 R ⟨by omega, by omega⟩ ⟨h1⟩ ⟨D⟩ w
  · rw [if_neg hb] at h
    cases h
end Go.Proofs.Ytbccokfdkieakaa.F
